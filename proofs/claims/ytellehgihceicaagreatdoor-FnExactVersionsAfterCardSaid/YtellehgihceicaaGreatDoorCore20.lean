/-
 CORE, 20: the steps of a walk in fewer words. Over any program.
-/
import GoSem.Core.View
import Derived.Laws.Sem
import Derived.Test.YtellehgihceicaaGreatDoorRows
import Derived.WalkKit
import Derived.Laws.StructEq
import Derived.OrdersHeld
import Derived.Laws.Strings2
import Derived.Laws.BytesString
import Derived.Laws.Externs
import Derived.Lib.Bytealg
import Derived.ProofKit
import Derived.OpenShut
import Derived.Deep.Slices
import Derived.Laws.Cover3
set_option linter.unusedVariables false
set_option linter.unusedSimpArgs false
set_option maxHeartbeats 1600000
namespace Go.Proofs.YtellehgihceicaaGreatDoor
open Go
abbrev Aev:=List (Int × Int)
abbrev Aew:=List (Int × Int × Int × Int)
abbrev Aex:=(Int × Int) × (Int × Int) × Int
abbrev Aey:=List (Int × Int × Int)
abbrev Aez:=(List Bool) × Int × (List Int) × Int
abbrev Ae0:=List (List Int)
abbrev Ae1:=(List Int) × Int
abbrev Ac:=Value
abbrev Ag:=World
abbrev An:=List Nat
abbrev Aj:=UInt8
abbrev Af:=Option
theorem Bb {α:Type} {p:α → Prop} {a:α} {l:List α}:(∀ x,x ∈ a :: l → p x) ↔ p a ∧ ∀ x,x ∈ l → p x:=List.forall_mem_cons
theorem AL {a b:Nat}:¬a < b ↔ b ≤ a:=Nat.not_lt
theorem AX {α:Type} {a:α} {l m:List α}:a ∈ l ++ m ↔ a ∈ l ∨ a ∈ m:=List.mem_append
theorem Cq {α:Type} {l:List α} {i:Nat} (h:i < l.length):l[i]? = some l[i]:=List.getElem?_eq_getElem h
theorem CM {α:Type} {l m:List α}:(l ++ m).length = l.length + m.length:=List.length_append
theorem C9 {p:Prop} [Decidable p]:(decide p = true) = p:=decide_eq_true_eq
theorem Cg (a b:Bool):((a && b) = true) = (a = true ∧ b = true):=Bool.and_eq_true a b
theorem Aa {α β:Type} (a:α) (f:α → Af β):Option.bind (some a) f = f a:=rfl
theorem At {α:Type} {a:α} {l:List α} (m:List α) (h:a ∈ l):a ∈ l ++ m:=List.mem_append_left m h
theorem Bi {α:Type} {a:α} (l:List α) {m:List α} (h:a ∈ m):a ∈ l ++ m:=List.mem_append_right l h
theorem AB (n:Nat):n < n + 1:=Nat.lt_succ_self n
theorem Ay {a b c:Nat} (h:a ≤ b) (e:b ≤ c):a ≤ c:=Nat.le_trans h e
def Ae (x:Int):Int:=IntKind.wrap .i64 x
def Bh (x:Int):Int:=IntKind.wrap .u64 x
def Mx (x:Int):Int:=IntKind.wrap .u8 x
def AK {α:Type} (l:List α) (i:Int):Af α:=if 0 ≤ i then l[i.toNat]? else none
def sl {α:Type} (l:List α) (lo hi:Int):Af (List α):=if 0 ≤ lo ∧ lo ≤ hi ∧ hi ≤ l.length then some ((l.take hi.toNat).drop lo.toNat) else none
def Cl {α:Type} (l m:List α):Af (List α):=if l.length + m.length ≤ 1073741824 then some (l ++ m) else none
def RY {α:Type} (n:Int) (x:α):Af (List α):=if 0 ≤ n ∧ n ≤ 1073741824 then some (List.replicate n.toNat x) else none
def BC {α:Type} (l:List α) (i:Int) (x:α):List α:=l.set i.toNat x
def KB (l:List Int):List Aj:=l.map fun x=>UInt8.ofNat x.toNat
def PV (l:List Aj) (c:Int):Int:=match (List.range l.length).find? (fun i=>l[i]? == some c.toNat.toUInt8) with
 | some i=>(i:Int)
 | none=>-1
def Yp (l:List Aj) (c:Int):Int:=((l.count c.toNat.toUInt8:Nat):Int)
def B3 (k:IntKind) (a b:Int):Int:=k.wrap ((BitVec.ofInt k.bits a &&& BitVec.ofInt k.bits b).toNat:Int)
def Tl (k:IntKind) (a b:Int):Int:=k.wrap ((BitVec.ofInt k.bits a ||| BitVec.ofInt k.bits b).toNat:Int)
def Si (k:IntKind) (a b:Int):Int:=k.wrap ((BitVec.ofInt k.bits a ^^^ BitVec.ofInt k.bits b).toNat:Int)
def Br (k:IntKind) (a b:Int):Int:=a.fdiv (2 ^ (min b.toNat k.bits))
def KD (k:IntKind) (a b:Int):Int:=k.wrap (a * 2 ^ (min b.toNat k.bits))
def Fy (a b:Int):Int:=if a < b then b else a
def Fn (a b:Int):Int:=if b < a then b else a
def Bk {A R:Type} (rest:A → Af R) (body:(A → Af R) → Af R):Af R:=body rest
def Gr {A B R:Type} (rest:A → B → Af R) (body:(A → B → Af R) → Af R):Af R:=body rest
def W0 {A B C R:Type} (rest:A → B → C → Af R) (body:(A → B → C → Af R) → Af R):Af R:=body rest
def Wz {A B C D R:Type} (rest:A → B → C → D → Af R) (body:(A → B → C → D → Af R) → Af R):Af R:=body rest
def jK5 {A B C D E R:Type} (rest:A → B → C → D → E → Af R) (body:(A → B → C → D → E → Af R) → Af R):Af R:=body rest
def Adg {α:Type} (G:α → Prop) (l:List α):Prop:=l.length ≤ 9223372036854775807 ∧ ∀ x ∈ l,G x
def WR {α:Type} (_:α):Prop:=True
def FU:Nat:=4611686018427387904
def NR {γ:Type} (l:List γ) (j:Nat) (u:γ):Af (List γ):=if j < l.length then some (l.set j u) else none
end Go.Proofs.YtellehgihceicaaGreatDoor
namespace Go.Proofs.YtellehgihceicaaGreatDoor
open Go

abbrev E2:=List (Nat × Ac)
def G4:E2 → Nat → Af Ac
 | [],_=>none
 | (k,v) :: r,i=>bif Nat.beq k i then some v else G4 r i
structure St (n:Nat) (σ:E2) (a:Act):Prop where
 size:a.tmps.size = n
 defs:a.defers = []
 get:∀ i v,G4 σ i = some v → a.tmps[i]? = some v
def B4 (σ:E2):Operand → Af Ac
 | .tmp t=>G4 σ t
 | .const v=>some v
 | .global g=>some (.pointer (some ⟨g,0,none⟩))
 | .func f=>some (.func (.func f) #[] #[])
theorem St.eval {n:Nat} {σ:E2} {a:Act} (h:St n σ a) {x:Operand} {v:Ac} (e:B4 σ x = some v):a.eval x = v:=by
 cases x with
 | tmp t =>
  have:=h.get t v e
  simp [Act.eval,this]
 | const u=>exact Option.some.inj e
 | global g=>exact Option.some.inj e
 | func f=>exact Option.some.inj e
theorem St.put {n:Nat} {σ:E2} {a:Act} (h:St n σ a) {d:Nat} (v:Ac) (l:Nat.blt d n = true):St n ((d,v) :: σ) (a.put (some d) v):=by
 have g:d < n:=by simpa using l
 refine ⟨by simp [Act.put,h.size],h.defs,fun i u f=>?_⟩
 simp only [Act.put]
 rw [G4] at f
 by_cases e:d = i
 ·subst e
  simp [cond] at f
  rw [Array.getElem?_setIfInBounds_self_of_lt (by rw [h.size]; exact g),f]
 ·have:Nat.beq d i = false:=by
   cases m:Nat.beq d i with
   | false=>rfl
   | true=>exact absurd (Nat.eq_of_beq_eq_true m) e
  simp [this] at f
  rw [Array.getElem?_setIfInBounds_ne e]
  exact h.get i u f
def Sub (σ:E2):E2 → Prop
 | []=>True
 | (i,v) :: r=>G4 σ i = some v ∧ Sub σ r
theorem Sub.get {σ:E2}:∀ {τ:E2},Sub σ τ → ∀ i v,G4 τ i = some v → G4 σ i = some v
 | [],_,i,v,h=>by simp [G4] at h
 | (k,u) :: r,hs,i,v,h=>by
  rw [G4] at h
  cases f:Nat.beq k i with
  | true =>
   simp [f] at h
   have e:k = i:=Nat.eq_of_beq_eq_true f
   rw [← e,← h]
   exact hs.1
  | false =>
   simp [f] at h
   exact Sub.get hs.2 i v h
theorem St.sub {n:Nat} {σ τ:E2} {a:Act} (h:St n σ a) (f:Sub σ τ):St n τ a :=
 ⟨h.size,h.defs,fun i v e=>h.get i v (f.get i v e)⟩
theorem St.init {n:Nat} {f:List Ac} {σ:E2} (hn:f.length + (n - f.length) = n) (hσ:σ = f.zipIdx.map (fun p=>(p.2,p.1))) :
  St n σ { tmps:=f.toArray ++ Array.replicate (n - f.toArray.size) undef,defers:=[] }:=by
 subst hσ
 refine ⟨by simp; omega,rfl,fun i v h=>?_⟩
 have ab:∀ (l:List Ac) (k:Nat),G4 ((l.zipIdx k).map (fun p=>(p.2,p.1))) i = some v → k ≤ i ∧ l[i - k]? = some v:=by
  intro l
  induction l with
  | nil=>intro k h; simp [G4] at h
  | cons x r ih =>
   intro k m
   simp only [List.zipIdx_cons,List.map_cons,G4] at m
   cases u:Nat.beq k i with
   | true =>
    simp only [u,cond_true,Option.some.injEq] at m
    have e:k = i:=Nat.eq_of_beq_eq_true u
    subst e
    simp [m]
   | false =>
    simp [u] at m
    obtain ⟨h1,g⟩:=ih (k + 1) m
    refine ⟨by omega,?_⟩
    rw [show i - k = (i - (k + 1)) + 1 by omega,List.getElem?_cons_succ]
    exact g
 have g:=(ab f 0 h).2
 simp only [Nat.sub_zero] at g
 have ad:i < f.length:=by
  rcases Nat.lt_or_ge i f.length with s | s
  ·exact s
  ·rw [List.getElem?_eq_none s] at g; cases g
 show (f.toArray ++ Array.replicate (n - f.toArray.size) undef)[i]? = some v
 rw [Array.getElem?_append_left (by simpa using ad)]
 simpa using g

def Uq (ops:Array Oper):List (Af Tmp):=ops.toList.map (·.dst)
def WL (P:Program) (n:Nat) (ds:List (Af Tmp)) (l:List Oper) (σ:E2) (w:Ag) (Q:Exit → Act → Ag → Prop):Prop :=
 ∀ ops,Uq ops = ds → ∀ a,St n σ a → wpList P ops Q l a w
def W (P:Program) (n:Nat) (c:Code) (σ:E2) (w:Ag) (Q:Exit → Act → Ag → Prop):Prop :=
 ∀ a,St n σ a → c.wp P Q a w
section
variable {P:Program} {n:Nat} {σ:E2} {w:Ag} {Q:Exit → Act → Ag → Prop}

theorem Ady {x y:Code} (h:∀ K:Act → Ag → Prop,(∀ σ w,W P n y σ w Q → ∀ a,St n σ a → K a w) → W P n x σ w (Exit.then K Q)):W P n (.seq x y) σ w Q :=
 fun a e=>wp_seq (h _ (fun _ _ f a e=>f a e) a e)
theorem As {id:Nat} {l:List Oper} (h:WL P n (l.map (·.dst)) l σ w Q):W P n (.region id l.toArray false) σ w Q :=
 fun a e=>wp_region_lit (h l.toArray (by simp [Uq]) a e)
theorem Z5 {c:Operand} {x y:Code} {t:Bool} (l:B4 σ c = some (.bool t)) (f:t = true → W P n x σ w Q) (g:t = false → W P n y σ w Q) :
  W P n (.cond c x y) σ w Q :=
 fun a e=>wp_cond_split (e.eval l) (fun h=>f h a e) (fun h=>g h a e)
theorem Aav {c:Operand} {x y:Code} {t:Bool} (g:B4 σ c = some (.bool t)) (f:t = false) (h:W P n y σ w Q):W P n (.cond c x y) σ w Q :=
 Z5 g (fun e=>by rw [f] at e; cases e) (fun _=>h)
theorem Az {id:Nat} {c:Code} (h:W P n c σ w (Exit.inBlock id Q)):W P n (.block id c) σ w Q :=
 fun a e=>wp_block (h a e)
theorem Au (h:∀ a,St n σ a → Q .normal a w):W P n .skip σ w Q:=fun a e=>wp_skip (h a e)
theorem Bd {id:Nat} (h:∀ a,St n σ a → Q (.exit id) a w):W P n (.exit id) σ w Q:=fun a e=>wp_exit (h a e)
theorem Aw (h:∀ a,St n σ a → Q .ret a w):W P n .ret σ w Q:=fun a e=>wp_ret (h a e)
theorem Ah {ds:List (Af Tmp)} (h:∀ a,St n σ a → Q .normal a w):WL P n ds [] σ w Q:=fun _ _ a e=>wpList_nil (h a e)

open Classical in
theorem Adj {c:Code} (I:Nat → Act → Ag → Prop) (m0:Nat) (h0:∀ a,St n σ a → I m0 a w)
  (hr:∀ m a w,I m a w → c.wp P (Exit.then (fun s w'=>∃ f,f < m ∧ I f s w') Q) a w):W P n (.loop c) σ w Q:=by
 intro a ha
 have v:∀ a w,(∃ m,I m a w) → ∃ m,I m a w ∧ ∀ k,I k a w → m ≤ k:=by
  intro a w ⟨m,hm⟩
  induction m using Nat.strongRecOn with
  | _ m ih =>
   by_cases hk:∃ k,k < m ∧ I k a w
   ·obtain ⟨k,l,g⟩:=hk
    exact ih k l g
   ·exact ⟨m,hm,fun k g=>Nat.le_of_not_lt fun l=>hk ⟨k,l,g⟩⟩
 refine wp_loop (fun a w=>∃ m,I m a w) (fun a w=>if h:∃ m,I m a w then Classical.choose (v a w h) else 0) ⟨m0,h0 a ha⟩ ?_
 intro a w g
 have hs:=Classical.choose_spec (v a w g)
 refine Code.wp_mono (fun e s w' hq=>?_) (hr _ a w hs.1)
 cases e with
 | normal =>
  obtain ⟨f,l,u⟩:=hq
  refine ⟨⟨f,u⟩,?_⟩
  rw [dif_pos g,dif_pos (⟨f,u⟩:∃ m,I m s w')]
  have ad:=Classical.choose_spec (v s w' ⟨f,u⟩)
  exact Nat.lt_of_le_of_lt (ad.2 f u) l
 | _=>exact hq

variable {ds:List (Af Tmp)} {d:Nat} {T:TypeId} {pos:String} {af:Array Edge} {rest:List Oper} {x y z:Operand}
theorem CF {op:Op} {v:Ac} {w':Ag} (l:Nat.blt d n = true)
  (f:∀ ρ:Operand → Ac,(∀ x v,B4 σ x = some v → ρ x = v) → (execOp ρ ⟨some d,op,T,pos,af,none⟩).run P w = .ok (.value v) w')
  (h:WL P n ds rest ((d,v) :: σ) w' Q):WL P n ds (⟨some d,op,T,pos,af,none⟩ :: rest) σ w Q:=by
 intro ops m a e
 refine wpList_plain rfl fun K g=>?_
 unfold Oper.wp
 rw [f a.eval (fun x v s=>e.eval s)]
 exact g _ _ (h ops m _ (e.put v l))
theorem Ab0 {op:Op} {w':Ag}
  (f:∀ ρ:Operand → Ac,(∀ x v,B4 σ x = some v → ρ x = v) → (execOp ρ ⟨none,op,T,pos,af,none⟩).run P w = .ok .skip w')
  (h:WL P n ds rest σ w' Q):WL P n ds (⟨none,op,T,pos,af,none⟩ :: rest) σ w Q:=by
 intro ops l a e
 refine wpList_plain rfl fun K g=>?_
 unfold Oper.wp
 rw [f a.eval (fun x v m=>e.eval m)]
 exact g _ _ (h ops l _ e)
theorem AA {v:Ac} {b:Bool} (g:Nat.blt d n = true) (l:B4 σ x = some (.bool b)) (m:b = true) (f:B4 σ y = some v) (h:WL P n ds rest ((d,v) :: σ) w Q) :
  WL P n ds (⟨some d,.pick x y z,T,pos,af,none⟩ :: rest) σ w Q :=
 CF g (fun ρ e=>by subst m; simp [execOp,e _ _ l,e _ _ f,asBool]) h
theorem A8 {v:Ac} {b:Bool} (g:Nat.blt d n = true) (l:B4 σ x = some (.bool b)) (m:b = false) (f:B4 σ z = some v) (h:WL P n ds rest ((d,v) :: σ) w Q) :
  WL P n ds (⟨some d,.pick x y z,T,pos,af,none⟩ :: rest) σ w Q :=
 CF g (fun ρ e=>by subst m; simp [execOp,e _ _ l,e _ _ f,asBool]) h
theorem Adm {g:Nat} {s:Tmp} {b want:Bool} {l:Af Tmp} {op:Op} (f:ds[g]? = some (some s)) (hv:G4 σ s = some (.bool b)) (hb:b = want)
  (h:WL P n ds (⟨l,op,T,pos,af,none⟩ :: rest) σ w Q):WL P n ds (⟨l,op,T,pos,af,some (g,want)⟩ :: rest) σ w Q:=by
 intro ops v a u
 have hd:(ops[g]?).bind (·.dst) = some s:=by
  rw [← v] at f
  simp only [Uq,List.getElem?_map,Array.getElem?_toList] at f
  cases m:ops[g]? with
  | none=>rw [m] at f; cases f
  | some o'=>rw [m] at f; simpa using f
 have hy:yielded ops a.tmps g = some want:=by
  unfold yielded
  rw [hd]
  simp [u.get s _ hv,hb]
 have e:=h ops v a u
 unfold wpList at e ⊢
 simp only [Region.wanted,hy,if_true,beq_self_eq_true] at e ⊢
 rcases e with e | e
 ·exact .inl e
 ·exact .inr e
theorem Ab1 {g:Nat} {s:Tmp} {b want:Bool} {op:Op} (v:Nat.blt d n = true) (e:ds[g]? = some (some s)) (hv:G4 σ s = some (.bool b)) (hb:b = !want)
  (h:WL P n ds rest ((d,undef) :: σ) w Q):WL P n ds (⟨some d,op,T,pos,af,some (g,want)⟩ :: rest) σ w Q:=by
 intro ops m a l
 have hd:(ops[g]?).bind (·.dst) = some s:=by
  rw [← m] at e
  simp only [Uq,List.getElem?_map,Array.getElem?_toList] at e
  cases f:ops[g]? with
  | none=>rw [f] at e; cases e
  | some o'=>rw [f] at e; simpa using e
 have u:yielded ops a.tmps g = some (!want):=by
  unfold yielded
  rw [hd]
  simp [l.get s _ hv,hb]
 unfold wpList
 rw [if_neg (by simp [Region.wanted,u])]
 exact h ops m _ (l.put undef v)
theorem Dn {g:Nat} {s:Tmp} {want:Bool} {op:Op} (v:Nat.blt d n = true) (e:ds[g]? = some (some s)) (hv:G4 σ s = some undef)
  (h:WL P n ds rest ((d,undef) :: σ) w Q):WL P n ds (⟨some d,op,T,pos,af,some (g,want)⟩ :: rest) σ w Q:=by
 intro ops m a l
 have hd:(ops[g]?).bind (·.dst) = some s:=by
  rw [← m] at e
  simp only [Uq,List.getElem?_map,Array.getElem?_toList] at e
  cases f:ops[g]? with
  | none=>rw [f] at e; cases e
  | some o'=>rw [f] at e; simpa using e
 have u:yielded ops a.tmps g = none:=by
  unfold yielded
  rw [hd]
  simp [l.get s _ hv,undef]
 unfold wpList
 rw [if_neg (by simp [Region.wanted,u])]
 exact h ops m _ (l.put undef v)
variable {k:IntKind} {a b:Int} {U:TypeId}
theorem MR (g:Nat.blt d n = true) (l:B4 σ x = some (.int k a)) (f:B4 σ y = some (.int k b)) (m:b ≠ 0) (h:WL P n ds rest ((d,.int k (k.wrap (a.tdiv b))) :: σ) w Q) :
  WL P n ds (⟨some d,.binOp .quo T x y U,T,pos,af,none⟩ :: rest) σ w Q :=
 CF g (fun ρ e=>by simp [execOp,e _ _ l,e _ _ f,eqGuard,binOp,Op.intDiv,m]) h
theorem Q6 (g:Nat.blt d n = true) (l:B4 σ x = some (.int k a)) (f:B4 σ y = some (.int k b)) (m:b ≠ 0) (h:WL P n ds rest ((d,.int k (a.tmod b)) :: σ) w Q) :
  WL P n ds (⟨some d,.binOp .rem T x y U,T,pos,af,none⟩ :: rest) σ w Q :=
 CF g (fun ρ e=>by simp [execOp,e _ _ l,e _ _ f,eqGuard,binOp,Op.intDiv,m]) h
variable {TB:TypeId}
variable {p q:Bool}
theorem TR (e:P.underlying T = some .bool):(Op.equal T (.bool p) (.bool q)).run P w = .ok (p == q) w:=by
 unfold Op.equal Op.maxDepth
 rw [Op.equalIn]
 simp only [Sem.run_bind,run_underlying e,Result.andThen_ok,Sem.run_pure]
theorem Xy (g:P.underlying T = some .bool) (l:Nat.blt d n = true) (m:B4 σ x = some (.bool p)) (f:B4 σ y = some (.bool q)) (h:WL P n ds rest ((d,.bool (p != q)) :: σ) w Q) :
  WL P n ds (⟨some d,.binOp .neq T x y U,TB,pos,af,none⟩ :: rest) σ w Q :=
 CF l (fun ρ e=>by simp only [execOp,e _ _ m,e _ _ f,eqGuard_at_bool,binOp,Sem.run_bind,Sem.run_pure,TR g,Result.andThen_ok,bne]) h
theorem QZ {xs:List Operand} {vs:List Ac} (e:xs.map (B4 σ) = vs.map some) (ρ:Operand → Ac) (g:∀ x v,B4 σ x = some v → ρ x = v):xs.map ρ = vs:=by
 induction xs generalizing vs with
 | nil=>cases vs <;> simp_all
 | cons x r f =>
  cases vs with
  | nil=>simp at e
  | cons v s =>
   simp only [List.map_cons,List.cons.injEq] at e ⊢
   exact ⟨g _ _ e.1,f e.2⟩
theorem A7 {f:FuncId} {xs:List Operand} {m:Array TypeId} {vs:List Ac} {R:Ending → Ag → Prop} (hn:Nat.blt d n = true)
  (s:∀ args w,(callFunc f args).run P w = .ok (.enter f args) w) (u:Calls P f vs.toArray w R) (g:xs.map (B4 σ) = vs.map some)
  (h:∀ e w',R e w' → ∃ v,e = .returned v ∧ WL P n ds rest ((d,v) :: σ) w' Q) :
  WL P n ds (⟨some d,.call ⟨.value (.func f),xs.toArray,m⟩,T,pos,af,none⟩ :: rest) σ w Q:=by
 intro ops ho a l
 refine wpList_plain rfl fun K hK=>?_
 unfold Oper.wp
 have he:(execOp a.eval ⟨some d,.call ⟨.value (.func f),xs.toArray,m⟩,T,pos,af,none⟩).run P w = .ok (.enter f vs.toArray) w:=by
  have ab:=QZ g a.eval (fun x v g=>l.eval g)
  simp [execOp,resolve,Deferred.ofValue,invoke,s,ab,Act.eval]
 rw [he]
 simp only [Oper.upon]
 refine u.mono fun e w' hR=>?_
 obtain ⟨v,rfl,hv⟩:=h e w' hR
 exact hK _ _ (hv ops ho _ (l.put v hn))
end
theorem WG {P:Program} {f:FuncId} {e:Func} {c:Code} {g:List Ac} {w:Ag} {R:Ending → Ag → Prop} {n:Nat}
  (s:P.funcs[f]? = some e) (v:e.body = some c) (m:e.ntmps = n) (u:g.length + (n - g.length) = n) {σ:E2} (l:σ = g.zipIdx.map (fun p=>(p.2,p.1)))
  (h:W P n c σ w (bodyPost P e R)):Calls P f g.toArray w R:=by
 subst m
 exact calls_of_wp s v (h _ (St.init u l))
end Go.Proofs.YtellehgihceicaaGreatDoor
namespace Go.Proofs.YtellehgihceicaaGreatDoor
open Go Go.RowKit

def Z3 {A B C:Type} (R:A → B → C → Prop):List A → List B → List C → Prop
 | [],[],[]=>True
 | a :: xs,b :: ys,c :: zs=>R a b c ∧ Z3 R xs ys zs
 | _,_,_=>False
section
variable {A B C:Type} {R R':A → B → C → Prop}
theorem Z3.mono (h:∀ a b c,R a b c → R' a b c):∀ {xs:List A} {e:List B} {zs:List C},Z3 R xs e zs → Z3 R' xs e zs
 | [],[],[],_=>trivial
 | _ :: _,_ :: _,_ :: _,hz=>⟨h _ _ _ hz.1,Z3.mono h hz.2⟩
 | [],[],_ :: _,hz=>hz.elim
 | [],_ :: _,_,hz=>hz.elim
 | _ :: _,[],_,hz=>hz.elim
 | _ :: _,_ :: _,[],hz=>hz.elim
theorem Z3.len:∀ {xs:List A} {e:List B} {zs:List C},Z3 R xs e zs → xs.length = zs.length ∧ e.length = zs.length
 | [],[],[],_=>⟨rfl,rfl⟩
 | _ :: _,_ :: _,_ :: _,hz=>by
  have:=Z3.len hz.2
  simp [this.1,this.2]
 | [],[],_ :: _,hz=>hz.elim
 | [],_ :: _,_,hz=>hz.elim
 | _ :: _,[],_,hz=>hz.elim
 | _ :: _,_ :: _,[],hz=>hz.elim
theorem Z3.get:∀ {xs:List A} {e:List B} {zs:List C},Z3 R xs e zs → ∀ (i:Nat) c,zs[i]? = some c → ∃ a b,xs[i]? = some a ∧ e[i]? = some b ∧ R a b c
 | [],[],[],_,i,c,hc=>by simp at hc
 | a :: xs,b :: e,c0 :: zs,hz,0,c,hc=>by
  simp at hc
  subst hc
  exact ⟨a,b,rfl,rfl,hz.1⟩
 | a :: xs,b :: e,c0 :: zs,hz,i + 1,c,hc=>by
  simp at hc
  obtain ⟨f,l,h1,g,h⟩:=Z3.get hz.2 i c hc
  exact ⟨f,l,by simpa using h1,by simpa using g,h⟩
 | [],[],_ :: _,hz,_,_,_=>hz.elim
 | [],_ :: _,_,hz,_,_,_=>hz.elim
 | _ :: _,[],_,hz,_,_,_=>hz.elim
 | _ :: _,_ :: _,[],hz,_,_,_=>hz.elim
theorem Z3.app:∀ {xs:List A} {l:List B} {zs:List C} {g:List A} {e:List B} {f:List C},Z3 R xs l zs → Z3 R g e f → Z3 R (xs ++ g) (l ++ e) (zs ++ f)
 | [],[],[],_,_,_,_,h=>h
 | _ :: _,_ :: _,_ :: _,_,_,_,hz,h=>⟨hz.1,Z3.app hz.2 h⟩
 | [],[],_ :: _,_,_,_,hz,_=>hz.elim
 | [],_ :: _,_,_,_,_,hz,_=>hz.elim
 | _ :: _,[],_,_,_,_,hz,_=>hz.elim
 | _ :: _,_ :: _,[],_,_,_,hz,_=>hz.elim
theorem Z3.set:∀ {xs:List A} {e:List B} {zs:List C},Z3 R xs e zs → ∀ (i:Nat) a b c,i < zs.length → R a b c → Z3 R (xs.set i a) (e.set i b) (zs.set i c)
 | [],[],[],_,i,_,_,_,hi,_=>by simp at hi
 | _ :: _,_ :: _,_ :: _,hz,0,_,_,_,_,h=>⟨h,hz.2⟩
 | _ :: _,_ :: _,_ :: _,hz,i + 1,a,b,c,hi,h=>⟨hz.1,Z3.set hz.2 i a b c (by simpa using hi) h⟩
 | [],[],_ :: _,hz,_,_,_,_,_,_=>hz.elim
 | [],_ :: _,_,hz,_,_,_,_,_,_=>hz.elim
 | _ :: _,[],_,hz,_,_,_,_,_,_=>hz.elim
 | _ :: _,_ :: _,[],hz,_,_,_,_,_,_=>hz.elim
theorem Z3.of:∀ {xs:List A} {e:List B} {zs:List C},xs.length = zs.length → e.length = zs.length → (∀ (i:Nat) a b c,xs[i]? = some a → e[i]? = some b → zs[i]? = some c → R a b c) → Z3 R xs e zs
 | [],[],[],_,_,_=>trivial
 | a :: xs,b :: e,c :: zs,h1,h2,h=>⟨h 0 a b c rfl rfl rfl,Z3.of (by simpa using h1) (by simpa using h2) fun i a b c f l g=>h (i + 1) a b c (by simpa using f) (by simpa using l) (by simpa using g)⟩
 | [],_,_ :: _,h1,_,_=>by simp at h1
 | _ :: _,_,[],h1,_,_=>by simp at h1
 | [],_ :: _,[],_,h2,_=>by simp at h2
 | _ :: _,[],_ :: _,_,h2,_=>by simp at h2
end

structure Sh (α:Type) where
 sz:Nat
 zero:List Ac
 dflt:α
 rd:(Nat → Prop) → Ag → List Ac → α → Prop
 own:An → Ag → List Ac → α → Prop
 rd_len:∀ {S w cs x},rd S w cs x → cs.length = sz
 rd_one:∀ {S w cs x},rd S w cs x → ∀ c ∈ cs,c.oneCell' = true
 rd_keep:∀ {S w w' cs x},rd S w cs x → (∀ b,S b → w'.heap[b]? = w.heap[b]?) → rd S w' cs x
 rd_mono:∀ {S S' w cs x},rd S w cs x → (∀ b,S b → S' b) → rd S' w cs x
 own_keep:∀ {F w w' cs x},own F w cs x → (∀ b ∈ F,w'.heap[b]? = w.heap[b]?) → own F w' cs x
 own_rd:∀ {F w cs x},own F w cs x → rd (· ∈ F) w cs x
 own_lt:∀ {F w cs x},own F w cs x → ∀ b ∈ F,b < w.heap.size
 zero_own:∀ w,own [] w zero dflt
def Ac2:TypeDesc → Bool
 | .struct _ | .array _ _=>true
 | _=>false
structure Ty (P:Program) (α:Type) extends Sh α where
 tid:TypeId
 bts:Nat
 agg:Bool
 sz_pos:0 < sz
 bts_le:bts ≤ 65536
 info:∃ i z,P.info? tid = some i ∧ i.size = sz ∧ i.bytes = bts ∧ i.zero = some z ∧ z.cells = zero.toArray
 und:∃ d,P.underlying tid = some d ∧ Ac2 d = agg
 one1:agg = false → sz = 1
def Sh.flat {α:Type} (f:α → List Ac) (sz:Nat) (dflt:α) (hl:∀ x,(f x).length = sz) (h1:∀ x,∀ c ∈ f x,c.oneCell' = true):Sh α where
 sz:=sz
 zero:=f dflt
 dflt:=dflt
 rd:=fun _ _ cs x=>cs = f x
 own:=fun F _ cs x=>F = [] ∧ cs = f x
 rd_len:=fun h=>by rw [h]; exact hl _
 rd_one:=fun h=>by rw [h]; exact h1 _
 rd_keep:=fun h _=>h
 rd_mono:=fun h _=>h
 own_keep:=fun h _=>h
 own_rd:=fun h=>h.2
 own_lt:=fun h b hb=>by rw [h.1] at hb; cases hb
 zero_own:=fun _=>⟨rfl,rfl⟩
def Sh.prod {α β:Type} (s:Sh α) (t:Sh β):Sh (α × β) where
 sz:=s.sz + t.sz
 zero:=s.zero ++ t.zero
 dflt:=(s.dflt,t.dflt)
 rd:=fun S w cs x=>∃ a b,cs = a ++ b ∧ s.rd S w a x.1 ∧ t.rd S w b x.2
 own:=fun F w cs x=>∃ a b Fa Fb,cs = a ++ b ∧ F = Fa ++ Fb ∧ s.own Fa w a x.1 ∧ t.own Fb w b x.2
 rd_len:=fun ⟨a,b,h,ha,hb⟩=>by rw [h,CM,s.rd_len ha,t.rd_len hb]
 rd_one:=fun ⟨a,b,h,ha,hb⟩ c hc=>by
  rw [h] at hc
  rcases AX.1 hc with hc | hc
  ·exact s.rd_one ha c hc
  ·exact t.rd_one hb c hc
 rd_keep:=fun ⟨a,b,h,ha,hb⟩ hk=>⟨a,b,h,s.rd_keep ha hk,t.rd_keep hb hk⟩
 rd_mono:=fun ⟨a,b,h,ha,hb⟩ hk=>⟨a,b,h,s.rd_mono ha hk,t.rd_mono hb hk⟩
 own_keep:=fun ⟨a,b,Fa,Fb,h,hF,ha,hb⟩ hk=>⟨a,b,Fa,Fb,h,hF,s.own_keep ha fun x hx=>hk x (by rw [hF]; exact At _ hx),t.own_keep hb fun x hx=>hk x (by rw [hF]; exact Bi _ hx)⟩
 own_rd:=fun ⟨a,b,Fa,Fb,h,hF,ha,hb⟩=>⟨a,b,h,s.rd_mono (s.own_rd ha) fun x hx=>by rw [hF]; exact At _ hx,t.rd_mono (t.own_rd hb) fun x hx=>by rw [hF]; exact Bi _ hx⟩
 own_lt:=fun ⟨a,b,Fa,Fb,h,hF,ha,hb⟩ x hx=>by
  rw [hF] at hx
  rcases AX.1 hx with hx | hx
  ·exact s.own_lt ha x hx
  ·exact t.own_lt hb x hx
 zero_own:=fun w=>⟨_,_,[],[],rfl,rfl,s.zero_own w,t.zero_own w⟩
variable {P:Program}
def ElemAt {α:Type} (e:Ty P α) (S:Nat → Prop) (w:Ag) (p:Addr) (x:α):Prop :=
 S p.block ∧ ∃ cs,e.rd S w cs x ∧ ∀ (j:Nat) c,cs[j]? = some c → w.cell? (p.add j) = some c
def rdS {α:Type} (e:Ty P α) (S:Nat → Prop) (w:Ag) (v:Ac) (l:List α):Prop :=
 ∃ a cap,v = .slice a l.length cap ∧ l.length ≤ cap ∧ (l = [] ∨ ∃ ad:Addr,a = some ad ∧ ∀ (i:Nat) x,l[i]? = some x → ElemAt e S w (ad.add (i * e.sz)) x)
def ownS {α:Type} (e:Ty P α) (F:An) (w:Ag) (v:Ac) (l:List α):Prop :=
 (v = .slice none 0 0 ∧ l = [] ∧ F = []) ∨
 ∃ g cap cur css Fs,v = .slice (some ⟨g,0,none⟩) l.length cap ∧ w.heap[g]? = some (.cells cur e.tid (0,0)) ∧ l.length ≤ cap ∧ cap ≤ maxLen ∧ cur.size = cap * e.sz ∧
  cur.toList.take (l.length * e.sz) = css.flatten ∧ Z3 (fun F cs x=>e.own F w cs x) Fs css l ∧ F = g :: Fs.flatten
theorem OD {w w':Ag} {a:Addr} (h:w'.heap[a.block]? = w.heap[a.block]?):w'.cell? a = w.cell? a:=World.cell?_of_block h
theorem JY (a:Addr) (n:Nat):(a.add n).block = a.block:=by unfold Addr.add; split <;> rfl
theorem P1 (a:Addr) (n m:Nat):(a.add n).add m = a.add (n + m):=by
 unfold Addr.add
 by_cases h1:n = 0 <;> by_cases e:m = 0 <;> simp [h1,e] <;> omega
theorem ElemAt.keep {α:Type} {e:Ty P α} {S:Nat → Prop} {w w':Ag} {p:Addr} {x:α} (h:ElemAt e S w p x) (f:∀ b,S b → w'.heap[b]? = w.heap[b]?):ElemAt e S w' p x:=by
 obtain ⟨h1,cs,g,l⟩:=h
 refine ⟨h1,cs,e.rd_keep g f,fun j c m=>?_⟩
 exact (OD (w:=w) (w':=w') (a:=p.add j) (by rw [JY]; exact f _ h1)).trans (l j c m)
theorem ElemAt.mono {α:Type} {e:Ty P α} {S S':Nat → Prop} {w:Ag} {p:Addr} {x:α} (h:ElemAt e S w p x) (f:∀ b,S b → S' b):ElemAt e S' w p x:=by
 obtain ⟨h1,cs,g,l⟩:=h
 exact ⟨f _ h1,cs,e.rd_mono g f,l⟩
theorem Pb {cs:List (List Ac)} {sz:Nat} (h:∀ c ∈ cs,c.length = sz):∀ (i j:Nat) c,cs[i]? = some c → ∀ u,c[j]? = some u → cs.flatten[i * sz + j]? = some u:=by
 induction cs with
 | nil=>intro i j c e; simp at e
 | cons d r l =>
  intro i j c e u f
  have g:d.length = sz:=h d (by simp)
  cases i with
  | zero =>
   simp at e
   subst e
   rw [List.flatten_cons,List.getElem?_append_left (by simp; exact (List.getElem?_eq_some_iff.1 f).1)]
   simpa using f
  | succ i =>
   simp at e
   rw [List.flatten_cons,List.getElem?_append_right (by rw [g,Nat.succ_mul]; omega),g,show (i + 1) * sz + j - sz = i * sz + j by rw [Nat.succ_mul]; omega]
   exact l (fun c e=>h c (by simp [e])) i j c e u f
theorem Z3.sz {α:Type} {e:Ty P α} {w:Ag} {Fs:List (An)} {css:List (List Ac)} {l:List α} (h:Z3 (fun F cs x=>e.own F w cs x) Fs css l):∀ c ∈ css,c.length = e.sz:=by
 intro c m
 obtain ⟨i,f⟩:=List.getElem?_of_mem m
 have u:i < l.length:=by rw [← h.len.2]; exact (List.getElem?_eq_some_iff.1 f).1
 obtain ⟨a,b,_,g,s⟩:=h.get i l[i] (by simp [u])
 rw [f] at g
 cases g
 exact e.rd_len (e.own_rd s)
theorem Ky {cs:List (List Ac)} {sz:Nat} (h:∀ c ∈ cs,c.length = sz):cs.flatten.length = cs.length * sz:=by
 induction cs with
 | nil=>simp
 | cons d r e =>
  rw [List.flatten_cons,CM,e (fun c f=>h c (by simp [f])),h d (by simp),List.length_cons,Nat.succ_mul,Nat.add_comm]
theorem ownS.rd {α:Type} {e:Ty P α} {F:An} {w:Ag} {v:Ac} {l:List α} (h:ownS e F w v l):rdS e (· ∈ F) w v l:=by
 rcases h with ⟨rfl,rfl,rfl⟩ | ⟨g,cap,u,css,Fs,rfl,hg,hn,hm,hc,ht,m,rfl⟩
 ·exact ⟨none,0,rfl,Nat.le_refl _,.inl rfl⟩
 ·refine ⟨_,cap,rfl,hn,.inr ⟨⟨g,0,none⟩,rfl,fun i x hx=>?_⟩⟩
  obtain ⟨a,b,h1,h2,h3⟩:=m.get i x hx
  refine ⟨by rw [JY]; simp,b,e.rd_mono (e.own_rd h3) fun y s=>?_,fun j c hj=>?_⟩
  ·simp only [List.mem_cons,List.mem_flatten]
   exact .inr ⟨a,List.mem_of_getElem? h1,s⟩
  ·rw [P1,Addr.add_lit,cell_of_row w g _ u e.tid (0,0) hg]
   have f:=Pb m.sz i j b h2 c hj
   rw [← ht,List.getElem?_take] at f
   split at f
   ·simpa using f
   ·cases f
theorem ownS.keep {α:Type} {e:Ty P α} {F:An} {w w':Ag} {v:Ac} {l:List α} (h:ownS e F w v l) (u:∀ b ∈ F,w'.heap[b]? = w.heap[b]?):ownS e F w' v l:=by
 rcases h with h | ⟨g,cap,ac,css,Fs,hv,hg,hn,hm,f,ht,m,rfl⟩
 ·exact .inl h
 ·refine .inr ⟨g,cap,ac,css,Fs,hv,by rw [u g (by simp)]; exact hg,hn,hm,f,ht,?_,rfl⟩
  refine Z3.of m.len.1 m.len.2 fun i a b c s hb f=>?_
  obtain ⟨a',b',h1,h2,h3⟩:=m.get i c f
  rw [s] at h1; rw [hb] at h2
  cases h1; cases h2
  exact e.own_keep h3 fun y hy=>u y (by simp only [List.mem_cons,List.mem_flatten]; exact .inr ⟨a,List.mem_of_getElem? s,hy⟩)
theorem ownS.lt {α:Type} {e:Ty P α} {F:An} {w:Ag} {v:Ac} {l:List α} (h:ownS e F w v l):∀ b ∈ F,b < w.heap.size:=by
 rcases h with ⟨_,_,rfl⟩ | ⟨g,cap,ae,css,Fs,hv,u,hn,hm,hc,ht,s,rfl⟩
 ·intro b f; cases f
 ·intro b f
  simp only [List.mem_cons,List.mem_flatten] at f
  rcases f with rfl | ⟨a,ha,f⟩
  ·exact (Array.getElem?_eq_some_iff.1 u).1
  ·obtain ⟨i,m⟩:=List.getElem?_of_mem ha
   have ab:i < l.length:=by rw [← s.len.1]; exact (List.getElem?_eq_some_iff.1 m).1
   obtain ⟨a',b',h1,_,h3⟩:=s.get i l[i] (by simp [ab])
   rw [m] at h1
   cases h1
   exact e.own_lt h3 b f
theorem rdS.keep {α:Type} {e:Ty P α} {S:Nat → Prop} {w w':Ag} {v:Ac} {l:List α} (h:rdS e S w v l) (f:∀ b,S b → w'.heap[b]? = w.heap[b]?):rdS e S w' v l:=by
 obtain ⟨a,cap,s,m,h⟩:=h
 refine ⟨a,cap,s,m,h.imp id fun ⟨ad,g,ab⟩=>⟨ad,g,fun i x u=>(ab i x u).keep f⟩⟩
theorem rdS.mono {α:Type} {e:Ty P α} {S S':Nat → Prop} {w:Ag} {v:Ac} {l:List α} (h:rdS e S w v l) (f:∀ b,S b → S' b):rdS e S' w v l:=by
 obtain ⟨a,cap,s,m,h⟩:=h
 refine ⟨a,cap,s,m,h.imp id fun ⟨ad,g,ab⟩=>⟨ad,g,fun i x u=>(ab i x u).mono f⟩⟩
def Sh.slice {α:Type} (e:Ty P α):Sh (List α) where
 sz:=1
 zero:=[.slice none 0 0]
 dflt:=[]
 rd:=fun S w cs l=>∃ v,cs = [v] ∧ rdS e S w v l
 own:=fun F w cs l=>∃ v,cs = [v] ∧ ownS e F w v l
 rd_len:=fun ⟨v,h,_⟩=>by rw [h]; rfl
 rd_one:=fun ⟨v,h,hv⟩ c hc=>by
  obtain ⟨a,cap,rfl,_⟩:=hv
  rw [h] at hc
  simp at hc
  rw [hc]
  rfl
 rd_keep:=fun ⟨v,h,hv⟩ hk=>⟨v,h,hv.keep hk⟩
 rd_mono:=fun ⟨v,h,hv⟩ hk=>⟨v,h,hv.mono hk⟩
 own_keep:=fun ⟨v,h,hv⟩ hk=>⟨v,h,hv.keep hk⟩
 own_rd:=fun ⟨v,h,hv⟩=>⟨v,h,hv.rd⟩
 own_lt:=fun ⟨v,h,hv⟩=>hv.lt
 zero_own:=fun _=>⟨_,rfl,.inl ⟨rfl,rfl,rfl⟩⟩

structure Res where
 fp:An
 ok:Ag → Prop
def Res.good (base:Nat) (w:Ag) (r:Res):Prop :=
 r.fp.Nodup ∧ (∀ b ∈ r.fp,base ≤ b ∧ b < w.heap.size) ∧ ∀ w':Ag,(∀ b ∈ r.fp,w'.heap[b]? = w.heap[b]?) → r.ok w'
def Sep (base:Nat) (w:Ag) (L:List Res):Prop :=
 (∀ r ∈ L,r.good base w) ∧ L.Pairwise fun r s=>∀ b ∈ r.fp,b ∉ s.fp
def A9 (b:Nat) (T:TypeId) (cs:List Ac):Res:=⟨[b],fun w=>w.heap[b]? = some (.cells cs.toArray T (0,0))⟩
def Ab {α:Type} (e:Ty P α) (F:An) (v:Ac) (l:List α):Res:=⟨F,fun w=>ownS e F w v l⟩
def Aet {α:Type} (e:Ty P α) (F:An) (v:Ac) (l:List α):Res:=⟨F,fun w=>rdS e (· ∈ F) w v l⟩
def E7:List Res → Nat → Af Res
 | [],_=>none
 | r :: _,0=>some r
 | _ :: L,i + 1=>E7 L i
def MC:List Res → Nat → Res → List Res
 | [],_,_=>[]
 | _ :: L,0,r'=>r' :: L
 | r :: L,i + 1,r'=>r :: MC L i r'
theorem NI:∀ (L:List Res) (i:Nat),E7 L i = L[i]?
 | [],_=>by simp [E7]
 | r :: L,0=>by simp [E7]
 | r :: L,i + 1=>by simp [E7,NI L i]
theorem XF:∀ (L:List Res) (i:Nat) (r:Res),MC L i r = L.set i r
 | [],_,_=>by simp [MC]
 | r :: L,0,_=>by simp [MC]
 | r :: L,i + 1,r'=>by simp [MC,XF L i r']
section
variable {base:Nat} {w w':Ag} {L:List Res} {r r':Res}
theorem Res.good.ok (h:r.good base w):r.ok w:=h.2.2 w fun _ _=>rfl
theorem Res.good.keep (h:r.good base w) (l:w.heap.size ≤ w'.heap.size) (f:∀ b ∈ r.fp,w'.heap[b]? = w.heap[b]?):r.good base w' :=
 ⟨h.1,fun b e=>⟨(h.2.1 b e).1,Nat.lt_of_lt_of_le (h.2.1 b e).2 l⟩,fun g m=>h.2.2 g fun b e=>(m b e).trans (f b e)⟩
theorem Sep.nil (base:Nat) (w:Ag):Sep base w []:=⟨fun _ h=>(by cases h),.nil⟩
theorem Sep.get (h:Sep base w L) {i:Nat} (e:E7 L i = some r):r.good base w:=h.1 r (List.mem_of_getElem? (by rw [← NI]; exact e))
theorem Sep.ok (h:Sep base w L) {i:Nat} (e:E7 L i = some r):r.ok w:=(h.get e).ok
theorem Sep.keep (h:Sep base w L) (g:w.heap.size ≤ w'.heap.size) (l:∀ b,base ≤ b → b < w.heap.size → w'.heap[b]? = w.heap[b]?):Sep base w' L :=
 ⟨fun r e=>(h.1 r e).keep g fun b f=>l b ((h.1 r e).2.1 b f).1 ((h.1 r e).2.1 b f).2,h.2⟩
theorem Sep.below (h:Sep base w L) (e:Below w.heap.size w w'):Sep base w' L:=h.keep e.size fun b _ f=>e.block b f
theorem Sep.push (h:Sep base w L) (e:Below w.heap.size w w') (u:r.fp.Nodup) (g:∀ b ∈ r.fp,w.heap.size ≤ b ∧ b < w'.heap.size) (aa:base ≤ w.heap.size)
  (m:∀ w'':Ag,(∀ b ∈ r.fp,w''.heap[b]? = w'.heap[b]?) → r.ok w''):Sep base w' (r :: L):=by
 have l:=h.below e
 refine ⟨fun s f=>?_,List.Pairwise.cons (fun s f b e v=>?_) l.2⟩
 ·cases f with
  | head=>exact ⟨u,fun b e=>⟨Ay aa (g b e).1,(g b e).2⟩,m⟩
  | tail _ f=>exact l.1 s f
 ·have h1:=(h.1 s f).2.1 b v
  have h2:=g b e
  omega
theorem Sep.push0 (h:Sep base w L) (l:r.fp = []) (m:∀ g:Ag,r.ok g):Sep base w (r :: L):=by
 refine ⟨fun s f=>?_,List.Pairwise.cons (fun s f b e u=>?_) h.2⟩
 ·cases f with
  | head=>exact ⟨(by rw [l]; exact List.nodup_nil),(fun b e=>by rw [l] at e; exact (by cases e)),fun g _=>m g⟩
  | tail _ f=>exact h.1 s f
 ·rw [l] at e; cases e
theorem Mb {R:Res → Res → Prop} (e:∀ a b,R a b → R b a):∀ {L:List Res},L.Pairwise R → ∀ (i j:Nat) a b,i ≠ j → L[i]? = some a → L[j]? = some b → R a b
 | [],_,i,_,_,_,_,h,_=>by simp at h
 | c :: L,.cons hc hL,0,0,_,_,hne,_,_=>absurd rfl hne
 | c :: L,.cons hc hL,0,j + 1,a,b,_,ha,hb=>by
  simp at ha hb
  subst ha
  exact hc b (List.mem_of_getElem? hb)
 | c :: L,.cons hc hL,i + 1,0,a,b,_,ha,hb=>by
  simp at ha hb
  subst hb
  exact e _ _ (hc a (List.mem_of_getElem? ha))
 | c :: L,.cons hc hL,i + 1,j + 1,a,b,hne,ha,hb=>by
  simp at ha hb
  exact Mb e hL i j a b (by omega) ha hb
theorem OC (a b:Res) (h:∀ x ∈ a.fp,x ∉ b.fp):∀ x ∈ b.fp,x ∉ a.fp:=fun x e f=>h x f e
theorem Sep.disj (h:Sep base w L) {i j:Nat} (f:Nat.beq i j = false) (g:E7 L i = some r) (l:E7 L j = some r'):∀ b ∈ r.fp,b ∉ r'.fp :=
 Mb OC h.2 i j r r' (fun e=>by rw [e,Nat.beq_refl] at f; cases f) (by rw [← NI]; exact g) (by rw [← NI]; exact l)
theorem O6 {R:Res → Res → Prop}:∀ {L:List Res},(∀ (i j:Nat) a b,i < j → L[i]? = some a → L[j]? = some b → R a b) → L.Pairwise R
 | [],_=>.nil
 | c :: L,h=>.cons (fun b e=>by
   obtain ⟨j,g⟩:=List.getElem?_of_mem e
   exact h 0 (j + 1) c b (by omega) rfl (by simpa using g)) (O6 fun i j a b l f e=>h (i + 1) (j + 1) a b (by omega) (by simpa using f) (by simpa using e))
def Oc:An → Bool
 | []=>true
 | i :: r=>!(r.any fun j=>Nat.beq i j) && Oc r
def Ai (L:List Res):An → List Res
 | []=>[]
 | i :: r=>match E7 L i with
  | some x=>x :: Ai L r
  | none=>Ai L r
theorem R0:∀ {is:An} {r:Res},r ∈ Ai L is → ∃ i ∈ is,E7 L i = some r
 | [],_,h=>by cases h
 | i :: is,r,h=>by
  rw [Ai] at h
  cases f:E7 L i with
  | none =>
   rw [f] at h
   obtain ⟨j,g,e⟩:=R0 h
   exact ⟨j,by simp [g],e⟩
  | some x =>
   rw [f] at h
   cases h with
   | head=>exact ⟨i,by simp,f⟩
   | tail _ h =>
    obtain ⟨j,g,e⟩:=R0 h
    exact ⟨j,by simp [g],e⟩
theorem Sep.sel (h:Sep base w L) (is:An) (e:Oc is = true):Sep base w (Ai L is):=by
 refine ⟨fun r m=>?_,?_⟩
 ·obtain ⟨i,_,u⟩:=R0 m
  exact h.get u
 ·induction is with
  | nil=>exact .nil
  | cons i is ih =>
   rw [Oc,Cg] at e
   have f:=ih e.2
   rw [YtellehgihceicaaGreatDoor.Ai]
   cases v:E7 L i with
   | none=>exact f
   | some x =>
    refine .cons (fun s hs=>?_) f
    obtain ⟨j,l,g⟩:=R0 hs
    have ac:Nat.beq i j = false:=by
     have:=e.1
     simp only [Bool.not_eq_true',List.any_eq_false] at this
     cases hb:Nat.beq i j with
     | false=>rfl
     | true=>exact absurd (Nat.eq_of_beq_eq_true hb) (by simpa using this j l)
    exact h.disj ac v g
theorem Sep.upd (h:Sep base w L) {i:Nat} (m:E7 L i = some r) (hs:w.heap.size ≤ w'.heap.size)
  (hk:∀ b,base ≤ b → b < w.heap.size → b ∉ r.fp → w'.heap[b]? = w.heap[b]?) (ai:r'.fp.Nodup) (hf:∀ b ∈ r'.fp,b ∈ r.fp ∨ (w.heap.size ≤ b ∧ b < w'.heap.size)) (ak:base ≤ w.heap.size)
  (ao:∀ w'':Ag,(∀ b ∈ r'.fp,w''.heap[b]? = w'.heap[b]?) → r'.ok w''):Sep base w' (MC L i r'):=by
 have aa:i < L.length:=by
  rw [NI] at m
  exact (List.getElem?_eq_some_iff.1 m).1
 have ap:L[i]? = some r:=by rw [← NI]; exact m
 have ae:∀ (j:Nat) s,j ≠ i → L[j]? = some s → ∀ b ∈ s.fp,b ∉ r.fp:=fun j s u g=>Mb OC h.2 j i s r u g ap
 have am:r'.good base w':=⟨ai,fun b f=>by
  rcases hf b f with h1 | h1
  ·have:=(h.get m).2.1 b h1
   exact ⟨this.1,Nat.lt_of_lt_of_le this.2 hs⟩
  ·exact ⟨Ay ak h1.1,h1.2⟩,ao⟩
 have ag:∀ (j:Nat) s,j ≠ i → L[j]? = some s → ∀ b ∈ s.fp,b ∉ r'.fp:=fun j s u g b f an=>by
  rcases hf b an with h1 | h1
  ·exact ae j s u g b f h1
  ·have:=(h.1 s (List.mem_of_getElem? g)).2.1 b f
   omega
 rw [XF]
 refine ⟨fun s al=>?_,O6 fun j k a b aq l f=>?_⟩
 ·obtain ⟨j,g⟩:=List.getElem?_of_mem al
  by_cases e:j = i
  ·subst e
   rw [List.getElem?_set_self aa] at g
   cases g
   exact am
  ·rw [List.getElem?_set_ne (Ne.symm e)] at g
   have v:=h.1 s (List.mem_of_getElem? g)
   exact v.keep hs fun b f=>hk b (v.2.1 b f).1 (v.2.1 b f).2 (ae j s e g b f)
 ·by_cases e1:j = i
  ·subst e1
   rw [List.getElem?_set_self aa] at l
   cases l
   rw [List.getElem?_set_ne (by omega)] at f
   exact OC _ _ (ag k b (by omega) f)
  ·rw [List.getElem?_set_ne (Ne.symm e1)] at l
   by_cases e2:k = i
   ·subst e2
    rw [List.getElem?_set_self aa] at f
    cases f
    exact ag j a (by omega) l
   ·rw [List.getElem?_set_ne (Ne.symm e2)] at f
    exact Mb OC h.2 j k a b (by omega) l f
end
theorem rdS.ro {α:Type} {e:Ty P α} {w0 w:Ag} {v:Ac} {l:List α} (h:rdS e (· < w0.heap.size) w0 v l) (g:Below w0.heap.size w0 w):rdS e (· < w.heap.size) w v l :=
 (h.keep fun b f=>g.block b f).mono fun b f=>Nat.lt_of_lt_of_le f g.size
theorem Sh.ro {α:Type} {e:Sh α} {w0 w:Ag} {cs:List Ac} {l:α} (h:e.rd (· < w0.heap.size) w0 cs l) (g:Below w0.heap.size w0 w):e.rd (· < w.heap.size) w cs l :=
 e.rd_mono (e.rd_keep h fun b f=>g.block b f) fun b f=>Nat.lt_of_lt_of_le f g.size
theorem Sep.own_ro {α:Type} {e:Ty P α} {base:Nat} {w:Ag} {L:List Res} {F:An} {v:Ac} {l:List α} (h:Sep base w L) {i:Nat} (f:E7 L i = some (Ab e F v l)):rdS e (· < w.heap.size) w v l :=
 (h.ok f:ownS e F w v l).rd.mono fun b g=>((h.get f).2.1 b g).2
end Go.Proofs.YtellehgihceicaaGreatDoor
namespace Go.Proofs.YtellehgihceicaaGreatDoor
open Go Go.RowKit
structure TF (P:Program) (T:TypeId) (sz:Nat) (agg:Bool) (z:Ac):Prop where
 hsize:∀ w,(sizeOf T).run P w = .ok sz w
 hagg:∀ w,(isAgg T).run P w = .ok agg w
 hzero:∀ w,(zeroValue T).run P w = .ok z w
 pos:0 < sz
 one:agg = false → sz = 1
def pk:Bool → List Ac → Ac
 | true,vs=>.agg vs.toArray
 | false,[v]=>v
 | false,_=>undef
def KR (cs:List Ac) (off sz:Nat):Af (List Ac):=bif Nat.ble (off + sz) cs.length then some ((cs.drop off).take sz) else none
def Dp (cs:List Ac) (off:Nat) (vs:List Ac):List Ac:=cs.take off ++ (vs ++ cs.drop (off + vs.length))
def Ones:List Ac → Prop
 | []=>True
 | v :: r=>v.oneCell' = true ∧ Ones r
theorem Ones.all:∀ {vs:List Ac},Ones vs → ∀ v ∈ vs,v.oneCell' = true
 | _ :: _,h,_,.head _=>h.1
 | _ :: _,h,_,.tail _ hv=>Ones.all h.2 _ hv
theorem Ones.of:∀ {vs:List Ac},(∀ v ∈ vs,v.oneCell' = true) → Ones vs
 | [],_=>trivial
 | v :: r,h=>⟨h v (by simp),Ones.of fun u e=>h u (by simp [e])⟩
variable {P:Program} {α:Type}
theorem rdS.one {e:Ty P α} {S:Nat → Prop} {w:Ag} {v:Ac} {l:List α} (h:rdS e S w v l):v.oneCell' = true:=by
 obtain ⟨a,cap,rfl,_⟩:=h
 rfl
theorem ownS.one {e:Ty P α} {F:An} {w:Ag} {v:Ac} {l:List α} (h:ownS e F w v l):v.oneCell' = true:=h.rd.one
def EAt (S:Nat → Prop) (w:Ag) (p:Addr) (cs:List Ac):Prop:=S p.block ∧ ∀ (j:Nat) c,cs[j]? = some c → w.cell? (p.add j) = some c
theorem EAt.add {S:Nat → Prop} {w:Ag} {p:Addr} {cs:List Ac} (h:EAt S w p cs) (o:Nat):EAt S w (p.add o) (cs.drop o) :=
 ⟨by rw [JY]; exact h.1,fun j c e=>by
  rw [P1]
  exact h.2 (o + j) c (by rwa [List.getElem?_drop] at e)⟩
theorem EAt.ro {w0 w:Ag} {p:Addr} {cs:List Ac} (h:EAt (· < w0.heap.size) w0 p cs) (e:Below w0.heap.size w0 w):EAt (· < w.heap.size) w p cs :=
 ⟨Nat.lt_of_lt_of_le h.1 e.size,fun j c f=>by rw [e.cell (p:=p.add j) (by rw [JY]; exact h.1)]; exact h.2 j c f⟩
theorem Bf (w:Ag):Below w.heap.size w w:=Below.refl _ _
theorem EP (w:Ag) (o:Obj):Below w.heap.size w (w.alloc o):=⟨rfl,rfl,rfl,by simp,fun k e=>Below.heap_alloc w o k e⟩
theorem QH (w:Ag) (g:Nat) (cs:Array Ac) {B:Nat} (f:B ≤ g):Below B w (w.setRow g cs) :=
 ⟨rfl,rfl,rfl,by simp,fun k e=>setRow_other w g k cs (by omega)⟩
theorem MW (w:Ag) (g o:Nat) (t U:TypeId) (cs vs:List Ac) (v:Ac) (l:v.cells = vs.toArray) (e:∀ w,(sizeOf U).run P w = .ok vs.length w)
  (m:w.heap[g]? = some (.cells cs.toArray t (0,0))) (f:o + vs.length ≤ cs.length) (h1:Ones vs) :
  (storeVar U ⟨g,o,none⟩ v).run P w = .ok () (w.setRow g (Dp cs o vs).toArray):=by
 have h:=run_storeCells_at P g o t vs 0 cs.toArray w m (by simpa using f) h1.all
 unfold storeVar
 simp only [Sem.run_bind,e,Result.andThen_ok,l,List.size_toArray,ne_eq,not_true_eq_false,if_false]
 rw [h]
 simp [Dp]
section
variable {n:Nat} {σ:E2} {w w0:Ag} {Q:Exit → Act → Ag → Prop} {L:List Res}
variable {ds:List (Af Tmp)} {d:Nat} {T U:TypeId} {pos:String} {af:Array Edge} {rest:List Oper} {x y z:Operand} {sz:Nat} {agg:Bool} {zv:Ac}
theorem UR {b:Nat} (l:Sep w0.heap.size w L) (f:Below w0.heap.size w0 w) (cs:List Ac) (U:TypeId) (e:b = w.heap.size) :
  Sep w0.heap.size (w.alloc (.cells cs.toArray U)) (A9 b U cs :: L):=by
 subst e
 refine l.push (EP w _) (by simp [A9]) (fun b e=>?_) f.size (fun h g=>?_)
 ·simp [A9] at e
  subst e
  simp
 ·have:=g w.heap.size (by simp [A9])
  show h.heap[w.heap.size]? = _
  rw [this,heap_alloc_new]
theorem Ab4 {v:Ac} {cs:List Ac} (l:Nat.blt d n = true) (m:B4 σ x = some v) (g:v.cells = cs.toArray) (e:Below w0.heap.size w0 w) (s:Sep w0.heap.size w L)
  (h:∀ b w',Below w.heap.size w w' → Below w0.heap.size w0 w' → Sep w0.heap.size w' (A9 b U cs :: L) → WL P n ds rest ((d,.pointer (some ⟨b,0,none⟩)) :: σ) w' Q) :
  WL P n ds (⟨some d,.box U x,T,pos,af,none⟩ :: rest) σ w Q:=by
 refine CF (w':=w.alloc (.cells cs.toArray U)) (v:=.pointer (some ⟨w.heap.size,0,none⟩)) l (fun ρ f=>?_)
  (h _ _ (EP w _) (e.trans ((EP w _).mono e.size)) (UR s e cs U rfl))
 simp [execOp,f _ _ m,Instr.box,newVar,newRow,g]
theorem Z9 {cs:List Ac} (m:TF P U sz agg zv) (l:Nat.blt d n = true) (f:zv.cells = cs.toArray) (e:Below w0.heap.size w0 w) (g:Sep w0.heap.size w L)
  (h:∀ b w',Below w.heap.size w w' → Below w0.heap.size w0 w' → Sep w0.heap.size w' (A9 b U cs :: L) → WL P n ds rest ((d,.pointer (some ⟨b,0,none⟩)) :: σ) w' Q) :
  WL P n ds (⟨some d,.alloc U,T,pos,af,none⟩ :: rest) σ w Q:=by
 refine CF (w':=w.alloc (.cells cs.toArray U)) (v:=.pointer (some ⟨w.heap.size,0,none⟩)) l (fun ρ s=>?_)
  (h _ _ (EP w _) (e.trans ((EP w _).mono e.size)) (UR g e cs U rfl))
 simp [execOp,Instr.alloc,newVar,newRow,f,m.hzero]
def Fu (P:Program) (U:TypeId) (f o:Nat):Bool :=
 match P.underlying U with
 | some (.struct fs)=>match fs[f]? with
  | some fd=>Nat.beq fd.offset o && (match P.info? fd.type with
   | some i=>!(Nat.beq i.size 0)
   | none=>false)
  | none=>false
 | _=>false
theorem MN {f o:Nat} (g:Fu P U f o = true) (p:Addr):(Instr.fieldAt U (.pointer (some p)) f).run P w = .ok (.pointer (some (p.add o))) w:=by
 unfold Fu at g
 split at g
 ·rename_i fs l
  split at g
  ·rename_i m v
   rw [Cg] at g
   obtain ⟨h1,h⟩:=g
   split at h
   ·rename_i i s
    have e1:m.offset = o:=Nat.eq_of_beq_eq_true h1
    have u:i.size ≠ 0:=fun e=>by rw [e] at h; simp at h
    simp [Instr.fieldAt,run_underlying l,v,Instr.sureAddr,fieldPlace,sizeOf,typeInfo,s,u,e1]
   ·cases h
  ·cases g
 ·cases g
theorem Z8 {f o b off e:Nat} (u:Fu P U f o = true) (l:Nat.blt d n = true) (s:B4 σ x = some (.pointer (some ⟨b,off,none⟩))) (m:off + o = e)
  (h:WL P n ds rest ((d,.pointer (some ⟨b,e,none⟩)) :: σ) w Q):WL P n ds (⟨some d,.fieldAddr U x f,T,pos,af,none⟩ :: rest) σ w Q :=
 CF l (fun ρ g=>by simp [execOp,g _ _ s,MN u,Addr.add_lit,m]) h
theorem FZ {f o:Nat} {p:Addr} (l:Fu P U f o = true) (m:Nat.blt d n = true) (g:B4 σ x = some (.pointer (some p)))
  (h:WL P n ds rest ((d,.pointer (some (p.add o))) :: σ) w Q):WL P n ds (⟨some d,.fieldAddr U x f,T,pos,af,none⟩ :: rest) σ w Q :=
 CF m (fun ρ e=>by simp [execOp,e _ _ g,MN l]) h
theorem Ie (s:TF P U sz agg zv) (p:Addr) (cs vs:List Ac) (l:∀ (j:Nat) c,cs[j]? = some c → w.cell? (p.add j) = some c) (e:KR cs 0 sz = some vs) (h1:agg = false → sz = 1) :
  (loadVar U p).run P w = .ok (pk agg vs) w:=by
 have h:sz ≤ cs.length:=by
  unfold KR at e
  cases u:Nat.ble (0 + sz) cs.length with
  | true=>simpa using Nat.le_of_ble_eq_true u
  | false=>rw [u] at e; cases e
 have g:vs = cs.take sz:=by
  unfold KR at e
  have:Nat.ble (0 + sz) cs.length = true:=by simpa using h
  rw [this] at e
  simpa using e.symm
 unfold loadVar
 rw [Sem.run_bind,s.hagg]
 simp only [Result.andThen_ok]
 cases agg with
 | true =>
  have hl:(loadCells p sz).run P w = .ok vs.toArray w:=by
   have:=run_loadCells_list (P:=P) w p vs (fun j v f=>l j v (by
    rw [g,List.getElem?_take] at f
    split at f
    ·exact f
    ·cases f))
   rwa [g,List.length_take,Nat.min_eq_left h,← g] at this
  simp [s.hsize,hl,pk]
 | false =>
  have hs:=h1 rfl
  subst hs
  cases cs with
  | nil=>simp at h
  | cons c r =>
   have m:=l 0 c rfl
   rw [Addr.add_zero'] at m
   simp [load,Sem.run,m,g,pk]
theorem OE {b o:Nat} {cs:List Ac} {V:TypeId} (f:w.heap[b]? = some (.cells cs.toArray V (0,0))):∀ (j:Nat) c,(cs.drop o)[j]? = some c → w.cell? ((⟨b,o,none⟩:Addr).add j) = some c:=by
 intro j c e
 rw [Addr.add_lit,cell_of_row w b _ cs.toArray V (0,0) f]
 rw [List.getElem?_drop] at e
 simpa using e
theorem VY {cs vs:List Ac} {o s:Nat} (e:KR cs o s = some vs) (g:0 < s):KR (cs.drop o) 0 s = some vs:=by
 unfold KR at e ⊢
 cases f:Nat.ble (o + s) cs.length with
 | false=>rw [f] at e; cases e
 | true =>
  rw [f] at e
  have h:=Nat.le_of_ble_eq_true f
  have:Nat.ble (0 + s) (cs.drop o).length = true:=by
   rw [Nat.ble_eq,List.length_drop]; omega
  rw [this]
  simpa using e
theorem MM {i b off:Nat} {V:TypeId} {cs vs:List Ac} {v:Ac} (e:TF P U sz agg zv) (s:Nat.blt d n = true)
  (hx:B4 σ x = some (.pointer (some ⟨b,off,none⟩))) (hS:Sep w0.heap.size w L) (m:E7 L i = some (A9 b V cs)) (u:KR cs off sz = some vs) (g:pk agg vs = v)
  (h:WL P n ds rest ((d,v) :: σ) w Q):WL P n ds (⟨some d,.load U x,T,pos,af,none⟩ :: rest) σ w Q:=by
 refine CF s (fun ρ f=>?_) h
 have l:w.heap[b]? = some (.cells cs.toArray V (0,0)):=hS.ok m
 have hl:=Ie (w:=w) e ⟨b,off,none⟩ (cs.drop off) vs (OE l) (VY u e.pos) e.one
 rw [← g]
 simp [execOp,f _ _ hx,Instr.loadAt,Instr.sureAddr,hl]
theorem Y3 {S:Nat → Prop} {p:Addr} {cs vs:List Ac} {v:Ac} (e:TF P U sz agg zv) (l:Nat.blt d n = true)
  (s:B4 σ x = some (.pointer (some p))) (g:EAt S w p cs) (m:KR cs 0 sz = some vs) (u:pk agg vs = v)
  (h:WL P n ds rest ((d,v) :: σ) w Q):WL P n ds (⟨some d,.load U x,T,pos,af,none⟩ :: rest) σ w Q:=by
 refine CF l (fun ρ f=>?_) h
 have hl:=Ie (w:=w) e p cs vs g.2 m e.one
 rw [← u]
 simp [execOp,f _ _ s,Instr.loadAt,Instr.sureAddr,hl]
theorem XV {cs vs:List Ac} {off:Nat} (h:off + vs.length ≤ cs.length):(Dp cs off vs).length = cs.length:=by
 unfold Dp
 simp
 omega
theorem BD {i b off:Nat} {V:TypeId} {cs cs' vs:List Ac} {v:Ac} (tf:TF P U sz agg zv)
  (hx:B4 σ x = some (.pointer (some ⟨b,off,none⟩))) (hy:B4 σ y = some v) (hv:v.cells = vs.toArray) (al:vs.length = sz) (s:Below w0.heap.size w0 w) (g:Sep w0.heap.size w L)
  (l:E7 L i = some (A9 b V cs)) (hl:Nat.ble (off + vs.length) cs.length = true) (h1:Ones vs) (hc:Dp cs off vs = cs')
  (h:∀ w',(w.heap.size ≤ w'.heap.size ∧ (∀ k,k < w.heap.size → k ∉ [b] → w'.heap[k]? = w.heap[k]?) ∧ ∀ k ∈ [b],k ∈ [b] ∨ w.heap.size ≤ k) → Below w0.heap.size w0 w' → Sep w0.heap.size w' (MC L i (A9 b V cs')) → WL P n ds rest σ w' Q) :
  WL P n ds (⟨none,.store U x y,T,pos,af,none⟩ :: rest) σ w Q:=by
 have u:w.heap[b]? = some (.cells cs.toArray V (0,0)):=g.ok l
 have ab:=Nat.le_of_ble_eq_true hl
 have aj:=(g.get l).2.1 b (by simp [A9])
 subst hc
 refine Ab0 (w':=w.setRow b (Dp cs off vs).toArray) (fun ρ m=>?_) (h _ ⟨by simp,fun k _ f=>setRow_other w b k _ (by simpa using f),fun k f=>.inl f⟩ (s.trans (QH w b _ aj.1)) ?_)
 ·have hs:=MW (P:=P) w b off V U cs vs v hv (fun w=>by rw [al]; exact tf.hsize w) u ab h1
  simp [execOp,m _ _ hx,m _ _ hy,Instr.storeAt,Instr.sureAddr,hs]
 ·refine g.upd l (by simp) (fun k _ _ f=>setRow_other w b k _ (by intro e; exact f (by simp [A9,e]))) (by simp [A9]) (fun k f=>.inl f) s.size (fun ae f=>?_)
  have:=f b (by simp [A9])
  show ae.heap[b]? = _
  rw [this,setRow_heap w b _ _ V (0,0) u]
theorem MD {l:List α} {i:Int} {u:α} (h:AK l i = some u):0 ≤ i ∧ l[i.toNat]? = some u ∧ i.toNat < l.length:=by
 unfold AK at h
 split at h
 ·rename_i e
  exact ⟨e,h,(List.getElem?_eq_some_iff.1 h).1⟩
 ·cases h
theorem NS {e:Ty P α} {S:Nat → Prop} {g:Ag} {v:Ac} {l:List α} {k:IntKind} {f:Int} {u:α} (m:P.underlying U = some (.slice e.tid)) (hr:rdS e S g v l) (hi:AK l f = some u) :
  ∃ p,(∀ w,(Instr.indexAt U v (.int k f)).run P w = .ok (.pointer (some p)) w) ∧ ElemAt e S g p u:=by
 obtain ⟨a,cap,rfl,al,h⟩:=hr
 obtain ⟨h0,hl,ag⟩:=MD hi
 rcases h with rfl | ⟨ad,rfl,ai⟩
 ·simp at ag
 ·obtain ⟨i,z,ac,ak,_⟩:=e.info
  refine ⟨ad.add (f.toNat * e.sz),fun w=>?_,ai _ _ hl⟩
  have s:0 ≤ f ∧ f < (l.length:Int):=⟨h0,by omega⟩
  simp [Instr.indexAt,asIntOf,run_underlying m,sizeOf,typeInfo,ac,ak,s]
theorem BJ {e:Ty P α} {S:Nat → Prop} {f:Ag} {v:Ac} {l:List α} {k:IntKind} {m:Int} {u:α} (hu:P.underlying U = some (.slice e.tid)) (hn:Nat.blt d n = true)
  (hx:B4 σ x = some v) (hy:B4 σ y = some (.int k m)) (hr:rdS e S f v l) (hi:AK l m = some u)
  (h:∀ p cs,e.rd S f cs u → EAt S f p cs → WL P n ds rest ((d,.pointer (some p)) :: σ) w Q):WL P n ds (⟨some d,.indexAddr U x y,T,pos,af,none⟩ :: rest) σ w Q:=by
 obtain ⟨p,ac,hS,cs,s,hc⟩:=NS (k:=k) hu hr hi
 exact CF hn (fun ρ g=>by simp [execOp,g _ _ hx,g _ _ hy,ac]) (h p cs s ⟨hS,hc⟩)
theorem Ab2 {v:Ac} {a:Af Addr} {l c:Nat} {f:TypeId} {e:TypeId} (g:P.underlying f = some (.slice e)) (s:Nat.blt d n = true) (hx:B4 σ x = some v) (u:v = .slice a l c)
  (h:WL P n ds rest ((d,.int .i64 (l:Int)) :: σ) w Q):WL P n ds (⟨some d,.call ⟨.builtin .len,#[x],#[f]⟩,T,pos,af,none⟩ :: rest) σ w Q:=by
 subst u
 exact CF s (fun ρ m=>by simp [execOp,resolve,invoke,builtin,m _ _ hx,Builtin.len_,run_underlying g,goInt]) h
theorem Aa7 {e:Ty P α} {S:Nat → Prop} {w1:Ag} {v:Ac} {l:List α} {f:TypeId} (g:P.underlying f = some (.slice e.tid)) (s:Nat.blt d n = true) (hx:B4 σ x = some v) (m:rdS e S w1 v l)
  (h:WL P n ds rest ((d,.int .i64 (l.length:Int)) :: σ) w Q):WL P n ds (⟨some d,.call ⟨.builtin .len,#[x],#[f]⟩,T,pos,af,none⟩ :: rest) σ w Q:=by
 obtain ⟨a,cap,u,_⟩:=m
 exact Ab2 g s hx u h
theorem LY {e:Ty P α} {S:Nat → Prop} {w1:Ag} {v:Ac} {l m:List α} {f g:Int} (hu:P.underlying U = some (.slice e.tid)) (hr:rdS e S w1 v l) (s:sl l f g = some m) :
  ∃ v',(∀ (vlo vhi:Af Ac) w,((vlo = none ∧ f = 0) ∨ ∃ k,vlo = some (.int k f)) → ((vhi = none ∧ g = l.length) ∨ ∃ k,vhi = some (.int k g)) → (Instr.sliceAt U v vlo vhi none).run P w = .ok v' w) ∧ rdS e S w1 v' m:=by
 obtain ⟨a,cap,rfl,ax,h⟩:=hr
 unfold sl at s
 split at s
 case isFalse=>cases s
 rename_i hb
 obtain ⟨h0,h1,h2⟩:=hb
 cases s
 obtain ⟨i,z,ao,ap,_⟩:=e.info
 have ab:((l.take g.toNat).drop f.toNat).length = g.toNat - f.toNat:=by simp; omega
 refine ⟨.slice (if cap = f.toNat then a else a.map (·.add (f.toNat * e.sz))) (g.toNat - f.toNat) (cap - f.toNat),fun vlo vhi w ag am=>?_,?_⟩
 ·have an:(Instr.sliceBounds true l.length cap vlo vhi none).run P w = .ok (f.toNat,g.toNat,cap) w:=by
   have hh:0 ≤ g ∧ g ≤ (cap:Int):=⟨by omega,by omega⟩
   rcases am with ⟨rfl,rfl⟩ | ⟨k,rfl⟩
   ·rcases ag with ⟨rfl,rfl⟩ | ⟨k',rfl⟩
    ·simp [Instr.sliceBounds]
    ·have aa:0 ≤ f ∧ f ≤ (l.length:Int):=⟨h0,h1⟩
     simp [Instr.sliceBounds,Instr.sliceBound,asIntOf,aa]
   ·rcases ag with ⟨rfl,rfl⟩ | ⟨k',rfl⟩
    ·simp [Instr.sliceBounds,Instr.sliceBound,asIntOf,hh]
    ·have e1:((g.toNat:Nat):Int) = g:=by omega
     have aa:0 ≤ f ∧ f ≤ ((g.toNat:Nat):Int):=⟨h0,by omega⟩
     simp only [Instr.sliceBounds,Instr.sliceBound,asIntOf,Sem.run_bind,Sem.run_pure,Result.andThen_ok,hh,and_self,if_true,aa,Option.isSome_none]
  simp [Instr.sliceAt,Instr.slice,run_underlying hu,an,sizeOf,typeInfo,ao,ap]
 ·refine ⟨_,cap - f.toNat,by rw [ab],by rw [ab]; omega,?_⟩
  by_cases ac:(l.take g.toNat).drop f.toNat = []
  ·exact .inl ac
  ·rcases h with rfl | ⟨ad,rfl,ak⟩
   ·simp at ac
   ·have aw:f.toNat < g.toNat:=by
     rcases Nat.lt_or_ge f.toNat g.toNat with h | h
     ·exact h
     ·exact absurd (List.eq_nil_of_length_eq_zero (by rw [ab]; omega)) ac
    refine .inr ⟨ad.add (f.toNat * e.sz),by rw [if_neg (by omega)]; rfl,fun j x u=>?_⟩
    rw [P1,← Nat.add_mul]
    refine ak _ x ?_
    rw [List.getElem?_drop,List.getElem?_take] at u
    split at u
    ·exact u
    ·cases u
theorem PE {e:Ty P α} {S:Nat → Prop} {w1:Ag} {v:Ac} {l m:List α} {lo hi:Int} {u g:Af Operand} (hu:P.underlying U = some (.slice e.tid)) (hn:Nat.blt d n = true)
  (hx:B4 σ x = some v) (hr:rdS e S w1 v l) (hm:sl l lo hi = some m)
  (ag:(u = none ∧ lo = 0) ∨ ∃ o k,u = some o ∧ B4 σ o = some (.int k lo)) (an:(g = none ∧ hi = l.length) ∨ ∃ o k,g = some o ∧ B4 σ o = some (.int k hi))
  (h:∀ s,rdS e S w1 s m → WL P n ds rest ((d,s) :: σ) w Q):WL P n ds (⟨some d,.slice U x u g none,T,pos,af,none⟩ :: rest) σ w Q:=by
 obtain ⟨s,ah,ai⟩:=LY hu hr hm
 refine CF hn (fun ρ hρ=>?_) (h s ai)
 have:=ah (u.map ρ) (g.map ρ) w (ag.imp (fun ⟨h,f⟩=>⟨by rw [h]; rfl,f⟩) fun ⟨o,k,h,f⟩=>⟨k,by rw [h]; simp [hρ _ _ f]⟩)
  (an.imp (fun ⟨h,f⟩=>⟨by rw [h]; rfl,f⟩) fun ⟨o,k,h,f⟩=>⟨k,by rw [h]; simp [hρ _ _ f]⟩)
 simp [execOp,hρ _ _ hx,this]
end
end Go.Proofs.YtellehgihceicaaGreatDoor
namespace Go.Proofs.YtellehgihceicaaGreatDoor
open Go Go.RowKit
variable {P:Program} {α:Type}
structure Flat (e:Ty P α) (f:α → List Ac):Prop where
 rd:∀ {S w cs x},e.rd S w cs x → cs = f x
 own:∀ w x,e.own [] w (f x) x
 none:∀ {F w cs x},e.own F w cs x → F = []
theorem Flat.len {e:Ty P α} {f:α → List Ac} (g:Flat e f) (w:Ag) (x:α):(f x).length = e.sz:=e.rd_len (e.own_rd (g.own w x))
theorem Flat.ones {e:Ty P α} {f:α → List Ac} (g:Flat e f) (w:Ag) (x:α):∀ c ∈ f x,c.oneCell' = true:=e.rd_one (e.own_rd (g.own w x))
theorem Flat.z3 {e:Ty P α} {f:α → List Ac} (g:Flat e f) (w:Ag):∀ l:List α,Z3 (fun F cs x=>e.own F w cs x) (l.map fun _=>[]) (l.map f) l
 | []=>trivial
 | x :: l=>⟨g.own w x,Flat.z3 g w l⟩
theorem Flat.of_z3 {e:Ty P α} {f:α → List Ac} (g:Flat e f) {w:Ag}:∀ {Fs:List (An)} {css:List (List Ac)} {l:List α},Z3 (fun F cs x=>e.own F w cs x) Fs css l → Fs.flatten = [] ∧ css = l.map f
 | [],[],[],_=>⟨rfl,rfl⟩
 | F :: Fs,cs :: css,x :: l,h=>by
  obtain ⟨h1,m⟩:=Flat.of_z3 g h.2
  have s:=g.none h.1
  subst s
  exact ⟨by simpa using h1,by rw [m,g.rd (e.own_rd h.1)]; rfl⟩
 | [],[],_ :: _,h=>h.elim
 | [],_ :: _,_,h=>h.elim
 | _ :: _,[],_,h=>h.elim
 | _ :: _,_ :: _,[],h=>h.elim
theorem Pa (l:List α):(l.map fun _=>([]:An)).flatten = []:=by induction l <;> simp_all
theorem PW (f:α → List Ac) (sz:Nat) (h:∀ x,(f x).length = sz) (l:List α):(l.map f).flatten.length = l.length * sz:=by
 rw [Ky (sz:=sz) (fun c e=>by obtain ⟨x,_,rfl⟩:=List.mem_map.1 e; exact h x),List.length_map]
theorem KT {e:Ty P α} {f:α → List Ac} (m:Flat e f) {F:An} {w:Ag} {v:Ac} {l:List α} :
  ownS e F w v l ↔ (v = .slice none 0 0 ∧ l = [] ∧ F = []) ∨ ∃ g cap cur,v = .slice (some ⟨g,0,none⟩) l.length cap ∧ w.heap[g]? = some (.cells cur e.tid (0,0)) ∧ l.length ≤ cap ∧ cap ≤ maxLen ∧
   cur.size = cap * e.sz ∧ cur.toList.take (l.length * e.sz) = (l.map f).flatten ∧ F = [g]:=by
 constructor
 ·rintro (h | ⟨g,cap,cur,css,Fs,h1,h2,h3,h4,h5,h6,h7,h8⟩)
  ·exact .inl h
  ·obtain ⟨u,s⟩:=m.of_z3 h7
   exact .inr ⟨g,cap,cur,h1,h2,h3,h4,h5,by rw [h6,s],by rw [h8,u]⟩
 ·rintro (h | ⟨g,cap,cur,h1,h2,h3,h4,h5,h6,h7⟩)
  ·exact .inl h
  ·exact .inr ⟨g,cap,cur,l.map f,l.map fun _=>[],h1,h2,h3,h4,h5,h6,m.z3 w l,by rw [h7,Pa]⟩
theorem ZR {e:Ty P α} {f:α → List Ac} (hf:Flat e f) {S:Nat → Prop} {w:Ag} {l:List α} {h:Addr} (ah:∀ (i:Nat) x,l[i]? = some x → ElemAt e S w (h.add (i * e.sz)) x) :
  ∀ (j:Nat) u,(l.map f).flatten[j]? = some u → w.cell? (h.add j) = some u:=by
 have h2:∀ (m:List α) (k:Nat),(∀ (i:Nat) x,m[i]? = some x → ElemAt e S w (h.add ((k + i) * e.sz)) x) → ∀ (j:Nat) u,(m.map f).flatten[j]? = some u → w.cell? (h.add (k * e.sz + j)) = some u:=by
  intro m
  induction m with
  | nil=>intro k _ j u g; simp at g
  | cons x m ih =>
   intro k v j u g
   have aa:=hf.len w x
   rw [List.map_cons,List.flatten_cons,List.getElem?_append] at g
   split at g
   ·obtain ⟨_,cs,ac,s⟩:=v 0 x rfl
    rw [hf.rd ac] at s
    have:=s j u g
    rwa [P1] at this
   ·rename_i hj
    have:=ih (k + 1) (fun i y hy=>by
     have:=v (i + 1) y (by simpa using hy)
     rwa [show k + 1 + i = k + (i + 1) by omega]) (j - (f x).length) u g
    rw [aa] at this
    rwa [show (k + 1) * e.sz + (j - e.sz) = k * e.sz + j by rw [Nat.succ_mul]; rw [aa] at hj; omega] at this
 intro j u g
 have:=h2 l 0 (fun i x hx=>by simpa using ah i x hx) j u g
 simpa using this
theorem WP {l m r:List α} (h:Cl l m = some r):r = l ++ m ∧ l.length + m.length ≤ 1073741824:=by
 unfold Cl at h
 split at h
 ·rename_i e
  exact ⟨(Option.some.inj h).symm,e⟩
 ·cases h
theorem WI {k b:Nat} (h:k ≤ 1073741824) (e:b ≤ 65536):k * b ≤ 140737488355328 :=
 Ay (Nat.mul_le_mul h e) (by decide)

theorem O4 {P:Program} (w:Ag) (base:Nat) (t ty e:TypeId) (i:TypeInfo) (z:Ac) (f aj:Nat) (ht:P.underlying t = some (.slice e)) (hi:P.info? e = some i) (hz:i.zero = some z)
  (a5:i.size = f) (a2:i.bytes = aj) (a8:z.cells.size = f)
  (v:Ac) (n:Nat) (xs:List Ac) (aa:w.ownsRow base e f v n xs)
  (a:Addr) (m c:Nat) (h:List Ac) (s:h.length = m * f) (an:∀ (j:Nat) u,h[j]? = some u → w.cell? (a.add j) = some u) (h1:∀ u ∈ h,u.oneCell' = true)
  (ar:n + m ≤ maxLen) (au:(n + m) * aj ≤ 140737488355328) (a3:base ≤ w.heap.size) :
  ∃ v' w',(Builtin.append_ #[t,t] ty #[v,.slice (some a) m c]).run P w = .ok v' w' ∧ w'.ownsRow base e f v' (n + m) (xs ++ h) ∧ w.grownBy w' v.ownBlock ∧
   (v'.ownBlock = v.ownBlock ∨ v'.ownBlock = some w.heap.size):=by
 subst a5
 subst a2
 have bc:n + m ≤ 9223372036854775807:=by simp only [maxLen] at ar; omega
 have ae:(xs ++ h).length = (n + m) * i.size:=by rw [CM,aa.1,s,Nat.add_mul]
 have ao:∀ (l:Nat),l < n + m → ∀ (aq:Af Nat),
   (w.drew.alloc (.cells (xs.toArray ++ h.toArray ++ Builtin.zeroCells z.cells (grownCap w (n + m) l e - (n + m))) e)).ownsRow base e i.size
    (.slice (some ⟨w.heap.size,0,none⟩) (n + m) (grownCap w (n + m) l e)) (n + m) (xs ++ h) ∧
   w.grownBy (w.drew.alloc (.cells (xs.toArray ++ h.toArray ++ Builtin.zeroCells z.cells (grownCap w (n + m) l e - (n + m))) e)) aq:=by
  intro l ho aq
  have az:=grownCap_ge w (n + m) l e
  have ai:grownCap w (n + m) l e ≤ maxLen:=grownCap_le_maxLen w (n + m) l e ar
  refine ⟨⟨ae,.inr ⟨w.heap.size,_,_,rfl,a3,heap_alloc_new w.drew _,az,ai,?_,?_⟩⟩,⟨rfl,rfl,rfl,by simp,fun k hk _=>Below.heap_alloc w.drew _ k hk⟩⟩
  ·simp only [Array.size_append,List.size_toArray,size_zeroCells,a8,aa.1,s,← Nat.add_mul]
   congr 1
   omega
  ·simp only [Array.toList_append,List.append_assoc]
   rw [← List.append_assoc,← ae]
   exact List.take_left
 rcases aa.2 with ⟨rfl,rfl⟩ | ⟨g,cap,al,rfl,ay,hg,ba,ai,aw,ax⟩
 ·have hx:xs = []:=List.eq_nil_of_length_eq_zero (by simpa using aa.1)
  subst hx
  by_cases hm:m = 0
  ·subst hm
   have hn:h = []:=List.eq_nil_of_length_eq_zero (by simpa using s)
   subst hn
   refine ⟨.slice none 0 0,w,?_,World.ownsRow_nil w base e i.size,⟨rfl,rfl,rfl,Nat.le_refl _,fun _ _ _=>rfl⟩,.inl rfl⟩
   simp [Builtin.append_,run_underlying ht,sizeOf,typeInfo,hi,Builtin.lenOf,Builtin.firstCells,loadCells,loadCellsFrom]
  ·have hr:=run_append_nil (P:=P) w t ty e i z ht hi hz a m c h s an (by omega) (by omega) (by have hb:=au; simp only [Nat.zero_add] at hb; omega)
   have ab:=ao 0 (by omega) (Value.ownBlock (.slice none 0 0))
   simp only [Nat.zero_add,List.nil_append,Array.empty_append] at ab ⊢
   exact ⟨_,_,hr,ab.1,ab.2,.inr rfl⟩
 ·by_cases am:n + m ≤ cap
  ·have a4:n * i.size + h.length ≤ al.size:=by rw [s,aw,← Nat.add_mul]; exact Nat.mul_le_mul_right _ am
   have hr:=run_append_room (P:=P) w t ty e i ht hi g n cap al hg a m c h s an h1 am a4
   refine ⟨_,_,hr,⟨ae,.inr ⟨g,cap,_,rfl,ay,setRow_heap w g al _ e _ hg,am,ai,?_,?_⟩⟩,⟨rfl,rfl,rfl,by simp,fun k _ hk=>setRow_other w g k _ (fun e=>hk (by simp [Value.ownBlock,e]))⟩,.inl rfl⟩
   ·simp only [List.size_toArray,CM,List.length_take,List.length_drop,Array.length_toList]
    omega
   ·rw [ax,← ae]
    exact List.take_left
  ·have a0:∀ (j:Nat) u,xs[j]? = some u → w.cell? ((⟨g,0,none⟩:Addr).add j) = some u:=aa.cells (g:=g) rfl
   have hr:=run_append_grow (P:=P) w t ty e i z ht hi hz ⟨g,0,none⟩ n cap xs aa.1 a0 a m c h s an (by omega) (by omega) (growslice_fits (by omega) au)
   have ab:=ao cap (by omega) (Value.ownBlock (.slice (some ⟨g,0,none⟩) n cap))
   exact ⟨_,_,hr,ab.1,ab.2,.inr rfl⟩
section
variable {n:Nat} {σ:E2} {w w0:Ag} {Q:Exit → Act → Ag → Prop} {L:List Res}
variable {ds:List (Af Tmp)} {d:Nat} {T U:TypeId} {pos:String} {af:Array Edge} {rest:List Oper} {x y z:Operand} {sz:Nat} {agg:Bool} {zv:Ac}
theorem Te {e:Ty P α} {f:α → List Ac} (hf:Flat e f) (s:P.underlying U = some (.slice e.tid)) {base:Nat} {F:An} {v v2:Ac} {l m r:List α} {S:Nat → Prop}
  (ho:ownS e F w v l) (hF:∀ b ∈ F,base ≤ b) (hm:rdS e S w v2 m) (bg:Cl l m = some r) (bd:base ≤ w.heap.size) :
  ∃ v' w' F',(Builtin.append_ #[U,U] T #[v,v2]).run P w = .ok v' w' ∧ ownS e F' w' v' r ∧ w.grownBy w' v.ownBlock ∧ F'.Nodup ∧ (∀ b ∈ F',b ∈ F ∨ (w.heap.size ≤ b ∧ b < w'.heap.size)) ∧ (∀ k,v.ownBlock = some k → k ∈ F):=by
 obtain ⟨rfl,a9⟩:=WP bg
 obtain ⟨i,zz,ai,bj,bc,hz,bk⟩:=e.info
 have av:=fun x=>hf.len w x
 have aw:w.ownsRow base e.tid e.sz v l.length (l.map f).flatten:=by
  refine ⟨PW f e.sz av l,?_⟩
  rcases (KT hf).1 ho with ⟨h1,h2,h3⟩ | ⟨g,cap,aj,h1,h2,h3,h4,h5,h6,h7⟩
  ·exact .inl ⟨h1,by rw [h2]; rfl⟩
  ·exact .inr ⟨g,cap,aj,h1,hF g (by rw [h7]; simp),h2,h3,h4,h5,h6⟩
 have al:∀ k,v.ownBlock = some k → k ∈ F:=by
  intro k hk
  rcases (KT hf).1 ho with ⟨h1,h2,h3⟩ | ⟨g,cap,aj,h1,h2,h3,h4,h5,h6,h7⟩
  ·rw [h1] at hk; cases hk
  ·rw [h1] at hk
   simp [Value.ownBlock] at hk
   rw [h7,← hk]; simp
 have ba:zz.cells.size = e.sz:=by rw [bk]; simp; exact e.rd_len (e.own_rd (e.zero_own w))
 obtain ⟨a,cap,rfl,bn,hm⟩:=hm
 rcases hm with rfl | ⟨ad,rfl,a6⟩
 ·
  have bf:∃ w',(Builtin.append_ #[U,U] T #[v,.slice a ([]:List α).length cap]).run P w = .ok v w' ∧ w' = w:=by
   have hs:∀ xs,w.ownsRow base e.tid e.sz v l.length xs → (Builtin.append_ #[U,U] T #[v,.slice a 0 cap]).run P w = .ok v w:=by
    intro xs hx
    rcases hx.2 with ⟨rfl,hn⟩ | ⟨g,c,aj,rfl,hb,hg,hn,hm,hc,ht⟩
    ·cases a with
     | none=>simp [Builtin.append_,run_underlying s,sizeOf,typeInfo,ai,Builtin.lenOf,Builtin.firstCells,loadCells,loadCellsFrom]
     | some a=>simp [Builtin.append_,run_underlying s,sizeOf,typeInfo,ai,Builtin.lenOf,Builtin.firstCells,loadCells,loadCellsFrom]
    ·cases a with
     | none=>simp [Builtin.append_,run_underlying s,sizeOf,typeInfo,ai,Builtin.lenOf,Builtin.firstCells,loadCells,loadCellsFrom,hn,storeCells]
     | some a=>simp [Builtin.append_,run_underlying s,sizeOf,typeInfo,ai,Builtin.lenOf,Builtin.firstCells,loadCells,loadCellsFrom,hn,storeCells]
   exact ⟨w,hs _ aw,rfl⟩
  obtain ⟨w',be,rfl⟩:=bf
  refine ⟨v,w',F,be,by simpa using ho,⟨rfl,rfl,rfl,Nat.le_refl _,fun _ _ _=>rfl⟩,?_,fun b hb=>.inl hb,al⟩
  rcases (KT hf).1 ho with ⟨_,_,rfl⟩ | ⟨g,_,_,_,_,_,_,_,_,rfl⟩ <;> simp
 ·have bm:=ZR hf a6
  have a4:(l.length + m.length) * e.bts ≤ 140737488355328:=WI a9 e.bts_le
  obtain ⟨v',w',hr,h2,h3,bh⟩:=O4 (P:=P) w base U T e.tid i zz e.sz e.bts s ai hz bj bc ba v l.length _ aw ad m.length cap (m.map f).flatten
   (PW f e.sz av m) bm (fun u s=>by
    obtain ⟨c,hc,s⟩:=List.mem_flatten.1 s
    obtain ⟨x,_,rfl⟩:=List.mem_map.1 hc
    exact hf.ones w x u s) (by simp only [maxLen]; omega) a4 bd
  rcases h2.2 with ⟨rfl,hn⟩ | ⟨g,c,aj,rfl,hb,hg,hn,hm,hc,ht⟩
  ·have e1:l = []:=List.eq_nil_of_length_eq_zero (by omega)
   have e2:m = []:=List.eq_nil_of_length_eq_zero (by omega)
   subst e1; subst e2
   exact ⟨_,w',[],hr,.inl ⟨rfl,rfl,rfl⟩,h3,.nil,fun b hb=>(by cases hb),al⟩
  ·refine ⟨_,w',[g],hr,(KT hf).2 (.inr ⟨g,c,aj,by simp,hg,by simpa using hn,hm,hc,by simpa using ht,rfl⟩),h3,by simp,fun b a0=>?_,al⟩
   simp at a0
   subst a0
   rcases bh with h | h
   ·exact .inl (al b (by rw [← h]; rfl))
   ·simp [Value.ownBlock] at h
    exact .inr ⟨by omega,(Array.getElem?_eq_some_iff.1 hg).1⟩
theorem YK {i:Nat} {e:Ty P α} {F F':An} {v m:Ac} {l r:List α} {w':Ag} (u:Sep w0.heap.size w L) (s:E7 L i = some (Ab e F v l)) (g:Below w0.heap.size w0 w)
  (ho:ownS e F' w' m r) (f:w.grownBy w' v.ownBlock) (ae:F'.Nodup) (hF:∀ b ∈ F',b ∈ F ∨ (w.heap.size ≤ b ∧ b < w'.heap.size)) (aa:∀ k,v.ownBlock = some k → k ∈ F) :
  Below w0.heap.size w0 w' ∧ Sep w0.heap.size w' (MC L i (Ab e F' m r)):=by
 have ab:=(u.get s).2.1
 refine ⟨g.grown f g.size fun k h=>(ab k (aa k h)).1,u.upd s f.size (fun b _ ag hb=>f.block b ag fun e=>hb (aa b e.symm)) ae hF g.size fun ai h=>?_⟩
 exact ho.keep h
theorem AF {e:Ty P α} {f:α → List Ac} (hf:Flat e f) {F:An} {v v2:Ac} {l m r:List α} {S:Nat → Prop} {i:Nat} (hu:P.underlying U = some (.slice e.tid)) (hn:Nat.blt d n = true)
  (hx:B4 σ x = some v) (hy:B4 σ y = some v2) (hB:Below w0.heap.size w0 w) (hS:Sep w0.heap.size w L) (u:E7 L i = some (Ab e F v l)) (hm:rdS e S w v2 m) (ao:Cl l m = some r)
  (h:∀ s F' w',(w.heap.size ≤ w'.heap.size ∧ (∀ b,b < w.heap.size → b ∉ F → w'.heap[b]? = w.heap[b]?) ∧ ∀ b ∈ F',b ∈ F ∨ w.heap.size ≤ b) → Below w0.heap.size w0 w' → Sep w0.heap.size w' (MC L i (Ab e F' s r)) → WL P n ds rest ((d,s) :: σ) w' Q) :
  WL P n ds (⟨some d,.call ⟨.builtin .append,#[x,y],#[U,U]⟩,T,pos,af,none⟩ :: rest) σ w Q:=by
 obtain ⟨s,w',F',an,ho,aa,aj,hF,ad⟩:=Te (T:=T) hf hu (hS.ok u:ownS e F w v l) (fun b g=>((hS.get u).2.1 b g).1) hm ao hB.size
 obtain ⟨ak,ai⟩:=YK hS u hB ho aa aj hF ad
 exact CF hn (fun ρ hρ=>by simp [execOp,resolve,invoke,builtin,hρ _ _ hx,hρ _ _ hy,an]) (h s F' w' ⟨aa.size,fun b aw g=>aa.block b aw fun e=>g (ad b e.symm),fun b g=>(hF b g).imp id fun h=>h.1⟩ ak ai)
theorem Xs (vs:List Ac):∀ (cs:List Ac) (off k:Nat),off + k + vs.length ≤ cs.length →
  (vs.zipIdx k).foldl (fun (cs:Array Ac) (p:Ac × Nat)=>cs.setIfInBounds (off + p.2) p.1) cs.toArray = (Dp cs (off + k) vs).toArray:=by
 induction vs with
 | nil=>intro cs off k _; simp [Dp]
 | cons v r f =>
  intro cs off k h
  simp only [List.length_cons] at h
  rw [List.zipIdx_cons,List.foldl_cons]
  have e:=f (cs.set (off + k) v) off (k + 1) (by simp; omega)
  simp only [List.setIfInBounds_toArray]
  rw [e]
  congr 1
  unfold Dp
  have h1:(cs.set (off + k) v).take (off + (k + 1)) = cs.take (off + k) ++ [v]:=by
   rw [show off + (k + 1) = off + k + 1 by omega,List.take_succ_eq_append_getElem (by simp; omega),List.take_set,List.set_eq_of_length_le (by simp; omega)]
   simp
  rw [h1]
  simp only [List.append_assoc,List.singleton_append,List.cons_append,List.nil_append,List.length_cons]
  rw [List.drop_set_of_lt (by omega),show off + (k + 1) + r.length = off + k + (r.length + 1) by omega]
def MO (places:List (Nat × Nat)):List Ac → List (Nat × List Ac) → Af (List Ac)
 | cells,[]=>some cells
 | cells,(i,vs) :: rest =>
  match places[i]? with
  | none=>none
  | some (off,size)=>bif Nat.beq vs.length size && Nat.ble (off + vs.length) cells.length then MO places (Dp cells off vs) rest else none
theorem Ug (g:Nat → Af (Nat × Nat)) (m:List (Nat × Nat)) (hp:∀ i o s,m[i]? = some (o,s) → g i = some (o,s)):∀ (parts:List (Nat × Ac)) (ps:List (Nat × List Ac)) (e out:List Ac),
  (parts.map fun p=>(p.1,p.2.cells)) = (ps.map fun p=>(p.1,p.2.toArray)) → MO m e ps = some out → Instr.fill g e.toArray parts = some out.toArray
 | [],[],e,out,_,h=>by
  rw [MO] at h
  rw [Instr.fill,Option.some.inj h]
 | [],_ :: _,_,_,h,_=>by simp at h
 | _ :: _,[],_,_,h,_=>by simp at h
 | (i,v) :: parts,(j,vs) :: ps,e,out,l,h=>by
  simp only [List.map_cons,List.cons.injEq,Prod.mk.injEq] at l
  obtain ⟨⟨rfl,hv⟩,l⟩:=l
  rw [MO] at h
  cases aa:m[i]? with
  | none=>rw [aa] at h; cases h
  | some q =>
   obtain ⟨off,u⟩:=q
   rw [aa] at h
   simp only at h
   cases f:(Nat.beq vs.length u && Nat.ble (off + vs.length) e.length) with
   | false=>rw [f] at h; cases h
   | true =>
    rw [f] at h
    rw [Cg] at f
    have e1:=Nat.eq_of_beq_eq_true f.1
    have e2:=Nat.le_of_ble_eq_true f.2
    rw [Instr.fill,hp i off u aa]
    have ah:v.cells.size = vs.length:=by rw [hv]; simp
    simp only [ah]
    rw [if_neg (by simp [e1]; omega)]
    have hf:=Xs vs e off 0 (by omega)
    simp only [Nat.add_zero] at hf
    have e3:v.cells.zipIdx.foldl (fun (cs:Array Ac) (p:Ac × Nat)=>cs.setIfInBounds (off + p.2) p.1) e.toArray = (Dp e off vs).toArray:=by
     rw [← hf,← Array.foldl_toList,hv]
     simp
    exact (congrArg (fun c=>Instr.fill g c parts) e3).trans (Ug g m hp parts ps _ out l h)
end
end Go.Proofs.YtellehgihceicaaGreatDoor
namespace Go.Proofs.YtellehgihceicaaGreatDoor
open Go Go.RowKit
variable {P:Program} {α:Type}
section
variable {n:Nat} {σ:E2} {w w0:Ag} {Q:Exit → Act → Ag → Prop} {L:List Res}
variable {ds:List (Af Tmp)} {d:Nat} {T U:TypeId} {pos:String} {af:Array Edge} {rest:List Oper} {x y z:Operand} {sz:Nat} {agg:Bool} {zv:Ac}
def HO (P:Program) (U:TypeId) (places:List (Nat × Nat)):Bool :=
 match P.underlying U with
 | some (.struct fs)=>Nat.beq fs.size places.length && (places.zipIdx.all fun p=>match fs[p.2]? with
  | some f=>Nat.beq f.offset p.1.1 && (match P.info? f.type with
   | some i=>Nat.beq i.size p.1.2
   | none=>false)
  | none=>false)
 | _=>false
theorem UT {e:List (Nat × Nat)} (hp:HO P U e = true) (hz:∀ w,(zeroValue U).run P w = .ok zv w) {zs out:List Ac} (av:zv.cells = zs.toArray)
  {parts:List (Nat × Ac)} {ps:List (Nat × List Ac)} (aw:(parts.map fun p=>(p.1,p.2.cells)) = (ps.map fun p=>(p.1,p.2.toArray))) (m:MO e zs ps = some out) (w:Ag) :
  (Instr.build U parts.toArray).run P w = .ok (.agg out.toArray) w:=by
 unfold HO at hp
 split at hp
 case h_2=>cases hp
 rename_i u hu
 rw [Cg] at hp
 obtain ⟨h1,h2⟩:=hp
 have ag:=Nat.eq_of_beq_eq_true h1
 have al:∀ (i o s:Nat),e[i]? = some (o,s) → ∃ (f:Field) (v:TypeInfo),u[i]? = some f ∧ f.offset = o ∧ P.info? f.type = some v ∧ v.size = s:=by
  intro i o s hi
  rw [List.all_eq_true] at h2
  have ay:((o,s),i) ∈ e.zipIdx:=by
   rw [List.mem_zipIdx_iff_getElem?]
   exact hi
  have:=h2 _ ay
  simp only at this
  cases m:u[i]? with
  | none=>rw [m] at this; cases this
  | some f =>
   rw [m] at this
   simp only [Cg] at this
   cases ab:P.info? f.type with
   | none=>rw [ab] at this; exact absurd this.2 (by simp)
   | some v =>
    rw [ab] at this
    exact ⟨f,v,rfl,Nat.eq_of_beq_eq_true this.1,ab,Nat.eq_of_beq_eq_true this.2⟩
 have am:∀ (l:List Field) (k:Nat),(∀ i f,l[i]? = some f → u[k + i]? = some f) → (l.mapM fun (f:Field)=>(do pure (f.offset,← sizeOf f.type):Sem (Nat × Nat))).run P w = .ok ((e.drop k).take l.length) w:=by
  intro l
  induction l with
  | nil=>intro k _; simp
  | cons f l ih =>
   intro k hk
   have h0:=hk 0 f rfl
   simp only [Nat.add_zero] at h0
   have aj:k < e.length:=by rw [← ag]; exact (Array.getElem?_eq_some_iff.1 h0).1
   obtain ⟨f',v,ah,ho,ab,hs⟩:=al k e[k].1 e[k].2 (by simp [aj])
   rw [h0] at ah
   cases ah
   have ad:=ih (k + 1) (fun i g hg=>by have:=hk (i + 1) g (by simpa using hg); rwa [show k + 1 + i = k + (i + 1) by omega])
   rw [List.mapM_cons]
   simp only [Sem.run_bind,sizeOf,typeInfo,run_program,Result.andThen_ok,ab,Sem.run_pure] at ad ⊢
   rw [ad]
   simp only [Result.andThen_ok,Sem.run_pure]
   congr 1
   rw [List.drop_eq_getElem_cons aj,List.length_cons,List.take_succ_cons]
   simp [ho,hs]
 have az:(u.mapM fun (f:Field)=>(do pure (f.offset,← sizeOf f.type):Sem (Nat × Nat))).run P w = .ok e.toArray w:=by
  have h:=am u.toList 0 (fun i f m=>by simpa using m)
  rw [Array.mapM_eq_mapM_toList]
  simp only [Sem.run_map,h,Result.andThen_ok]
  congr 1
  simp [ag]
 have au:=Ug (e.toArray[·]?) e (fun i o s h=>by simpa using h) parts ps zs out aw m
 unfold Instr.build
 simp only [Sem.run_bind,hz,Result.andThen_ok,Sem.run_pure,run_underlying hu,az,av,au]
theorem Se {ρ:Operand → Ac} (h:∀ x v,B4 σ x = some v → ρ x = v):∀ (parts:List (Nat × Operand)) (vs:List Ac) (css:List (List Ac)),(parts.map fun p=>B4 σ p.2) = vs.map some → vs.map (·.cells) = css.map (·.toArray) →
  ((parts.map fun p=>(p.1,ρ p.2)).map fun p=>(p.1,p.2.cells)) = (((parts.map (·.1)).zip css).map fun p=>(p.1,p.2.toArray)):=by
 intro parts
 induction parts with
 | nil=>intro vs css _ _; simp
 | cons p parts g =>
  intro vs css e f
  cases vs with
  | nil=>simp at e
  | cons v vs =>
   cases css with
   | nil=>simp at f
   | cons cs css =>
    simp only [List.map_cons,List.cons.injEq,List.zip_cons_cons,Prod.mk.injEq,true_and] at e f ⊢
    exact ⟨by rw [h _ _ e.1]; exact f.1,g vs css e.2 f.2⟩
theorem DX {e:List (Nat × Nat)} {zs out:List Ac} {parts:List (Nat × Operand)} {vs:List Ac} {css:List (List Ac)} (tf:TF P U sz agg zv) (g:HO P U e = true) (s:Nat.blt d n = true)
  (u:(parts.map fun p=>B4 σ p.2) = vs.map some) (l:vs.map (·.cells) = css.map (·.toArray)) (m:zv.cells = zs.toArray) (v:MO e zs ((parts.map (·.1)).zip css) = some out)
  (h:WL P n ds rest ((d,.agg out.toArray) :: σ) w Q):WL P n ds (⟨some d,.build U parts.toArray,T,pos,af,none⟩ :: rest) σ w Q:=by
 refine CF s (fun ρ f=>?_) h
 have:=UT (zv:=zv) g tf.hzero m (parts:=parts.map fun p=>(p.1,ρ p.2)) (ps:=(parts.map (·.1)).zip css) (Se f parts vs css u l) v w
 simp only [execOp,List.map_toArray,Sem.run_bind,this,Result.andThen_ok,Sem.run_pure]
theorem Ci {v:Ac} (h:v.oneCell' = true):v.cells = #[v]:=by
 cases v <;> first | rfl | cases h
theorem Pp (zs:List Ac) (n:Nat):(madeCells zs.toArray (n * zs.length)).toList = (List.replicate n zs).flatten:=by
 apply List.ext_getElem?
 intro j
 simp only [madeCells,Array.toList_map,Array.toList_range,List.getElem?_map,List.size_toArray]
 by_cases e:j < n * zs.length
 ·have l:0 < zs.length:=by
   rcases Nat.eq_zero_or_pos zs.length with h | h
   ·rw [h] at e; simp at e
   ·exact h
  have m:j / zs.length < n:=(Nat.div_lt_iff_lt_mul l).2 e
  have g:j % zs.length < zs.length:=Nat.mod_lt _ l
  have:=Pb (cs:=List.replicate n zs) (sz:=zs.length) (fun c f=>by rw [List.eq_of_mem_replicate f]) (j / zs.length) (j % zs.length) zs (by simp [List.getElem?_replicate,m]) (zs[j % zs.length]) (by simp [g])
  rw [show j / zs.length * zs.length + j % zs.length = j by rw [Nat.mul_comm]; exact Nat.div_add_mod j zs.length] at this
  rw [this]
  simp [e,g,List.getElem?_range]
 ·have s:((List.replicate n zs).flatten).length = n * zs.length:=by rw [Ky (sz:=zs.length) (fun c f=>by rw [List.eq_of_mem_replicate f])]; simp
  rw [show ((List.replicate n zs).flatten)[j]? = none from List.getElem?_eq_none (by rw [s]; omega)]
  simp [List.getElem?_range,e]
theorem Aaf {sz:Nat}:∀ (css:List (List Ac)) (k m:Nat) (done e:List Ac),(∀ c ∈ css,c.length = sz) → done.length = k * sz → e.length = css.length * sz → k + css.length ≤ m →
  MO ((List.range m).map fun i=>(i * sz,sz)) (done ++ e) ((List.range' k css.length).zip css) = some (done ++ css.flatten):=by
 intro css
 induction css with
 | nil=>intro k m done e _ _ f _; simp at f; subst f; simp [MO]
 | cons c css ih =>
  intro k m done e s l f hm
  simp only [List.length_cons] at f hm
  have g:=s c (by simp)
  have ae:sz ≤ e.length:=by rw [f,Nat.succ_mul]; omega
  rw [List.length_cons,List.range'_succ,List.zip_cons_cons,MO]
  have v:((List.range m).map fun i=>(i * sz,sz))[k]? = some (k * sz,sz):=by simp [List.getElem?_range (show k < m by omega)]
  rw [v]
  have e1:Nat.beq c.length sz = true:=by rw [g]; exact Nat.beq_refl sz
  have e2:Nat.ble (k * sz + c.length) (done ++ e).length = true:=by rw [Nat.ble_eq,CM,l,g]; omega
  simp only [e1,e2,Bool.and_self,cond_true]
  have u:Dp (done ++ e) (k * sz) c = (done ++ c) ++ e.drop sz:=by
   unfold Dp
   rw [← l,List.take_left,List.drop_append,g]
   simp
  rw [u,ih (k + 1) m (done ++ c) (e.drop sz) (fun c' h=>s c' (by simp [h])) (by rw [CM,l,g,Nat.succ_mul]) (by rw [List.length_drop,f,Nat.succ_mul]; omega) (by omega)]
  simp
theorem M9 {e:Ty P α} (m:P.underlying U = some (.slice e.tid)) {parts:List (Nat × Ac)} {css:List (List Ac)} (u:(parts.map fun p=>(p.1,p.2.cells)) = ((List.range css.length).zip css).map fun p=>(p.1,p.2.toArray))
  (f:∀ c ∈ css,c.length = e.sz) (ak:css.length * e.sz ≤ 16777216) (w:Ag) :
  (Instr.buildSlice U css.length parts.toArray).run P w = .ok (.slice (some ⟨w.heap.size,0,none⟩) css.length css.length) (w.alloc (.cells css.flatten.toArray e.tid)):=by
 obtain ⟨i,zz,l,ad,am,hz,ai⟩:=e.info
 have ab:e.zero.length = e.sz:=e.rd_len (e.own_rd (e.zero_own w))
 have ae:Instr.fill (fun i=>some (i * e.sz,e.sz)) (madeCells zz.cells (css.length * e.sz)) parts = some css.flatten.toArray:=by
  have e0:madeCells zz.cells (css.length * e.sz) = ((List.replicate css.length e.zero).flatten).toArray:=by
   apply Array.toList_inj.1
   rw [ai,← ab,Pp]
  rw [e0]
  refine Ug _ ((List.range css.length).map fun i=>(i * e.sz,e.sz)) (fun i o s h=>?_) parts ((List.range css.length).zip css) _ _ u ?_
  ·rw [List.getElem?_map] at h
   rcases Nat.lt_or_ge i css.length with g | g
   ·rw [List.getElem?_range g] at h
    simpa using h
   ·rw [List.getElem?_eq_none (by simpa using g)] at h
    cases h
  ·have h:=Aaf (sz:=e.sz) css 0 css.length [] ((List.replicate css.length e.zero).flatten) f (by simp) (by rw [Ky (sz:=e.sz) (fun c f=>by rw [List.eq_of_mem_replicate f]; exact ab)]; simp) (by omega)
   simpa [List.range_eq_range'] using h
 unfold Instr.buildSlice
 by_cases h0:css.length * e.sz = 0
 ·have ag:css = []:=by
   rcases Nat.mul_eq_zero.1 h0 with h | h
   ·exact List.eq_nil_of_length_eq_zero h
   ·exact absurd h (Nat.ne_of_gt e.sz_pos)
  subst ag
  have ah:parts = []:=by simpa using u
  subst ah
  simp [run_underlying m,sizeOf,typeInfo,l,ad,Instr.fill,newRow,Array.range_zero']
 ·simp only [Sem.run_bind,run_underlying m,Result.andThen_ok,sizeOf,typeInfo,run_program,l,Sem.run_pure,ad]
  rw [if_neg (by simpa using ak)]
  simp only [h0,if_false,Sem.run_bind,zeroValue,typeInfo,run_program,Result.andThen_ok,l,hz,Sem.run_pure]
  have v:=ae
  unfold madeCells at v
  rw [v]
  simp [newRow]
theorem Bc {e:Ty P α} {f:α → List Ac} (hf:Flat e f) {parts:List (Nat × Operand)} {vs:List Ac} {l:List α} {k:Nat} (hu:P.underlying U = some (.slice e.tid)) (hn:Nat.blt d n = true)
  (hk:l.length = k) (ao:parts.map (·.1) = List.range k) (hx:(parts.map fun p=>B4 σ p.2) = vs.map some) (hc:vs.map (·.cells) = l.map fun u=>(f u).toArray) (aj:Nat.ble (k * e.sz) 65536 = true)
  (hB:Below w0.heap.size w0 w) (hS:Sep w0.heap.size w L)
  (h:∀ v F w',Below w.heap.size w w' → Below w0.heap.size w0 w' → Sep w0.heap.size w' (Ab e F v l :: L) → WL P n ds rest ((d,v) :: σ) w' Q) :
  WL P n ds (⟨some d,.buildSlice U k parts.toArray,T,pos,af,none⟩ :: rest) σ w Q:=by
 have ab:=fun x=>hf.len w x
 have au:=Nat.le_of_ble_eq_true aj
 refine CF (w':=w.alloc (.cells (l.map f).flatten.toArray e.tid)) (v:=.slice (some ⟨w.heap.size,0,none⟩) l.length l.length) hn (fun ρ hρ=>?_)
  (h _ [w.heap.size] _ (EP w _) (hB.trans ((EP w _).mono hB.size)) (hS.push (EP w _) (by simp [Ab]) (fun b s=>by simp [Ab] at s; subst s; simp) hB.size fun av ak=>?_))
 ·have al:∀ (parts:List (Nat × Operand)) (vs:List Ac) (l:List α) (m:Nat),parts.map (·.1) = List.range' m l.length → (parts.map fun p=>B4 σ p.2) = vs.map some → vs.map (·.cells) = l.map (fun u=>(f u).toArray) →
    ((parts.map fun p=>(p.1,ρ p.2)).map fun p=>(p.1,p.2.cells)) = (((List.range' m l.length).zip (l.map f)).map fun p=>(p.1,p.2.toArray)):=by
   intro parts
   induction parts with
   | nil =>
    intro vs l m h1 _ _
    cases l with
    | nil=>rfl
    | cons _ _=>simp [List.range'_succ] at h1
   | cons p parts ih =>
    intro vs l m h1 g h3
    cases l with
    | nil=>simp at h1
    | cons u l =>
     cases vs with
     | nil=>simp at g
     | cons v vs =>
      simp only [List.map_cons,List.cons.injEq,List.length_cons,List.range'_succ,List.zip_cons_cons,Prod.mk.injEq] at h1 g h3 ⊢
      exact ⟨⟨h1.1,by rw [hρ _ _ g.1]; exact h3.1⟩,ih vs l (m + 1) h1.2 g.2 h3.2⟩
  have s:=M9 (P:=P) hu (parts:=parts.map fun p=>(p.1,ρ p.2)) (css:=l.map f) (by
    have:=al parts vs l 0 (by rw [ao,hk,List.range_eq_range']) hx hc
    simpa [List.range_eq_range'] using this) (fun c hc=>by obtain ⟨u,_,rfl⟩:=List.mem_map.1 hc; exact ab u) (by simp [hk]; omega) w
  simp only [List.length_map,hk] at s
  simp only [execOp,List.map_toArray,Sem.run_bind,s,Result.andThen_ok,Sem.run_pure,hk]
 ·have hh:=ak w.heap.size (by simp [Ab])
  refine (KT hf).2 (.inr ⟨w.heap.size,l.length,_,rfl,by rw [hh,heap_alloc_new],Nat.le_refl _,?_,?_,?_,rfl⟩)
  ·simp only [maxLen]
   have:=e.sz_pos
   have g:k ≤ k * e.sz:=Nat.le_mul_of_pos_right k this
   omega
  ·simp [PW f e.sz ab l]
  ·rw [List.toList_toArray,List.take_of_length_le (by rw [PW f e.sz ab l]; exact Nat.le_refl _)]
theorem Q4 {A B C:Type} {R:A → B → C → Prop} {a:A} {b:B} {c:C} (h:R a b c):∀ n,Z3 R (List.replicate n a) (List.replicate n b) (List.replicate n c)
 | 0=>trivial
 | n + 1=>⟨h,Q4 h n⟩
theorem NC {e:Ty P α} {k:IntKind} {m:Int} {l:List α} (hu:P.underlying U = some (.slice e.tid)) (hn:Nat.blt d n = true) (hx:B4 σ x = some (.int k m)) (f:RY m e.dflt = some l)
  (s:Below w0.heap.size w0 w) (hS:Sep w0.heap.size w L)
  (h:∀ v F w',Below w.heap.size w w' → Below w0.heap.size w0 w' → Sep w0.heap.size w' (Ab e F v l :: L) → WL P n ds rest ((d,v) :: σ) w' Q) :
  WL P n ds (⟨some d,.makeSlice U x x,T,pos,af,none⟩ :: rest) σ w Q:=by
 unfold RY at f
 split at f
 case isFalse=>cases f
 rename_i g
 have ag:=(Option.some.inj f).symm
 subst ag
 obtain ⟨i,zz,aj,am,ah,hz,ap⟩:=e.info
 have ak:e.zero.length = e.sz:=e.rd_len (e.own_rd (e.zero_own w))
 have u:=run_make (P:=P) w U e.tid i zz hu aj hz k k m m g.1 (Int.le_refl _) (by
  rw [ah]
  have h1:(e.bts:Int) ≤ 65536:=by have:=e.bts_le; omega
  have h2:(e.bts:Int) * m ≤ 65536 * 1073741824:=Int.mul_le_mul h1 g.2 g.1 (by omega)
  omega) (by omega)
 rw [am,ap] at u
 refine CF (w':=w.alloc (.cells (madeCells e.zero.toArray (m.toNat * e.sz)) e.tid)) (v:=.slice (some ⟨w.heap.size,0,none⟩) m.toNat m.toNat) hn (fun ρ hρ=>by simp [execOp,hρ _ _ hx,u])
  (h _ [w.heap.size] _ (EP w _) (s.trans ((EP w _).mono s.size)) (hS.push (EP w _) (by simp [Ab]) (fun b hb=>by simp [Ab] at hb; subst hb; simp) s.size fun aa ai=>?_))
 have hh:=ai w.heap.size (by simp [Ab])
 refine .inr ⟨w.heap.size,m.toNat,_,List.replicate m.toNat e.zero,List.replicate m.toNat [],by simp,by rw [hh,heap_alloc_new],by simp,by simp only [maxLen]; omega,by simp [madeCells],?_,Q4 (R:=fun F cs x=>e.own F aa cs x) (a:=[]) (e.zero_own aa) _,?_⟩
 ·rw [← ak,Pp,List.length_replicate,List.take_of_length_le]
  rw [Ky (sz:=e.zero.length) (fun c hc=>by rw [List.eq_of_mem_replicate hc])]
  simp
 ·have:(List.replicate m.toNat ([]:An)).flatten = []:=by induction m.toNat <;> simp_all [List.replicate_succ]
  rw [this]
def OPtr (sz:Nat) (v:Ac) (p:Addr) (k o:Nat):Prop:=∃ g c m,v = .slice (some ⟨g,0,none⟩) c m ∧ p = ⟨g,k * sz + o,none⟩
theorem OPtr.add {sz:Nat} {v:Ac} {p:Addr} {k o:Nat} (h:OPtr sz v p k o) (j:Nat):OPtr sz v (p.add j) k (o + j):=by
 obtain ⟨g,c,m,h1,rfl⟩:=h
 exact ⟨g,c,m,h1,by rw [Addr.add_lit,Nat.add_assoc]⟩
theorem Cn {e:Ty P α} {F:An} {v:Ac} {l:List α} {k:IntKind} {f:Int} {u:α} {i:Nat} (hu:P.underlying U = some (.slice e.tid)) (hn:Nat.blt d n = true)
  (hx:B4 σ x = some v) (hy:B4 σ y = some (.int k f)) (hS:Sep w0.heap.size w L) (hg:E7 L i = some (Ab e F v l)) (hi:AK l f = some u)
  (h:∀ p cs,e.rd (· < w.heap.size) w cs u → EAt (· < w.heap.size) w p cs → OPtr e.sz v p f.toNat 0 → WL P n ds rest ((d,.pointer (some p)) :: σ) w Q):WL P n ds (⟨some d,.indexAddr U x y,T,pos,af,none⟩ :: rest) σ w Q:=by
 have ho:ownS e F w v l:=hS.ok hg
 have hr:=hS.own_ro hg
 obtain ⟨h0,hl,ae⟩:=MD hi
 rcases ho with ⟨_,rfl,_⟩ | ⟨g,cap,a9,css,Fs,hv,ba,bd,hm,hc,ht,hz,hF⟩
 ·simp at ae
 ·subst hv
  obtain ⟨a,a6,he,bc,m⟩:=hr
  injection he with s a3 a2
  rcases m with rfl | ⟨ad,rfl,m⟩
  ·simp at ae
  ·injection s with s
   subst s
   obtain ⟨ii,zz,an,ap,_⟩:=e.info
   obtain ⟨hb,cs,ag,ax⟩:=m _ _ hl
   have aj:0 ≤ f ∧ f < (l.length:Int):=⟨h0,by omega⟩
   refine CF hn (fun ρ hρ=>?_) (h _ cs ag ⟨hb,ax⟩ ⟨g,_,_,rfl,by rw [Addr.add_lit,Nat.zero_add,Nat.add_zero]⟩)
   simp [execOp,hρ _ _ hx,hρ _ _ hy,Instr.indexAt,asIntOf,run_underlying hu,sizeOf,typeInfo,an,ap,aj]
theorem Uf {sz:Nat} {css:List (List Ac)} (f:∀ c ∈ css,c.length = sz):∀ (k o:Nat) (vs c:List Ac),css[k]? = some c → o + vs.length ≤ sz →
  Dp css.flatten (k * sz + o) vs = (css.set k (Dp c o vs)).flatten:=by
 induction css with
 | nil=>intro k o vs c h _; simp at h
 | cons d r l =>
  intro k o vs c e m
  have s:d.length = sz:=f d (by simp)
  cases k with
  | zero =>
   simp at e
   subst e
   simp only [Nat.zero_mul,Nat.zero_add,List.set_cons_zero,List.flatten_cons,Dp]
   rw [List.take_append_of_le_length (by omega),List.drop_append_of_le_length (by omega)]
   simp
  | succ k =>
   simp at e
   have:=l (fun c g=>f c (by simp [g])) k o vs c e m
   simp only [List.set_cons_succ,List.flatten_cons]
   rw [← this]
   unfold Dp
   rw [show (k + 1) * sz + o = d.length + (k * sz + o) by rw [s,Nat.succ_mul]; omega,List.take_length_add_append,show d.length + (k * sz + o) + vs.length = d.length + (k * sz + o + vs.length) by omega,List.drop_length_add_append]
   simp
theorem BL {e:Ty P α} {f:α → List Ac} (hf:Flat e f) {F:An} {v vx:Ac} {l:List α} {u u':α} {i o:Nat} {m:Int} {p:Addr} {vs:List Ac} (tf:TF P U sz agg zv)
  (hx:B4 σ x = some (.pointer (some p))) (hy:B4 σ y = some vx) (hv:vx.cells = vs.toArray) (a9:vs.length = sz) (hp:OPtr e.sz v p m.toNat o) (hi:AK l m = some u)
  (hB:Below w0.heap.size w0 w) (hS:Sep w0.heap.size w L) (hg:E7 L i = some (Ab e F v l)) (au:Nat.ble (o + vs.length) e.sz = true) (h1:Ones vs) (bb:Dp (f u) o vs = f u')
  (h:∀ w',(w.heap.size ≤ w'.heap.size ∧ (∀ b,b < w.heap.size → b ∉ F → w'.heap[b]? = w.heap[b]?) ∧ ∀ b ∈ F,b ∈ F ∨ w.heap.size ≤ b) → Below w0.heap.size w0 w' → Sep w0.heap.size w' (MC L i (Ab e F v (BC l m u'))) → WL P n ds rest σ w' Q) :
  WL P n ds (⟨none,.store U x y,T,pos,af,none⟩ :: rest) σ w Q:=by
 have ho:ownS e F w v l:=hS.ok hg
 have a5:=(hS.get hg).2.1
 obtain ⟨h0,hl,aq⟩:=MD hi
 have a7:=Nat.le_of_ble_eq_true au
 rcases (KT hf).1 ho with ⟨_,rfl,_⟩ | ⟨g,cap,aa,aj,ao,ar,hm,hc,ht,hF⟩
 ·simp at aq
 ·obtain ⟨g',c',m',al,rfl⟩:=hp
  rw [aj] at al
  injection al with ha _ _
  injection ha with ha
  injection ha with ha _ _
  subst ha
  have aw:=fun x=>hf.len w x
  have a6:(m.toNat + 1) * e.sz ≤ aa.size:=by rw [hc]; exact Nat.mul_le_mul_right _ (by omega)
  rw [Nat.succ_mul] at a6
  have bc:=(a5 g (by rw [hF]; simp [Ab])).1
  have ax:=MW (P:=P) w g (m.toNat * e.sz + o) e.tid U aa.toList vs vx hv (fun w=>by rw [a9]; exact tf.hsize w) (by simpa using ao) (by simp; omega) h1
  have ap:∀ b,b ≠ g → (w.setRow g (Dp aa.toList (m.toNat * e.sz + o) vs).toArray).heap[b]? = w.heap[b]?:=fun b s=>setRow_other w g b _ s
  refine Ab0 (w':=w.setRow g (Dp aa.toList (m.toNat * e.sz + o) vs).toArray) (fun ρ hρ=>?_)
   (h _ ⟨by simp,fun b _ s=>ap b fun e=>s (by rw [hF,e]; simp),fun b s=>.inl s⟩ (hB.trans (QH w g _ bc)) (hS.upd hg (by simp) (fun b _ _ s=>ap b fun e=>s (by rw [hF,e]; simp [Ab])) (by rw [hF]; simp [Ab]) (fun b s=>.inl s) hB.size fun bi hk=>?_))
  ·simp [execOp,hρ _ _ hx,hρ _ _ hy,Instr.storeAt,Instr.sureAddr,ax]
  ·have hh:=hk g (by rw [hF]; simp [Ab])
   refine (KT hf).2 (.inr ⟨g,cap,_,by simpa [BC] using aj,by rw [hh,setRow_heap w g aa _ e.tid _ ao],by simpa [BC] using ar,hm,?_,?_,hF⟩)
   ·rw [List.size_toArray,XV (by simp; omega)]
    simpa using hc
   ·have am:=Uf (sz:=e.sz) (css:=l.map f) (fun c hc=>by obtain ⟨x,_,rfl⟩:=List.mem_map.1 hc; exact aw x) m.toNat o vs (f u) (by simp [hl]) a7
    rw [bb,← List.map_set] at am
    simp only [BC]
    rw [← am,← ht,List.toList_toArray,List.length_set]
    have bh:m.toNat * e.sz + o + vs.length ≤ l.length * e.sz:=by
     have:(m.toNat + 1) * e.sz ≤ l.length * e.sz:=Nat.mul_le_mul_right _ aq
     rw [Nat.succ_mul] at this
     omega
    unfold Dp
    rw [List.take_append,List.take_append,List.length_take,List.take_take,List.drop_take]
    have bf:l.length * e.sz ≤ aa.toList.length:=by simp [hc]; exact Nat.mul_le_mul_right _ ar
    rw [Nat.min_eq_left (by omega:m.toNat * e.sz + o ≤ aa.toList.length),List.take_take,List.take_of_length_le (l:=vs) (by omega)]
    rw [Nat.min_eq_right (by omega),Nat.min_eq_left (by omega)]
    congr 2
    congr 1
    omega
theorem Ab3 {xs f:Array Ac} {b:Bool} {TB:TypeId} (u:P.eqGuardType P.depth U = false) (l:∀ w,(Op.equalIn 10000 U (.agg xs) (.agg f)).run P w = .ok b w) (m:Nat.blt d n = true)
  (s:B4 σ x = some (.agg xs)) (g:B4 σ y = some (.agg f)) (h:WL P n ds rest ((d,.bool b) :: σ) w Q):WL P n ds (⟨some d,.binOp .eql U x y TB,T,pos,af,none⟩ :: rest) σ w Q :=
 CF m (fun ρ e=>by simp [execOp,e _ _ s,e _ _ g,run_eqGuard_agg w _ _ _ _ _ _ u,run_eql_struct,l]) h
def W4 (tmps:Array Ac):ResultVar → Sem Ac
 | .tmp t=>pure (tmps.getD t undef)
 | .cell ad T=>do loadVar T (← asAddr (tmps.getD ad undef))
def RV (P:Program) (n:Nat) (σ:E2) (w:Ag) (rv:ResultVar) (v:Ac):Prop :=
 ∀ a,St n σ a → (W4 a.tmps rv).run P w = .ok v w
theorem Kg {t:Tmp} {v:Ac} (h:G4 σ t = some v):RV P n σ w (.tmp t) v:=fun a e=>by
 simp [W4,e.get t v h]
theorem Hh {t:Tmp} {v:Ac} {b i:Nat} {V:TypeId} {cs vs:List Ac} (e:TF P U sz agg zv) (h:G4 σ t = some (.pointer (some ⟨b,0,none⟩))) (hS:Sep w0.heap.size w L) (l:E7 L i = some (A9 b V cs)) (s:KR cs 0 sz = some vs) (f:pk agg vs = v) :
  RV P n σ w (.cell t U) v:=fun a m=>by
 have g:w.heap[b]? = some (.cells cs.toArray V (0,0)):=hS.ok l
 have u:=Ie (w:=w) e ⟨b,0,none⟩ cs vs (by simpa using OE (o:=0) g) s e.one
 rw [← f]
 simp [W4,m.get t _ h,asAddr,u]
theorem YP {f:Func} (e:Array Ac) (w:Ag):(results f e).run P w = ((f.results.mapM (W4 e)).run P w).andThen fun vs w'=>.ok (if h:vs.size = 1 then vs[0] else .tuple vs) w':=by
 unfold results
 rw [Sem.run_bind]
 rfl
theorem Zh (f:Array Ac) (w:Ag):∀ (e:List ResultVar) (vs:List Ac),e.length = vs.length → (∀ (i:Nat) r v,e[i]? = some r → vs[i]? = some v → (W4 f r).run P w = .ok v w) → (e.mapM (W4 f)).run P w = .ok vs w
 | [],[],_,_=>by simp
 | r :: e,v :: vs,hl,h=>by
  rw [List.mapM_cons]
  have s:=h 0 r v rfl rfl
  have l:=Zh f w e vs (by simpa using hl) fun i r v g m=>h (i + 1) r v (by simpa using g) (by simpa using m)
  simp only [Sem.run_bind,s,l,Result.andThen_ok,Sem.run_pure]
 | [],_ :: _,hl,_=>by simp at hl
 | _ :: _,[],hl,_=>by simp at hl
def Sj:List Ac → Ac
 | [v]=>v
 | vs=>.tuple vs.toArray
def RVs (P:Program) (n:Nat) (σ:E2) (w:Ag):List ResultVar → List Ac → Prop
 | [],[]=>True
 | r :: rs,v :: vs=>RV P n σ w r v ∧ RVs P n σ w rs vs
 | _,_=>False
theorem RVs.get:∀ {e:List ResultVar} {vs:List Ac},RVs P n σ w e vs → e.length = vs.length ∧ ∀ (i:Nat) r v,e[i]? = some r → vs[i]? = some v → RV P n σ w r v
 | [],[],_=>⟨rfl,fun i r v h=>by simp at h⟩
 | r :: e,v :: vs,h=>by
  obtain ⟨h1,m⟩:=RVs.get h.2
  refine ⟨by simp [h1],fun i r' l f g=>?_⟩
  cases i with
  | zero =>
   simp at f g
   subst f; subst g
   exact h.1
  | succ i=>exact m i r' l (by simpa using f) (by simpa using g)
 | [],_ :: _,h=>h.elim
 | _ :: _,[],h=>h.elim
theorem J6 {g:Func} {R:Ending → Ag → Prop} {e:List ResultVar} {vs:List Ac} {Q:Exit → Act → Ag → Prop} (m:∀ a w,bodyPost P g R .ret a w → Q .ret a w) (f:g.results = e.toArray) (h0:RVs P n σ w e vs) (h:R (.returned (Sj vs)) w) :
  ∀ a,St n σ a → Q .ret a w:=fun a l=>m _ _ (by
 refine ⟨l.defs,Sj vs,?_,h⟩
 obtain ⟨h1,s⟩:=h0.get
 have hm:=Zh (P:=P) a.tmps w e vs h1 fun i r v f hv=>s i r v f hv a l
 rw [YP,f]
 have:(e.toArray.mapM (W4 a.tmps)).run P w = .ok vs.toArray w:=by
  rw [Array.mapM_eq_mapM_toList]
  simp only [Sem.run_map,List.toList_toArray,hm,Result.andThen_ok]
 rw [this,Result.andThen_ok]
 congr 1
 cases vs with
 | nil=>simp [Sj]
 | cons v r =>
  cases r with
  | nil=>simp [Sj]
  | cons u r=>simp [Sj])
end
def Jb (Q:Exit → Act → Ag → Prop):Prop:=∀ c a (d:Af Tmp) v w,Q (.panic c) (Act.put a d v) w → Q (.panic c) a w
theorem GA {f:FuncId} {e:Func} {c:Code} {g:List Ac} {w:Ag} {R:Ending → Ag → Prop} {n:Nat}
  (u:P.funcs[f]? = some e) (hb:e.body = some c) (m:e.ntmps = n) (s:g.length + (n - g.length) = n) {σ:E2} (l:σ = g.zipIdx.map (fun p=>(p.2,p.1)))
  (h:∀ Q:Exit → Act → Ag → Prop,(∀ a w,bodyPost P e R .ret a w → Q .ret a w) → Jb Q → W P n c σ w Q):Calls P f g.toArray w R :=
 WG u hb m s l (h _ (fun _ _ h=>h) fun c a d v w h=>by cases d <;> exact h)
theorem AQ {n:Nat} {σ:E2} {w:Ag} {Q:Exit → Act → Ag → Prop} {c:Code} (I:Nat → Act → Ag → Prop) (f:Nat) (s:∀ a,St n σ a → I f a w)
  (h:∀ m a w,I m a w → ∀ KL:Act → Ag → Prop,(∀ a' w' e,e < m → I e a' w' → KL a' w') → c.wp P (Exit.then KL Q) a w):W P n (.loop c) σ w Q :=
 Adj I f s fun m a w u=>h m a w u _ fun _ _ e l g=>⟨e,l,g⟩
theorem BE {n:Nat} {σ:E2} {w:Ag} {Q:Exit → Act → Ag → Prop} {c:Code} {a:Act} (h:W P n c σ w Q) (e:St n σ a):c.wp P Q a w:=h a e
theorem Sep.join {base:Nat} {w w':Ag} {L M:List Res} (h:Sep base w L) (f:Below w.heap.size w w') (g:Sep w.heap.size w' M) (u:base ≤ w.heap.size):Sep base w' (M ++ L):=by
 have l:=h.below f
 refine ⟨fun r e=>?_,List.pairwise_append.2 ⟨g.2,l.2,fun r e s m b f v=>?_⟩⟩
 ·rcases AX.1 e with e | e
  ·have:=g.1 r e
   exact ⟨this.1,fun b f=>⟨Ay u (this.2.1 b f).1,(this.2.1 b f).2⟩,this.2.2⟩
  ·exact l.1 r e
 ·have h1:=((g.1 r e).2.1 b f).1
  have h2:=((h.1 s m).2.1 b v).2
  omega
theorem Adx {α β:Type} {o:Af α} {f:α → Af β} {r:β} (h:Option.bind o f = some r):∃ a,o = some a ∧ f a = some r:=by
 cases o with
 | none=>cases h
 | some a=>exact ⟨a,rfl,h⟩
theorem Be {α:Type} {r:α} {C:Prop} (h:none = some r):C:=by cases h
theorem Ch {A R:Type} {rest:A → Af R} {e:(A → Af R) → Af R} {r:R} (h:Bk rest e = some r):∃ k,k = rest ∧ e k = some r:=⟨_,rfl,h⟩
theorem Nt {A B R:Type} {rest:A → B → Af R} {e:(A → B → Af R) → Af R} {r:R} (h:Gr rest e = some r):∃ k,k = rest ∧ e k = some r:=⟨_,rfl,h⟩
theorem jE3 {A B C R:Type} {rest:A → B → C → Af R} {e:(A → B → C → Af R) → Af R} {r:R} (h:W0 rest e = some r):∃ k,k = rest ∧ e k = some r:=⟨_,rfl,h⟩
theorem jE4 {A B C D R:Type} {rest:A → B → C → D → Af R} {e:(A → B → C → D → Af R) → Af R} {r:R} (h:Wz rest e = some r):∃ k,k = rest ∧ e k = some r:=⟨_,rfl,h⟩
theorem jE5 {A B C D E R:Type} {rest:A → B → C → D → E → Af R} {e:(A → B → C → D → E → Af R) → Af R} {r:R} (h:jK5 rest e = some r):∃ k,k = rest ∧ e k = some r:=⟨_,rfl,h⟩
theorem BB {c:Prop} [Decidable c] {α:Type} {A B:Af α} {r:α} (h:c) (e:(if c then A else B) = some r):A = some r:=by rwa [if_pos h] at e
theorem Lv {c:Prop} [Decidable c] {α:Type} {A B:Af α} {r:α} (h:¬ c) (e:(if c then A else B) = some r):B = some r:=by rwa [if_neg h] at e
theorem Cf {b:Bool} {α:Type} {A B:Af α} {r:α} (h:b = false) (e:(if b = true then A else B) = some r):B = some r:=by rw [h] at e; exact e
theorem bE (b:Bool):b = true ∨ b = false:=by cases b <;> simp
def B5 (l:List Aj):ByteArray:=⟨l.toArray⟩
end Go.Proofs.YtellehgihceicaaGreatDoor
namespace Go.Proofs.YtellehgihceicaaGreatDoor
open Go Go.RowKit
variable {P:Program} {α:Type}
structure KeepX (wS:Ag) (X:An) (w:Ag):Prop where
 lt:∀ b,b < wS.heap.size → b ∉ X → b < w.heap.size
 blk:∀ b,b < wS.heap.size → b ∉ X → w.heap[b]? = wS.heap[b]?
theorem KeepX.refl (w:Ag) (X:An):KeepX w X w:=⟨fun _ h _=>h,fun _ _ _=>rfl⟩
theorem KeepX.ext {wS w w':Ag} {X:An} (h:KeepX wS X w) (f:Below w.heap.size w w'):KeepX wS X w' :=
 ⟨fun b h1 l=>Nat.lt_of_lt_of_le (h.lt b h1 l) f.size,fun b g e=>(f.block b (h.lt b g e)).trans (h.blk b g e)⟩
def PR (P:Program) (n:Nat) (σ:E2) (S:Ag → Prop) (d:Nat) (op:Op) (T:TypeId) (v:Ac):Prop :=
 Nat.blt d n = true ∧ ∀ ρ:Operand → Ac,(∀ x v,B4 σ x = some v → ρ x = v) → ∀ w,S w → ∀ dst pos af gd,(execOp ρ ⟨dst,op,T,pos,af,gd⟩).run P w = .ok (.value v) w
section
variable {n:Nat} {σ:E2} {S:Ag → Prop} {G:Ac → Prop} {d:Nat} {T TB U:TypeId} {x y z:Operand} {k:IntKind} {a b:Int} {p q:Bool} {sz:Nat} {agg:Bool} {zv:Ac} {wS w0:Ag} {X:An} {L:List Res}
theorem Da {v:Ac} (f:Nat.blt d n = true) (g:B4 σ x = some v) (h:G (v)):∃ v,PR P n σ S d (.move x) T v ∧ G v :=
 ⟨_,⟨f,fun ρ e w _ m pos af l=>by simp [execOp,e _ _ g]⟩,h⟩
theorem AC {v:Ac} (f:Nat.blt d n = true) (g:B4 σ x = some v) (h:G (v)):∃ v,PR P n σ S d (.assign x) T v ∧ G v :=
 ⟨_,⟨f,fun ρ e w _ m pos af l=>by simp [execOp,e _ _ g]⟩,h⟩
theorem Ep {v:Ac} {b:Bool} (g:Nat.blt d n = true) (l:B4 σ x = some (.bool b)) (m:b = true) (f:B4 σ y = some v) (h:G (v)):∃ v,PR P n σ S d (.pick x y z) T v ∧ G v :=
 ⟨_,⟨g,fun ρ e w _ u pos af s=>by subst m; simp [execOp,e _ _ l,e _ _ f,asBool]⟩,h⟩
theorem Ga {v:Ac} {b:Bool} (g:Nat.blt d n = true) (l:B4 σ x = some (.bool b)) (m:b = false) (f:B4 σ z = some v) (h:G (v)):∃ v,PR P n σ S d (.pick x y z) T v ∧ G v :=
 ⟨_,⟨g,fun ρ e w _ u pos af s=>by subst m; simp [execOp,e _ _ l,e _ _ f,asBool]⟩,h⟩
theorem E8 (g:Nat.blt d n = true) (l:B4 σ x = some (.int k a)) (f:B4 σ y = some (.int k b)) (h:G (.int k (k.wrap (a + b)))):∃ v,PR P n σ S d (.binOp .add T x y U) T v ∧ G v :=
 ⟨_,⟨g,fun ρ e w _ s pos af m=>by simp [execOp,e _ _ l,e _ _ f,eqGuard,binOp,Op.intArith]⟩,h⟩
theorem GR (g:Nat.blt d n = true) (l:B4 σ x = some (.int k a)) (f:B4 σ y = some (.int k b)) (h:G (.int k (k.wrap (a - b)))):∃ v,PR P n σ S d (.binOp .sub T x y U) T v ∧ G v :=
 ⟨_,⟨g,fun ρ e w _ s pos af m=>by simp [execOp,e _ _ l,e _ _ f,eqGuard,binOp,Op.intArith]⟩,h⟩
theorem Jo (g:Nat.blt d n = true) (l:B4 σ x = some (.int k a)) (f:B4 σ y = some (.int k b)) (h:G (.int k (k.wrap (a * b)))):∃ v,PR P n σ S d (.binOp .mul T x y U) T v ∧ G v :=
 ⟨_,⟨g,fun ρ e w _ s pos af m=>by simp [execOp,e _ _ l,e _ _ f,eqGuard,binOp,Op.intArith]⟩,h⟩
theorem LZ (g:Nat.blt d n = true) (l:B4 σ x = some (.int k a)) (f:B4 σ y = some (.int k b)) (m:b ≠ 0) (h:G (.int k (k.wrap (a.tdiv b)))):∃ v,PR P n σ S d (.binOp .quo T x y U) T v ∧ G v :=
 ⟨_,⟨g,fun ρ e w _ u pos af s=>by simp [execOp,e _ _ l,e _ _ f,eqGuard,binOp,Op.intDiv,m]⟩,h⟩
theorem Tg (g:Nat.blt d n = true) (l:B4 σ x = some (.int k a)) (f:B4 σ y = some (.int k b)) (m:b ≠ 0) (h:G (.int k (a.tmod b))):∃ v,PR P n σ S d (.binOp .rem T x y U) T v ∧ G v :=
 ⟨_,⟨g,fun ρ e w _ u pos af s=>by simp [execOp,e _ _ l,e _ _ f,eqGuard,binOp,Op.intDiv,m]⟩,h⟩
theorem Ma (g:Nat.blt d n = true) (l:B4 σ x = some (.int k a)) (f:B4 σ y = some (.int k b)) (h:G (.bool (decide (a < b)))):∃ v,PR P n σ S d (.binOp .lss T x y U) TB v ∧ G v :=
 ⟨_,⟨g,fun ρ e w _ s pos af m=>by simp [execOp,e _ _ l,e _ _ f,eqGuard,binOp,Op.intCmp]⟩,h⟩
theorem Ti (g:Nat.blt d n = true) (l:B4 σ x = some (.int k a)) (f:B4 σ y = some (.int k b)) (h:G (.bool (decide (b < a)))):∃ v,PR P n σ S d (.binOp .gtr T x y U) TB v ∧ G v :=
 ⟨_,⟨g,fun ρ e w _ s pos af m=>by simp [execOp,e _ _ l,e _ _ f,eqGuard,binOp,Op.intCmp]⟩,h⟩
theorem Wj (g:Nat.blt d n = true) (l:B4 σ x = some (.int k a)) (f:B4 σ y = some (.int k b)) (h:G (.bool (decide (b ≤ a)))):∃ v,PR P n σ S d (.binOp .geq T x y U) TB v ∧ G v :=
 ⟨_,⟨g,fun ρ e w _ s pos af m=>by simp [execOp,e _ _ l,e _ _ f,eqGuard,binOp,Op.intCmp]⟩,h⟩
theorem Pr (g:Nat.blt d n = true) (l:B4 σ x = some (.int k a)) (f:B4 σ y = some (.int k b)) (h:G (.bool (a == b))):∃ v,PR P n σ S d (.binOp .eql T x y U) TB v ∧ G v :=
 ⟨_,⟨g,fun ρ e w _ s pos af m=>by simp [execOp,e _ _ l,e _ _ f,eqGuard,binOp,Op.intCmp]⟩,h⟩
theorem Acg (g:Nat.blt d n = true) (l:B4 σ x = some (.int k a)) (f:B4 σ y = some (.int k b)) (h:G (.bool (a != b))):∃ v,PR P n σ S d (.binOp .neq T x y U) TB v ∧ G v :=
 ⟨_,⟨g,fun ρ e w _ s pos af m=>by simp [execOp,e _ _ l,e _ _ f,eqGuard,binOp,Op.intCmp]⟩,h⟩
theorem Kh (f:Nat.blt d n = true) (g:B4 σ x = some (.bool p)) (h:G (.bool (!p))):∃ v,PR P n σ S d (.unOp .not T x) TB v ∧ G v :=
 ⟨_,⟨f,fun ρ e w _ m pos af l=>by simp [execOp,e _ _ g,Op.unary]⟩,h⟩
theorem AV {vs:Array Ac} {i:Nat} {v:Ac} (f:Nat.blt d n = true) (l:B4 σ x = some (.tuple vs)) (g:vs[i]? = some v) (h:G (v)):∃ v,PR P n σ S d (.extract x i) T v ∧ G v :=
 ⟨_,⟨f,fun ρ e w _ s pos af m=>by simp [execOp,e _ _ l,Instr.extract,g]⟩,h⟩
theorem ZT {f o b off e:Nat} (u:Fu P U f o = true) (l:Nat.blt d n = true) (s:B4 σ x = some (.pointer (some ⟨b,off,none⟩))) (m:off + o = e)
  (h:G (.pointer (some ⟨b,e,none⟩))):∃ v,PR P n σ S d (.fieldAddr U x f) T v ∧ G v :=
 ⟨_,⟨l,fun ρ g w _ ab pos af gd=>by simp [execOp,g _ _ s,MN u,Addr.add_lit,m]⟩,h⟩
theorem C4 {f o:Nat} {p:Addr} (m:Fu P U f o = true) (g:Nat.blt d n = true) (l:B4 σ x = some (.pointer (some p)))
  (h:G (.pointer (some (p.add o)))):∃ v,PR P n σ S d (.fieldAddr U x f) T v ∧ G v :=
 ⟨_,⟨g,fun ρ e w _ u pos af s=>by simp [execOp,e _ _ l,MN m]⟩,h⟩
theorem OU {i b off:Nat} {V:TypeId} {cs vs:List Ac} {v:Ac} (e:TF P U sz agg zv) (hn:Nat.blt d n = true)
  (hx:B4 σ x = some (.pointer (some ⟨b,off,none⟩))) (g:Sep w0.heap.size wS L) (f:E7 L i = some (A9 b V cs)) (hv:KR cs off sz = some vs) (m:pk agg vs = v) (s:b ∉ X)
  (h:G v):∃ v,PR P n σ (KeepX wS X) d (.load U x) T v ∧ G v:=by
 refine ⟨_,⟨hn,fun ρ l w hw ai pos af gd=>?_⟩,h⟩
 have u:wS.heap[b]? = some (.cells cs.toArray V (0,0)):=g.ok f
 have hb:=((g.get f).2.1 b (by simp [A9])).2
 have hl:=Ie (w:=w) e ⟨b,off,none⟩ (cs.drop off) vs (OE ((hw.blk b hb s).trans u)) (VY hv e.pos) e.one
 rw [← m]
 simp [execOp,l _ _ hx,Instr.loadAt,Instr.sureAddr,hl]
theorem YS {S':Nat → Prop} {p:Addr} {cs vs:List Ac} {v:Ac} (e:TF P U sz agg zv) (m:Nat.blt d n = true)
  (u:B4 σ x = some (.pointer (some p))) (g:∀ w,S w → EAt S' w p cs) (s:KR cs 0 sz = some vs) (aa:pk agg vs = v)
  (h:G v):∃ v,PR P n σ S d (.load U x) T v ∧ G v:=by
 refine ⟨_,⟨m,fun ρ f w l ad pos af gd=>?_⟩,h⟩
 have hl:=Ie (w:=w) e p cs vs (g w l).2 s e.one
 rw [← aa]
 simp [execOp,f _ _ u,Instr.loadAt,Instr.sureAddr,hl]
theorem EAt.kx {p:Addr} {cs:List Ac} (h:EAt (· < w0.heap.size) w0 p cs) (e:Below w0.heap.size w0 wS) (l:∀ b ∈ X,w0.heap.size ≤ b):∀ w,KeepX wS X w → EAt (· < w0.heap.size) w p cs:=fun w m =>
 ⟨h.1,fun j c g=>by
  have f:p.block < w0.heap.size:=h.1
  rw [OD (w:=w0) (w':=w) (a:=p.add j) (by rw [JY,m.blk _ (Nat.lt_of_lt_of_le f e.size) (fun s=>by have:=l _ s; omega),e.block _ f])]
  exact h.2 j c g⟩
theorem EAt.kx0 {p:Addr} {cs:List Ac} (h:EAt (· < wS.heap.size) wS p cs):∀ w,KeepX wS [] w → EAt (· < wS.heap.size) w p cs:=fun w f =>
 ⟨h.1,fun j c e=>by
  have g:p.block < wS.heap.size:=h.1
  rw [OD (w:=wS) (w':=w) (a:=p.add j) (by rw [JY,f.blk _ g (by simp)])]
  exact h.2 j c e⟩
theorem EAt.addk {S':Nat → Prop} {p:Addr} {cs:List Ac} (h:∀ w,S w → EAt S' w p cs) (o:Nat):∀ w,S w → EAt S' w (p.add o) (cs.drop o):=fun w e=>(h w e).add o
theorem BA {e:Ty P α} {S1:Nat → Prop} {f:Ag} {v:Ac} {l:List α} {k:IntKind} {m:Int} {u:α} (hu:P.underlying U = some (.slice e.tid)) (hn:Nat.blt d n = true)
  (hx:B4 σ x = some v) (hy:B4 σ y = some (.int k m)) (hr:rdS e S1 f v l) (hi:AK l m = some u)
  (h:∀ p cs,e.rd S1 f cs u → EAt S1 f p cs → G (.pointer (some p))):∃ v,PR P n σ S d (.indexAddr U x y) T v ∧ G v:=by
 obtain ⟨p,ac,hS,cs,s,hc⟩:=NS (k:=k) hu hr hi
 exact ⟨_,⟨hn,fun ρ g w _ al pos af gd=>by simp [execOp,g _ _ hx,g _ _ hy,ac]⟩,h p cs s ⟨hS,hc⟩⟩
theorem Bv {e:Ty P α} {F:An} {v:Ac} {l:List α} {k:IntKind} {f:Int} {u:α} {i:Nat} {w:Ag} (hu:P.underlying U = some (.slice e.tid)) (hn:Nat.blt d n = true)
  (hx:B4 σ x = some v) (hy:B4 σ y = some (.int k f)) (hS:Sep w0.heap.size w L) (hg:E7 L i = some (Ab e F v l)) (hi:AK l f = some u)
  (h:∀ p cs,e.rd (· < w.heap.size) w cs u → EAt (· < w.heap.size) w p cs → OPtr e.sz v p f.toNat 0 → G (.pointer (some p))):∃ v,PR P n σ S d (.indexAddr U x y) T v ∧ G v:=by
 have ho:ownS e F w v l:=hS.ok hg
 have hr:=hS.own_ro hg
 obtain ⟨h0,hl,ae⟩:=MD hi
 rcases ho with ⟨_,rfl,_⟩ | ⟨g,cap,bb,css,Fs,hv,bc,bf,hm,hc,ht,hz,hF⟩
 ·simp at ae
 ·subst hv
  obtain ⟨a,a8,he,be,m⟩:=hr
  injection he with s a4 a3
  rcases m with rfl | ⟨ad,rfl,m⟩
  ·simp at ae
  ·injection s with s
   subst s
   obtain ⟨ii,zz,an,ap,_⟩:=e.info
   obtain ⟨hb,cs,ag,ax⟩:=m _ _ hl
   have aj:0 ≤ f ∧ f < (l.length:Int):=⟨h0,by omega⟩
   refine ⟨_,⟨hn,fun ρ hρ w _ a7 pos af gd=>?_⟩,h _ cs ag ⟨hb,ax⟩ ⟨g,_,_,rfl,by rw [Addr.add_lit,Nat.zero_add,Nat.add_zero]⟩⟩
   simp [execOp,hρ _ _ hx,hρ _ _ hy,Instr.indexAt,asIntOf,run_underlying hu,sizeOf,typeInfo,an,ap,aj]
theorem Aci {v:Ac} {a:Af Addr} {l c:Nat} {f:TypeId} {e:TypeId} (g:P.underlying f = some (.slice e)) (s:Nat.blt d n = true) (hx:B4 σ x = some v) (u:v = .slice a l c)
  (h:G (.int .i64 (l:Int))):∃ v,PR P n σ S d (.call ⟨.builtin .len,#[x],#[f]⟩) T v ∧ G v:=by
 subst u
 exact ⟨_,⟨s,fun ρ m w _ ac pos af gd=>by simp [execOp,resolve,invoke,builtin,m _ _ hx,Builtin.len_,run_underlying g,goInt]⟩,h⟩
theorem MB {e:Ty P α} {S1:Nat → Prop} {w1:Ag} {v:Ac} {l:List α} {f:TypeId} (g:P.underlying f = some (.slice e.tid)) (s:Nat.blt d n = true) (hx:B4 σ x = some v) (m:rdS e S1 w1 v l)
  (h:G (.int .i64 (l.length:Int))):∃ v,PR P n σ S d (.call ⟨.builtin .len,#[x],#[f]⟩) T v ∧ G v:=by
 obtain ⟨a,cap,u,_⟩:=m
 exact Aci g s hx u h
theorem ZS {e:Ty P α} {S1:Nat → Prop} {w1:Ag} {v:Ac} {l m:List α} {lo hi:Int} {u s:Af Operand} (hu:P.underlying U = some (.slice e.tid)) (hn:Nat.blt d n = true)
  (hx:B4 σ x = some v) (hr:rdS e S1 w1 v l) (hm:sl l lo hi = some m)
  (al:(u = none ∧ lo = 0) ∨ ∃ o k,u = some o ∧ B4 σ o = some (.int k lo)) (ai:(s = none ∧ hi = l.length) ∨ ∃ o k,s = some o ∧ B4 σ o = some (.int k hi))
  (h:∀ g,rdS e S1 w1 g m → G g):∃ v,PR P n σ S d (.slice U x u s none) T v ∧ G v:=by
 obtain ⟨g,aj,ae⟩:=LY hu hr hm
 refine ⟨_,⟨hn,fun ρ hρ w _ ap pos af gd=>?_⟩,h g ae⟩
 have:=aj (u.map ρ) (s.map ρ) w (al.imp (fun ⟨h,f⟩=>⟨by rw [h]; rfl,f⟩) fun ⟨o,k,h,f⟩=>⟨k,by rw [h]; simp [hρ _ _ f]⟩)
  (ai.imp (fun ⟨h,f⟩=>⟨by rw [h]; rfl,f⟩) fun ⟨o,k,h,f⟩=>⟨k,by rw [h]; simp [hρ _ _ f]⟩)
 simp [execOp,hρ _ _ hx,this]
theorem Acj {xs f:Array Ac} {b:Bool} (u:P.eqGuardType P.depth U = false) (l:∀ w,(Op.equalIn 10000 U (.agg xs) (.agg f)).run P w = .ok b w) (m:Nat.blt d n = true)
  (s:B4 σ x = some (.agg xs)) (g:B4 σ y = some (.agg f)) (h:G (.bool b)):∃ v,PR P n σ S d (.binOp .eql U x y TB) T v ∧ G v :=
 ⟨_,⟨m,fun ρ e w _ ab pos af gd=>by simp [execOp,e _ _ s,e _ _ g,run_eqGuard_agg w _ _ _ _ _ _ u,run_eql_struct,l]⟩,h⟩
theorem HW {e:List (Nat × Nat)} {zs out:List Ac} {parts:List (Nat × Operand)} {vs:List Ac} {css:List (List Ac)} (tf:TF P U sz agg zv) (g:HO P U e = true) (s:Nat.blt d n = true)
  (u:(parts.map fun p=>B4 σ p.2) = vs.map some) (l:vs.map (·.cells) = css.map (·.toArray)) (m:zv.cells = zs.toArray) (hf:MO e zs ((parts.map (·.1)).zip css) = some out)
  (h:G (.agg out.toArray)):∃ v,PR P n σ S d (.build U parts.toArray) T v ∧ G v:=by
 refine ⟨_,⟨s,fun ρ f w _ ad pos af gd=>?_⟩,h⟩
 have:=UT (zv:=zv) g tf.hzero m (parts:=parts.map fun p=>(p.1,ρ p.2)) (ps:=(parts.map (·.1)).zip css) (Se f parts vs css u l) hf w
 simp only [execOp,List.map_toArray,Sem.run_bind,this,Result.andThen_ok,Sem.run_pure]
end
def WH (P:Program) (n:Nat) (ops:List Oper) (S:Ag → Prop) (fuel:Nat) (li:List Bool) (σ:E2) (w:Ag) (Q:Exit → Act → Ag → Prop):Prop :=
 ∀ a,St n σ a → wpAnyH P .any ops.toArray Q S fuel li.toArray a w
section
variable {n:Nat} {σ:E2} {S:Ag → Prop} {Q:Exit → Act → Ag → Prop} {w w0:Ag} {ops:List Oper} {fuel:Nat} {li:List Bool} {L:List Res} {X:An}
theorem Ym (w:Ag):Below w.heap.size w w.drew:=⟨rfl,rfl,rfl,Nat.le_refl _,fun _ _=>rfl⟩
theorem AP {id:Nat} (l:P.follows .mixedOrders = true) (X:An) (f:Below w0.heap.size w0 w) (m:Sep w0.heap.size w L)
  (h:∀ w',Below w.heap.size w w' → Below w0.heap.size w0 w' → Sep w0.heap.size w' L → WH P n ops (KeepX w' X) ops.length (List.replicate ops.length false) σ w' Q):W P n (.region id ops.toArray true) σ w Q:=by
 intro a g
 refine wp_region_held (S:=KeepX w.drew X) l ?_
 have e:=Ym w
 have:=h w.drew e (f.trans (e.mono f.size)) (m.below e) a g
 simpa using this
theorem VI {g:Nat} {s:Tmp} {b want:Bool} {a:Act} (f:St n σ a) (e:(ops.map (·.dst))[g]? = some (some s)) (l:G4 σ s = some (.bool b)):yielded ops.toArray a.tmps g = some b:=by
 unfold yielded
 have:(ops.toArray[g]?).bind (·.dst) = some s:=by
  simp only [List.getElem?_map] at e
  cases h:ops[g]? with
  | none=>rw [h] at e; cases e
  | some o=>rw [h] at e; simp [h]; simpa using e
 rw [this]
 simp [f.get s _ l]
variable {d:Nat} {op:Op} {T:TypeId} {pos:String} {af:Array Edge}
theorem Aau {i:Nat} (m:ops[i]? = some ⟨some d,op,T,pos,af,none⟩) (hs:Region.noSelect ops.toArray = true) (hf:Region.free .any ops.toArray li.toArray i = true) (l:(Region.ready .any ops.toArray li.toArray).contains i = true)
  (g:Jb Q) (e:S w) (h:∃ v,PR P n σ S d op T v ∧ WH P n ops S fuel (li.set i true) ((d,v) :: σ) w Q):WH P n ops S (fuel + 1) li σ w Q:=by
 intro a f
 obtain ⟨v,⟨u,s⟩,h⟩:=h
 refine wpAnyH_take (i:=i) (oi:=⟨some d,op,T,pos,af,none⟩) (v:=v) (by simpa using m) hs hf l (fun c a w=>g c a _ _ w) (.inl ⟨by simp [Region.wanted],fun w e=>s a.eval (fun x v hx=>f.eval hx) w e _ _ _ _⟩) e ?_
 have:=h _ (f.put v u)
 simpa using this
theorem Z4 {i g:Nat} {s:Tmp} {b want:Bool} (hi:ops[i]? = some ⟨some d,op,T,pos,af,some (g,want)⟩) (hs:Region.noSelect ops.toArray = true) (hf:Region.free .any ops.toArray li.toArray i = true) (u:(Region.ready .any ops.toArray li.toArray).contains i = true)
  (l:Jb Q) (ab:(ops.map (·.dst))[g]? = some (some s)) (m:G4 σ s = some (.bool b)) (ah:b = want) (e:S w) (h:∃ v,PR P n σ S d op T v ∧ WH P n ops S fuel (li.set i true) ((d,v) :: σ) w Q):WH P n ops S (fuel + 1) li σ w Q:=by
 intro a f
 obtain ⟨v,⟨hn,ac⟩,h⟩:=h
 refine wpAnyH_take (i:=i) (oi:=⟨some d,op,T,pos,af,some (g,want)⟩) (v:=v) (by simpa using hi) hs hf u (fun c a w=>l c a _ _ w) (.inl ⟨by simp [Region.wanted,VI (want:=want) f ab m,ah],fun w e=>ac a.eval (fun x v hx=>f.eval hx) w e _ _ _ _⟩) e ?_
 have:=h _ (f.put v hn)
 simpa using this
theorem Adi {i g:Nat} {s:Tmp} {b want:Bool} (u:ops[i]? = some ⟨some d,op,T,pos,af,some (g,want)⟩) (hs:Region.noSelect ops.toArray = true) (hf:Region.free .any ops.toArray li.toArray i = true) (m:(Region.ready .any ops.toArray li.toArray).contains i = true)
  (f:Jb Q) (ab:(ops.map (·.dst))[g]? = some (some s)) (l:G4 σ s = some (.bool b)) (ae:b = !want) (hn:Nat.blt d n = true) (hw:S w) (h:WH P n ops S fuel (li.set i true) ((d,undef) :: σ) w Q):WH P n ops S (fuel + 1) li σ w Q:=by
 intro a e
 refine wpAnyH_take (i:=i) (oi:=⟨some d,op,T,pos,af,some (g,want)⟩) (v:=undef) (by simpa using u) hs hf m (fun c a w=>f c a _ _ w) (.inr ⟨by simp [Region.wanted,VI (want:=want) e ab l,ae],rfl⟩) hw ?_
 have:=h _ (e.put undef hn)
 simpa using this
theorem Aby {i g:Nat} {s:Tmp} {want:Bool} (hi:ops[i]? = some ⟨some d,op,T,pos,af,some (g,want)⟩) (hs:Region.noSelect ops.toArray = true) (hf:Region.free .any ops.toArray li.toArray i = true) (hr:(Region.ready .any ops.toArray li.toArray).contains i = true)
  (m:Jb Q) (e:(ops.map (·.dst))[g]? = some (some s)) (u:G4 σ s = some undef) (hn:Nat.blt d n = true) (hw:S w) (h:WH P n ops S fuel (li.set i true) ((d,undef) :: σ) w Q):WH P n ops S (fuel + 1) li σ w Q:=by
 intro a f
 have l:yielded ops.toArray a.tmps g = none:=by
  unfold yielded
  have:(ops.toArray[g]?).bind (·.dst) = some s:=by
   simp only [List.getElem?_map] at e
   cases h:ops[g]? with
   | none=>rw [h] at e; cases e
   | some o=>rw [h] at e; simp [h]; simpa using e
  rw [this]
  simp [f.get s _ u,undef]
 refine wpAnyH_take (i:=i) (oi:=⟨some d,op,T,pos,af,some (g,want)⟩) (v:=undef) (by simpa using hi) hs hf hr (fun c a w=>m c a _ _ w) (.inr ⟨by simp [Region.wanted,l],rfl⟩) hw ?_
 have:=h _ (f.put undef hn)
 simpa using this
theorem N0 {i:Nat} {o:Oper} {K:Act → Ag → Prop} {a:Act} (l:ops[i]? = some o) (h:WL P n (ops.map (·.dst)) [o] σ w (Exit.then K Q)) (s:St n σ a):wpOp P ops.toArray Q i K a w:=by
 have e:=h ops.toArray (by simp [Uq]) a s
 unfold wpOp
 have m:ops.toArray[i]? = some o:=by simpa using l
 simp only [m]
 unfold wpList at e
 split
 ·rename_i f
  rw [if_pos f] at e
  rcases e with e | ⟨h1,g,w',u⟩
  ·left
   unfold Oper.wp Oper.upon at e ⊢
   generalize (execOp a.eval o).run P w = r at e
   cases r with
   | ok x w'=>cases x <;> exact e
   | halt x w'=>cases x <;> exact e
  ·exact .inr ⟨h1,g,w',u⟩
 ·rename_i f
  rw [if_neg f] at e
  exact e
theorem Adh {i:Nat} {o:Oper} (g:Region.ready .any ops.toArray li.toArray = [i]) (l:ops[i]? = some o)
  (h:WL P n (ops.map (·.dst)) [o] σ w (Exit.then (fun a w=>S w ∧ wpAnyH P .any ops.toArray Q S fuel (li.set i true).toArray a w) Q)):WH P n ops S (fuel + 1) li σ w Q:=by
 intro a f
 refine wpAnyH_all g (by simp) fun j e=>?_
 simp at e
 subst e
 have:=N0 l h f
 simpa using this
theorem Aer {i j:Nat} {o g:Oper} (m:Region.ready .any ops.toArray li.toArray = [i,j]) (s:ops[i]? = some o) (l:ops[j]? = some g)
  (h:WL P n (ops.map (·.dst)) [o] σ w (Exit.then (fun a w=>S w ∧ wpAnyH P .any ops.toArray Q S fuel (li.set i true).toArray a w) Q))
  (u:WL P n (ops.map (·.dst)) [g] σ w (Exit.then (fun a w=>S w ∧ wpAnyH P .any ops.toArray Q S fuel (li.set j true).toArray a w) Q)):WH P n ops S (fuel + 1) li σ w Q:=by
 intro a f
 refine wpAnyH_all m (by simp) fun k e=>?_
 simp at e
 rcases e with rfl | rfl
 ·have:=N0 s h f
  simpa using this
 ·have:=N0 l u f
  simpa using this
theorem Ao (f:S w) (h:WH P n ops S fuel li σ w Q):∀ a,St n σ a → Exit.then (fun a w=>S w ∧ wpAnyH P .any ops.toArray Q S fuel li.toArray a w) Q .normal a w :=
 fun a e=>⟨f,h a e⟩
theorem Abz (f:Region.ready .any ops.toArray li.toArray = []) (h:∀ a,St n σ a → Q .normal a w):WH P n ops S fuel li σ w Q :=
 fun a e=>wpAnyH_done f (h a e) fuel
end
end Go.Proofs.YtellehgihceicaaGreatDoor
namespace Go.Proofs.YtellehgihceicaaGreatDoor
open Go Go.RowKit
variable {P:Program} {α β:Type}
def Qc (e:Ty P α) (F:An) (cs:List Ac) (x:α):Res:=⟨F,fun w=>e.own F w cs x⟩
section
variable {base:Nat} {w w':Ag} {M L:List Res} {r r1 r2 r':Res}
theorem Sep.head (h:Sep base w (r :: M)) (g:r'.fp = r.fp) (u:∀ w,r.ok w → r'.ok w):Sep base w (r' :: M):=by
 obtain ⟨h1,v⟩:=h
 cases v with
 | cons hd ht =>
  refine ⟨fun s e=>?_,.cons (fun s e b f=>hd s e b (by rw [← g]; exact f)) ht⟩
  cases e with
  | head =>
   have l:=h1 r (by simp)
   exact ⟨by rw [g]; exact l.1,fun b f=>l.2.1 b (by rw [← g]; exact f),fun w' m=>u _ (l.2.2 w' fun b f=>m b (by rw [g]; exact f))⟩
  | tail _ e=>exact h1 s (.tail _ e)
theorem Sep.merge (h:Sep base w (r1 :: r2 :: M)) (l:r.fp = r1.fp ++ r2.fp) (hk:∀ w,r1.ok w → r2.ok w → r.ok w):Sep base w (r :: M):=by
 obtain ⟨h1,h2⟩:=h
 have m:=h1 r1 (by simp)
 have u:=h1 r2 (by simp)
 cases h2 with
 | cons hd v =>
  cases v with
  | cons ag v =>
   refine ⟨fun s g=>?_,.cons (fun s g b f=>?_) v⟩
   ·cases g with
    | head =>
     refine ⟨?_,fun b f=>?_,fun w' hw=>hk _ (m.2.2 w' fun b f=>hw b (by rw [l]; exact At _ f)) (u.2.2 w' fun b f=>hw b (by rw [l]; exact Bi _ f))⟩
     ·rw [l,List.nodup_append]
      exact ⟨m.1,u.1,fun a ha b f e=>hd r2 (by simp) a ha (by rw [e]; exact f)⟩
     ·rw [l] at f
      rcases AX.1 f with f | f
      ·exact m.2.1 b f
      ·exact u.2.1 b f
    | tail _ g=>exact h1 s (.tail _ (.tail _ g))
   ·rw [l] at f
    rcases AX.1 f with f | f
    ·exact hd s (by simp [g]) b f
    ·exact ag s g b f
end
section
variable {n:Nat} {σ:E2} {w w0:Ag} {Q:Exit → Act → Ag → Prop} {L M:List Res}
variable {ds:List (Af Tmp)} {d:Nat} {T U:TypeId} {pos:String} {af:Array Edge} {rest:List Oper} {x y z:Operand} {sz:Nat} {agg:Bool} {zv:Ac}
end
end Go.Proofs.YtellehgihceicaaGreatDoor
namespace Go.Proofs.YtellehgihceicaaGreatDoor
open Go Go.RowKit
variable {P:Program} {n:Nat} {ds:List (Af Tmp)} {d:Nat} {T TB U:TypeId} {pos:String} {af:Array Edge} {rest:List Oper} {x y z:Operand} {σ:E2} {w:Ag} {Q:Exit → Act → Ag → Prop}
variable {a b c:List Aj} {k:IntKind} {i j:Int} {S:Ag → Prop} {G:Ac → Prop}
theorem Wq (a:List Aj):(B5 a).toList = a:=ByteArray.toList_mk a
theorem Of (a:List Aj):(B5 a).size = a.length:=by simp [B5,ByteArray.size]
theorem Wr {s:ByteArray} {l:List Aj} (h:s.data.toList = l):s = B5 l:=by
 subst h
 simp [B5]
theorem AR (l:Nat.blt d n = true) (g:B4 σ x = some (.string (B5 a))) (f:B4 σ y = some (.string (B5 b))) (h:WL P n ds rest ((d,.bool (a == b)) :: σ) w Q) :
  WL P n ds (⟨some d,.binOp .eql T x y U,TB,pos,af,none⟩ :: rest) σ w Q :=
 CF l (fun ρ e=>by simp only [execOp,e _ _ g,e _ _ f,eqGuard_at_string,binOp_string_eql,Wq,Sem.run_bind,Sem.run_pure,Result.andThen_ok]) h
theorem Y1 (l:Nat.blt d n = true) (g:B4 σ x = some (.string (B5 a))) (f:B4 σ y = some (.string (B5 b))) (h:WL P n ds rest ((d,.bool (a != b)) :: σ) w Q) :
  WL P n ds (⟨some d,.binOp .neq T x y U,TB,pos,af,none⟩ :: rest) σ w Q :=
 CF l (fun ρ e=>by simp only [execOp,e _ _ g,e _ _ f,eqGuard_at_string,binOp_string_neq,Wq,Sem.run_bind,Sem.run_pure,Result.andThen_ok,bne]) h
theorem Td (h:Cl a b = some c) (w:Ag):(binOp .add U (.string (B5 a)) (.string (B5 b))).run P w = .ok (.string (B5 c)) w:=by
 unfold Cl at h
 split at h
 ·rename_i g
  cases h
  have e:(B5 a) ++ (B5 b) = B5 (a ++ b):=Wr (by rw [ByteArray.data_append]; simp [B5])
  have f:¬ ((((B5 a).size + (B5 b).size:Nat):Int) > IntKind.i64.max):=by
   rw [Of,Of]
   simp [IntKind.max,IntKind.signed,IntKind.bits]
   omega
  simp only [binOp,Op.stringOp,if_neg f,Sem.run_pure,e]
 ·cases h
theorem HE (l:Nat.blt d n = true) (m:B4 σ x = some (.string (B5 a))) (f:B4 σ y = some (.string (B5 b))) (g:Cl a b = some c) (h:WL P n ds rest ((d,.string (B5 c)) :: σ) w Q) :
  WL P n ds (⟨some d,.binOp .add T x y U,TB,pos,af,none⟩ :: rest) σ w Q :=
 CF l (fun ρ e=>by simp only [execOp,e _ _ m,e _ _ f,eqGuard_at_string,Td g,Sem.run_bind,Sem.run_pure,Result.andThen_ok]) h
theorem DK {e:TypeId} (f:P.underlying e = some .string) (l:Nat.blt d n = true) (m:B4 σ x = some (.string (B5 a)))
  (h:WL P n ds rest ((d,.int .i64 (a.length:Int)) :: σ) w Q):WL P n ds (⟨some d,.call ⟨.builtin .len,#[x],#[e]⟩,T,pos,af,none⟩ :: rest) σ w Q :=
 CF l (fun ρ g=>by simp [execOp,resolve,invoke,builtin,g _ _ m,Builtin.len_,run_underlying f,goInt,Of]) h
theorem Wc {g f:Int} {vlo vhi:Af Ac} (l:P.underlying U = some .string) (h:sl a g f = some c)
  (m:(vlo = none ∧ g = 0) ∨ ∃ k,vlo = some (.int k g)) (s:(vhi = none ∧ f = a.length) ∨ ∃ k,vhi = some (.int k f)) (w:Ag) :
  (Instr.slice U (.string (B5 a)) vlo vhi none).run P w = .ok (.string (B5 c)) w:=by
 unfold sl at h
 split at h
 ·rename_i u
  cases h
  obtain ⟨h0,h1,v⟩:=u
  have e:(B5 a).extract g.toNat f.toNat = B5 ((a.take f.toNat).drop g.toNat):=Wr (by
   rw [ByteArray.data_extract]
   simp [B5,List.extract_eq_take_drop,List.drop_take])
  have hz:=Of a
  have c1:0 ≤ f ∧ f ≤ ((B5 a).size:Int):=⟨by omega,by omega⟩
  have c2:0 ≤ g ∧ g ≤ ((f.toNat:Nat):Int):=⟨by omega,by omega⟩
  rcases s with ⟨rfl,rfl⟩ | ⟨k,rfl⟩ <;> rcases m with ⟨rfl,rfl⟩ | ⟨k',rfl⟩ <;>
   simp_all [Instr.slice,Instr.sliceBounds,Instr.sliceBound,asIntOf,run_underlying l]
 ·cases h
theorem Kw {s m:Int} {g f:Af Operand} (u:P.underlying U = some .string) (hn:Nat.blt d n = true) (hx:B4 σ x = some (.string (B5 a))) (hm:sl a s m = some c)
  (v:(g = none ∧ s = 0) ∨ ∃ o k,g = some o ∧ B4 σ o = some (.int k s)) (ad:(f = none ∧ m = a.length) ∨ ∃ o k,f = some o ∧ B4 σ o = some (.int k m))
  (h:WL P n ds rest ((d,.string (B5 c)) :: σ) w Q):WL P n ds (⟨some d,.slice U x g f none,T,pos,af,none⟩ :: rest) σ w Q :=
 CF hn (fun ρ l=>by
  have:=Wc (P:=P) (U:=U) (vlo:=g.map ρ) (vhi:=f.map ρ) u hm (v.imp (fun ⟨h,e⟩=>⟨by rw [h]; rfl,e⟩) fun ⟨o,k,h,e⟩=>⟨k,by rw [h]; simp [l _ _ e]⟩)
   (ad.imp (fun ⟨h,e⟩=>⟨by rw [h]; rfl,e⟩) fun ⟨o,k,h,e⟩=>⟨k,by rw [h]; simp [l _ _ e]⟩) w
  simp [execOp,l _ _ hx,Instr.sliceAt,run_underlying u,this]) h
theorem Wd {u:Aj} (f:P.underlying U = some .string) (e:AK a i = some u) (w:Ag):(Instr.index U (.string (B5 a)) (.int k i)).run P w = .ok (.int .u8 (u.toNat:Int)) w:=by
 unfold AK at e
 split at e
 ·rename_i h
  obtain ⟨l,g⟩:=List.getElem?_eq_some_iff.1 e
  have m:=Of a
  rw [run_index_string _ _ _ _ _ f,dif_pos ⟨h,by omega⟩]
  have:(B5 a)[i.toNat]'(by omega) = u:=by rw [← g]; rfl
  rw [this]
 ·cases e
theorem EO {u:Aj} (f:P.underlying U = some .string) (m:Nat.blt d n = true) (s:B4 σ x = some (.string (B5 a))) (g:B4 σ y = some (.int k i)) (l:AK a i = some u)
  (h:WL P n ds rest ((d,.int .u8 (u.toNat:Int)) :: σ) w Q):WL P n ds (⟨some d,.index U x y,T,pos,af,none⟩ :: rest) σ w Q :=
 CF m (fun ρ e=>by simp [execOp,e _ _ s,e _ _ g,Wd f l]) h
theorem Pj {m:Array TypeId} (g:Nat.blt d n = true) (l:B4 σ x = some (.int k i)) (f:B4 σ y = some (.int k j))
  (h:WL P n ds rest ((d,.int k (Fy i j)) :: σ) w Q):WL P n ds (⟨some d,.call ⟨.builtin .max,#[x,y],m⟩,T,pos,af,none⟩ :: rest) σ w Q :=
 CF g (fun ρ e=>by simp [execOp,resolve,invoke,builtin,e _ _ l,e _ _ f,Builtin.max_,Builtin.max2,Fy]) h
theorem SM {m:Array TypeId} (g:Nat.blt d n = true) (l:B4 σ x = some (.int k i)) (f:B4 σ y = some (.int k j))
  (h:WL P n ds rest ((d,.int k (Fn i j)) :: σ) w Q):WL P n ds (⟨some d,.call ⟨.builtin .min,#[x,y],m⟩,T,pos,af,none⟩ :: rest) σ w Q :=
 CF g (fun ρ e=>by simp [execOp,resolve,invoke,builtin,e _ _ l,e _ _ f,Builtin.min_,Builtin.min2,Fn]) h
end Go.Proofs.YtellehgihceicaaGreatDoor
namespace Go.Proofs.YtellehgihceicaaGreatDoor
open Go Go.RowKit
variable {P:Program} {α β:Type}
def wE (w:Ag):Ag:={ w with heap:=#[] }
theorem E0 (w:Ag):Below (wE w).heap.size (wE w) w:=⟨rfl,rfl,rfl,Nat.zero_le _,fun k e=>absurd e (Nat.not_lt_zero _)⟩
def Bg (L:List Res):An:=L.flatMap fun r=>r.fp
theorem Kx {L:List Res} {b:Nat}:b ∈ Bg L ↔ ∃ r ∈ L,b ∈ r.fp:=by simp [Bg]
def A5 (w0:Ag) (X:An):Res:=⟨(List.range w0.heap.size).filter (fun b=>!X.contains b),fun w=>∀ b,b < w0.heap.size → b ∉ X → w.heap[b]? = w0.heap[b]?⟩
theorem JC {w0:Ag} {X:An} {b:Nat}:b ∈ (A5 w0 X).fp ↔ b < w0.heap.size ∧ b ∉ X:=by simp [A5]
section
variable {base:Nat} {w w' w0:Ag} {L M M':List Res} {r r1 r2:Res}
theorem Sep.rest (h:Sep 0 w M):Sep 0 w (A5 w (Bg M) :: M):=by
 refine ⟨fun s e=>?_,.cons (fun s e b f m=>(JC.1 f).2 (Kx.2 ⟨s,e,m⟩)) h.2⟩
 cases e with
 | tail _ e=>exact h.1 s e
 | head=>exact ⟨List.Nodup.sublist List.filter_sublist List.nodup_range,fun b f=>⟨Nat.zero_le _,(JC.1 f).1⟩,fun w' g b f l=>g b (JC.2 ⟨f,l⟩)⟩
theorem Sep.base0 (h:Sep base w L):Sep 0 w L:=⟨fun r e=>⟨(h.1 r e).1,fun b f=>⟨Nat.zero_le _,((h.1 r e).2.1 b f).2⟩,(h.1 r e).2.2⟩,h.2⟩
theorem PJ:∀ (is e:An),Ai L (is ++ e) = Ai L is ++ Ai L e
 | [],e=>rfl
 | i :: is,e=>by
  rw [List.cons_append,Ai,Ai,PJ is e]
  cases E7 L i <;> rfl
theorem Ve (h:M'.map (·.fp) = M.map (·.fp)) (f:r ∈ M'):∃ s ∈ M,s.fp = r.fp:=by
 have:r.fp ∈ M.map (·.fp):=by rw [← h]; exact List.mem_map.2 ⟨r,f,rfl⟩
 obtain ⟨s,g,e⟩:=List.mem_map.1 this
 exact ⟨s,g,e⟩
theorem Oe (e:Sep 0 w' (A5 w (Bg M) :: M')):∀ b,b < w.heap.size → b ∉ Bg M → w'.heap[b]? = w.heap[b]?:=(e.1 _ (List.mem_cons_self ..)).ok
theorem Wp (h:M'.map (·.fp) = M.map (·.fp)) (g:Sep 0 w' (A5 w (Bg M) :: M')):w.heap.size ≤ w'.heap.size:=by
 by_cases u:w.heap.size = 0
 ·omega
 ·by_cases f:w.heap.size - 1 ∈ Bg M
  ·obtain ⟨r,l,f⟩:=Kx.1 f
   have:r.fp ∈ M'.map (·.fp):=by rw [h]; exact List.mem_map.2 ⟨r,l,rfl⟩
   obtain ⟨s,m,e⟩:=List.mem_map.1 this
   have:=((g.1 s (by simp [m])).2.1 _ (by rw [e]; exact f)).2
   omega
  ·have:=((g.1 _ (List.mem_cons_self ..)).2.1 (w.heap.size - 1) (JC.2 ⟨by omega,f⟩)).2
   omega
theorem Sep.mut (h:Sep base w L) (is js:An) (hn:Oc (is ++ js) = true) (hM:YtellehgihceicaaGreatDoor.Ai L is = M) (aa:M'.map (·.fp) = M.map (·.fp)) (v:Sep 0 w' (A5 w (Bg M) :: M')):Sep base w' (M' ++ YtellehgihceicaaGreatDoor.Ai L js):=by
 have am:=Wp aa v
 have ag:=Oe v
 have m:=h.sel (is ++ js) hn
 rw [PJ,hM] at m
 have ad:=(List.pairwise_append.1 m.2).2.2
 have ac:=v.2
 cases ac with
 | cons _ ac =>
  refine ⟨fun r f=>?_,List.pairwise_append.2 ⟨ac,(List.pairwise_append.1 m.2).2.1,fun r f s u b l=>?_⟩⟩
  ·rcases AX.1 f with f | f
   ·have g:=v.1 r (by simp [f])
    obtain ⟨s,u,e⟩:=Ve aa f
    have gs:=m.1 s (by simp [u])
    exact ⟨g.1,fun b l=>⟨(gs.2.1 b (by rw [e]; exact l)).1,(g.2.1 b l).2⟩,g.2.2⟩
   ·have g:=m.1 r (by simp [f])
    refine g.keep am fun b l=>ag b (g.2.1 b l).2 fun hx=>?_
    obtain ⟨s,u,ak⟩:=Kx.1 hx
    exact ad s u r f b ak l
  ·obtain ⟨t,ht,e⟩:=Ve aa f
   exact ad t ht s u b (by rw [e]; exact l)
theorem Sep.mutB (h:Sep base w L) (is:An) (v:Oc is = true) (hM:YtellehgihceicaaGreatDoor.Ai L is = M) (m:M'.map (·.fp) = M.map (·.fp)) (e:Below base w0 w) (ae:base ≤ w.heap.size) (f:Below 0 (wE w) w') (g:Sep 0 w' (A5 w (Bg M) :: M')):Below base w0 w' :=
 ⟨f.os.trans e.os,f.tape.trans e.tape,f.output.trans e.output,Ay e.size (Wp m g),fun k u=>(Oe g k (by omega) fun hx=>by
  obtain ⟨s,hs,hb⟩:=Kx.1 hx
  have l:s ∈ YtellehgihceicaaGreatDoor.Ai L is:=by rw [hM]; exact hs
  have:=((h.sel is v).1 s l).2.1 k hb
  omega).trans (e.block k u)⟩
end
end Go.Proofs.YtellehgihceicaaGreatDoor
namespace Go.Proofs.YtellehgihceicaaGreatDoor
open Go Go.RowKit
variable {P:Program} {n:Nat} {ds:List (Af Tmp)} {d:Nat} {T U V:TypeId} {pos:String} {af:Array Edge} {rest:List Oper} {x y z:Operand} {σ:E2} {w w0:Ag} {Q:Exit → Act → Ag → Prop} {L:List Res}
theorem XN {i b:Nat} {V:TypeId} {cs:List Ac} (e:Sep w0.heap.size w L) (f:E7 L i = some (A9 b V cs)):EAt (· < w.heap.size) w ⟨b,0,none⟩ cs :=
 ⟨((e.get f).2.1 b (by simp [A9])).2,fun j c g=>OE (o:=0) (e.ok f) j c (by simpa using g)⟩
theorem PG {f:FuncId} {caps:List Ac} {xs:List Operand} {m:Array TypeId} {vs:List Ac} {R:Ending → Ag → Prop} (hn:Nat.blt d n = true)
  (hf:B4 σ x = some (.func (.func f) #[] caps.toArray))
  (s:∀ args w,(callFunc f args).run P w = .ok (.enter f args) w) (hc:Calls P f (vs ++ caps).toArray w R) (l:xs.map (B4 σ) = vs.map some)
  (h:∀ e w',R e w' → ∃ v,e = .returned v ∧ WL P n ds rest ((d,v) :: σ) w' Q) :
  WL P n ds (⟨some d,.call ⟨.value x,xs.toArray,m⟩,T,pos,af,none⟩ :: rest) σ w Q:=by
 intro ops ho a g
 refine wpList_plain rfl fun K hK=>?_
 unfold Oper.wp
 have he:(execOp a.eval ⟨some d,.call ⟨.value x,xs.toArray,m⟩,T,pos,af,none⟩).run P w = .ok (.enter f (vs ++ caps).toArray) w:=by
  have ac:=QZ l a.eval (fun x v l=>g.eval l)
  have u:=g.eval hf
  simp [execOp,resolve,Deferred.ofValue,invoke,s,ac,u]
 rw [he]
 simp only [Oper.upon]
 refine hc.mono fun e w' hR=>?_
 obtain ⟨v,rfl,hv⟩:=h e w' hR
 exact hK _ _ (hv ops ho _ (g.put v hn))
theorem DW {k k':IntKind} {a:Int} {l:TypeDesc} (g:P.underlying U = some l) (m:P.underlying V = some (.int k')) (f:Nat.blt d n = true) (s:B4 σ x = some (.int k a))
  (h:WL P n ds rest ((d,.int k' (k'.wrap a)) :: σ) w Q):WL P n ds (⟨some d,.convert U V x,T,pos,af,none⟩ :: rest) σ w Q :=
 CF f (fun ρ e=>by simp [execOp,e _ _ s,convert,run_underlying g,run_underlying m,Conv.intToInt]) h
theorem Yi (l:List Int) (s:ByteArray):(l.foldl (fun r n=>r.push (UInt8.ofNat n.toNat)) s).data.toList = s.data.toList ++ KB l:=by
 induction l generalizing s with
 | nil=>simp [KB]
 | cons x l e=>rw [List.foldl_cons,e]; simp [KB]
theorem YN {e:Ty P Int} (hf:Flat e (fun u=>[.int .u8 u])) {S:Nat → Prop} {v:Ac} {l:List Int} (hs:P.underlying U = some (.slice e.tid)) (he:P.underlying e.tid = some (.int .u8)) (hd:P.underlying V = some .string) (ak:e.sz = 1)
  {w:Ag} (hr:rdS e S w v l):(convert U V v).run P w = .ok (.string (B5 (KB l))) w:=by
 obtain ⟨a,cap,rfl,hc,s⟩:=hr
 rw [run_convert_bytes_string w U V e.tid a _ _ hs he hd]
 cases a with
 | none =>
  rcases s with rfl | ⟨g,h,_⟩
  ·simp [Conv.bytesToString,KB,B5,Sem.run_pure]
   rfl
  ·cases h
 | some g =>
  rw [run_bytesToString w g l.length cap l]
  ·congr 2
   apply Wr
   rw [Yi]
   simp
  ·have:=run_loadCells_list (P:=P) w g (l.map (Value.int .u8)) (fun j c f=>?_)
   ·simpa using this
   ·rcases s with rfl | ⟨an,h,ac⟩
    ·simp at f
    ·cases h
     rw [List.getElem?_map] at f
     cases m:l[j]? with
     | none=>rw [m] at f; cases f
     | some u =>
      rw [m] at f
      obtain ⟨_,cs,aa,al⟩:=ac j u m
      have ab:=hf.rd aa
      have:=al 0 c (by rw [ab]; simpa using f)
      rw [ak,Nat.mul_one,Addr.add_zero'] at this
      exact this
theorem PF {e:Ty P Int} (hf:Flat e (fun u=>[.int .u8 u])) {S:Nat → Prop} {v:Ac} {l:List Int} (s:P.underlying U = some (.slice e.tid)) (he:P.underlying e.tid = some (.int .u8)) (hd:P.underlying V = some .string) (ae:e.sz = 1) (m:Nat.blt d n = true)
  (hx:B4 σ x = some v) (g:rdS e S w v l) (h:WL P n ds rest ((d,.string (B5 (KB l))) :: σ) w Q):WL P n ds (⟨some d,.convert U V x,T,pos,af,none⟩ :: rest) σ w Q :=
 CF m (fun ρ f=>by simp [execOp,f _ _ hx,YN hf s he hd ae g]) h
end Go.Proofs.YtellehgihceicaaGreatDoor
namespace Go.Proofs.YtellehgihceicaaGreatDoor
open Go Go.RowKit
variable {P:Program} {α β:Type} {n:Nat} {ds:List (Af Tmp)} {d:Nat} {T U V:TypeId} {pos:String} {af:Array Edge} {rest:List Oper} {x y z:Operand} {σ:E2} {w w0:Ag} {Q:Exit → Act → Ag → Prop} {L M:List Res}
theorem TS {e:Ty P α} (hu:P.underlying U = some (.slice e.tid)) {base:Nat} {F F2:An} {v v2:Ac} {l m r:List α}
  (ho:ownS e F w v l) (b0:ownS e F2 w v2 m) (hF:∀ b ∈ F,base ≤ b) (ar:F.Nodup) (a9:F2.Nodup) (ax:∀ b ∈ F,b ∉ F2) (b2:Cl l m = some r) (bz:base ≤ w.heap.size) :
  ∃ v' w' F',(Builtin.append_ #[U,U] T #[v,v2]).run P w = .ok v' w' ∧ ownS e F' w' v' r ∧ w.grownBy w' v.ownBlock ∧ F'.Nodup ∧ (∀ b ∈ F',b ∈ F ∨ b ∈ F2 ∨ (w.heap.size ≤ b ∧ b < w'.heap.size)) ∧ (∀ k,v.ownBlock = some k → k ∈ F):=by
 obtain ⟨rfl,bu⟩:=WP b2
 obtain ⟨i,zz,a0,b4,bw,hz,b7⟩:=e.info
 have bv:zz.cells.size = e.sz:=by rw [b7]; simp; exact e.rd_len (e.own_rd (e.zero_own w))
 have aj:∀ k,v.ownBlock = some k → k ∈ F:=by
  intro k hk
  rcases ho with ⟨h1,h2,h3⟩ | ⟨g,cap,am,css,Fs,h1,h2,h3,h4,h5,h6,h7,h8⟩
  ·rw [h1] at hk; cases hk
  ·rw [h1] at hk
   simp [Value.ownBlock] at hk
   rw [h8,← hk]; simp
 have bx:∃ css Fs,w.ownsRow base e.tid e.sz v l.length css.flatten ∧ Z3 (fun F cs x=>e.own F w cs x) Fs css l ∧ (∀ b ∈ Fs.flatten,b ∈ F) ∧ Fs.flatten.Nodup ∧ (∀ k,v.ownBlock = some k → k ∉ Fs.flatten):=by
  rcases ho with ⟨h1,h2,h3⟩ | ⟨g,cap,am,css,Fs,h1,h2,h3,h4,h5,h6,h7,h8⟩
  ·subst h2
   refine ⟨[],[],⟨by simp,.inl ⟨h1,rfl⟩⟩,trivial,fun b f=>by simp at f,by simp,fun k _=>by simp⟩
  ·subst h8
   rw [List.nodup_cons] at ar
   refine ⟨css,Fs,⟨by rw [Ky h7.sz,h7.len.2],.inr ⟨g,cap,am,h1,hF g (by simp),h2,h3,h4,h5,h6⟩⟩,h7,fun b f=>List.mem_cons_of_mem _ f,ar.2,fun k hk=>?_⟩
   rw [h1] at hk
   simp [Value.ownBlock] at hk
   rw [← hk]
   exact ar.1
 obtain ⟨css,Fs,a5,al,bh,bk,bd⟩:=bx
 rcases b0 with ⟨rfl,rfl,rfl⟩ | ⟨g2,bt,bm,ai,Fs2,rfl,b5,ce,cb,cc,bi,ae,rfl⟩
 ·
  have b1:(Builtin.append_ #[U,U] T #[v,.slice none 0 0]).run P w = .ok v w:=by
   rcases a5.2 with ⟨rfl,hn⟩ | ⟨g,c,am,rfl,f,hg,hn,hm,hc,ht⟩
   ·simp [Builtin.append_,run_underlying hu,sizeOf,typeInfo,a0,Builtin.lenOf,Builtin.firstCells,loadCells,loadCellsFrom]
   ·simp [Builtin.append_,run_underlying hu,sizeOf,typeInfo,a0,Builtin.lenOf,Builtin.firstCells,loadCells,loadCellsFrom,hn,storeCells]
  exact ⟨v,w,F,b1,by simpa using ho,⟨rfl,rfl,rfl,Nat.le_refl _,fun _ _ _=>rfl⟩,ar,fun b f=>.inl f,aj⟩
 ·have b6:ai.flatten.length = m.length * e.sz:=by rw [Ky ae.sz,ae.len.2]
  have ca:∀ (j:Nat) u,ai.flatten[j]? = some u → w.cell? ((⟨g2,0,none⟩:Addr).add j) = some u:=by
   intro j u hj
   rw [Addr.add_lit,Nat.zero_add,cell_of_row w g2 _ bm e.tid (0,0) b5]
   rw [← bi,List.getElem?_take] at hj
   split at hj
   ·simpa using hj
   ·cases hj
  have bq:∀ u ∈ ai.flatten,u.oneCell' = true:=by
   intro u hu
   obtain ⟨c,hc,hu⟩:=List.mem_flatten.1 hu
   obtain ⟨k,hk⟩:=List.getElem?_of_mem hc
   have ac:k < m.length:=by rw [← ae.len.2]; exact (List.getElem?_eq_some_iff.1 hk).1
   obtain ⟨a,b,_,h2,h3⟩:=ae.get k m[k] (by simp [ac])
   rw [hk] at h2
   cases h2
   exact e.rd_one (e.own_rd h3) u hu
  have bn:(l.length + m.length) * e.bts ≤ 140737488355328:=WI bu e.bts_le
  obtain ⟨v',w',hr,h2,h3,be⟩:=O4 (P:=P) w base U T e.tid i zz e.sz e.bts hu a0 hz b4 bw bv v l.length _ a5 ⟨g2,0,none⟩ m.length bt ai.flatten
   b6 ca bq (by simp only [maxLen]; omega) bn bz
  rw [List.nodup_cons] at a9
  have a6:∀ b,b ∈ Fs.flatten ∨ b ∈ Fs2.flatten → w'.heap[b]? = w.heap[b]? ∧ b < w.heap.size:=by
   intro b f
   rcases f with f | f
   ·obtain ⟨G,hG,s⟩:=List.mem_flatten.1 f
    obtain ⟨k,hk⟩:=List.getElem?_of_mem hG
    have ac:k < l.length:=by rw [← al.len.1]; exact (List.getElem?_eq_some_iff.1 hk).1
    obtain ⟨a,c,ag,_,ao⟩:=al.get k l[k] (by simp [ac])
    rw [hk] at ag
    cases ag
    have ac:=e.own_lt ao b s
    exact ⟨h3.block b ac fun h=>bd b h.symm f,ac⟩
   ·obtain ⟨G,hG,s⟩:=List.mem_flatten.1 f
    obtain ⟨k,hk⟩:=List.getElem?_of_mem hG
    have ac:k < m.length:=by rw [← ae.len.1]; exact (List.getElem?_eq_some_iff.1 hk).1
    obtain ⟨a,c,ag,_,ao⟩:=ae.get k m[k] (by simp [ac])
    rw [hk] at ag
    cases ag
    have ac:=e.own_lt ao b s
    exact ⟨h3.block b ac fun h=>ax b (aj b h.symm) (List.mem_cons_of_mem _ f),ac⟩
  have bs:Z3 (fun F cs x=>e.own F w' cs x) (Fs ++ Fs2) (css ++ ai) (l ++ m):=by
   refine Z3.of (by simp [al.len.1,ae.len.1]) (by simp [al.len.2,ae.len.2]) fun k a c x ha hc hx=>?_
   have bj:=Z3.app al ae
   obtain ⟨a',c',ag,bc,ao⟩:=bj.get k x hx
   rw [ha] at ag
   rw [hc] at bc
   cases ag
   cases bc
   refine e.own_keep ao fun b f=>(a6 b ?_).1
   rcases AX.1 (List.mem_of_getElem? ha) with h | h
   ·exact .inl (List.mem_flatten.2 ⟨a,h,f⟩)
   ·exact .inr (List.mem_flatten.2 ⟨a,h,f⟩)
  rcases h2.2 with ⟨rfl,hn⟩ | ⟨g,c,am,rfl,f,hg,hn,hm,hc,ht⟩
  ·have e1:l = []:=List.eq_nil_of_length_eq_zero (by omega)
   have e2:m = []:=List.eq_nil_of_length_eq_zero (by omega)
   subst e1; subst e2
   exact ⟨_,w',[],hr,.inl ⟨rfl,rfl,rfl⟩,h3,.nil,fun b f=>(by cases f),aj⟩
  ·have b8:g ∉ (Fs ++ Fs2).flatten:=by
    intro s
    rw [List.flatten_append,AX] at s
    rcases be with h | h
    ·have bp:=aj g (by rw [← h]; rfl)
     rcases s with s | s
     ·exact bd g (by rw [← h]; rfl) s
     ·exact ax g bp (List.mem_cons_of_mem _ s)
    ·simp [Value.ownBlock] at h
     have:=(a6 g s).2
     omega
   refine ⟨_,w',g :: (Fs ++ Fs2).flatten,hr,.inr ⟨g,c,am,css ++ ai,Fs ++ Fs2,by simp,hg,by simpa using hn,hm,hc,by simpa using ht,bs,rfl⟩,h3,?_,fun b s=>?_,aj⟩
   ·rw [List.nodup_cons]
    refine ⟨b8,?_⟩
    rw [List.flatten_append,List.nodup_append]
    exact ⟨bk,a9.2,fun a ha b f e=>by subst e; exact ax a (bh a ha) (List.mem_cons_of_mem _ f)⟩
   ·rcases List.mem_cons.1 s with rfl | s
    ·rcases be with h | h
     ·exact .inl (aj b (by rw [← h]; rfl))
     ·simp [Value.ownBlock] at h
      exact .inr (.inr ⟨by omega,(Array.getElem?_eq_some_iff.1 hg).1⟩)
    ·rw [List.flatten_append,AX] at s
     rcases s with s | s
     ·exact .inl (bh b s)
     ·exact .inr (.inl (List.mem_cons_of_mem _ s))
theorem Lh {e:Ty P α} {F F2:An} {v v2:Ac} {l m r:List α} (hu:P.underlying U = some (.slice e.tid)) (hn:Nat.blt d n = true)
  (hx:B4 σ x = some v) (hy:B4 σ y = some v2) (hB:Below w0.heap.size w0 w) (g:Sep w0.heap.size w (Ab e F v l :: Ab e F2 v2 m :: M)) (aq:Cl l m = some r)
  (h:∀ s F' w',(w.heap.size ≤ w'.heap.size ∧ (∀ b,b < w.heap.size → b ∉ F → w'.heap[b]? = w.heap[b]?) ∧ ∀ b ∈ F',b ∈ F ∨ b ∈ F2 ∨ w.heap.size ≤ b) → Below w0.heap.size w0 w' → Sep w0.heap.size w' (Ab e F' s r :: M) → WL P n ds rest ((d,s) :: σ) w' Q) :
  WL P n ds (⟨some d,.call ⟨.builtin .append,#[x,y],#[U,U]⟩,T,pos,af,none⟩ :: rest) σ w Q:=by
 have ad:=g.get (i:=0) rfl
 have aj:=g.get (i:=1) rfl
 have am:∀ b ∈ F,b ∉ F2:=g.disj (i:=0) (j:=1) rfl rfl rfl
 obtain ⟨s,w',F',ap,ho,u,ak,hF,ab⟩:=TS (T:=T) hu (g.ok (i:=0) rfl:ownS e F w v l) (g.ok (i:=1) rfl:ownS e F2 w v2 m) (fun b f=>(ad.2.1 b f).1) ad.1 aj.1 am aq hB.size
 have ao:=ad.2.1
 have al:Sep w0.heap.size w (⟨F ++ F2,fun _=>True⟩ :: M):=g.merge rfl fun _ _ _=>trivial
 have ax:=al.upd (i:=0) (w':=w') (r':=Ab e F' s r) rfl u.size (fun b _ ag f=>u.block b ag fun e=>f (At _ (ab b e.symm))) ak
  (fun b f=>(hF b f).elim (fun h=>.inl (At _ h)) fun h=>h.elim (fun h=>.inl (Bi _ h)) .inr) hB.size fun ay hk=>ho.keep hk
 exact CF hn (fun ρ hρ=>by simp [execOp,resolve,invoke,builtin,hρ _ _ hx,hρ _ _ hy,ap])
  (h s F' w' ⟨u.size,fun b ag f=>u.block b ag fun e=>f (ab b e.symm),fun b f=>(hF b f).imp id fun h=>h.imp id fun h=>h.1⟩ (hB.grown u hB.size fun k hk=>(ao k (ab k hk)).1) ax)
theorem ND {e:Ty P α} {F2:An} {vx:Ac} {vs:List Ac} {u:α} (hu:P.underlying U = some (.slice e.tid)) (hn:Nat.blt d n = true)
  (hx:B4 σ x = some vx) (g:vx.cells = vs.toArray) (ag:Nat.ble e.sz 65536 = true) (s:Below w0.heap.size w0 w) (hS:Sep w0.heap.size w (Qc e F2 vs u :: M))
  (h:∀ v F w',Below w.heap.size w w' → (∀ b ∈ F,b ∈ F2 ∨ w.heap.size ≤ b) → Below w0.heap.size w0 w' → Sep w0.heap.size w' (Ab e F v [u] :: M) → WL P n ds rest ((d,v) :: σ) w' Q) :
  WL P n ds (⟨some d,.buildSlice U 1 #[(0,x)],T,pos,af,none⟩ :: rest) σ w Q:=by
 have ho:e.own F2 w vs u:=hS.ok (i:=0) rfl
 have ap:=hS.get (i:=0) rfl
 have l:vs.length = e.sz:=e.rd_len (e.own_rd ho)
 have ao:=Nat.le_of_ble_eq_true ag
 have m:Below w.heap.size w (w.alloc (.cells vs.toArray e.tid)):=EP w _
 have ad:=(hS.push (r:=⟨[w.heap.size],fun w'=>w'.heap[w.heap.size]? = some (.cells vs.toArray e.tid (0,0))⟩) m (by simp) (fun b f=>by simp at f; subst f; simp) s.size
  (fun ak hk=>by
   show ak.heap[w.heap.size]? = _
   rw [hk w.heap.size (by simp),heap_alloc_new]))
 have ac:=ad.merge (r:=Ab e (w.heap.size :: F2) (.slice (some ⟨w.heap.size,0,none⟩) 1 1) [u]) rfl (fun w1 h1 h2 =>
  .inr ⟨w.heap.size,1,vs.toArray,[vs],[F2],rfl,h1,Nat.le_refl _,by simp [maxLen],by simp [l],by simp [← l],⟨h2,trivial⟩,by simp⟩)
 refine CF (w':=w.alloc (.cells vs.toArray e.tid)) (v:=.slice (some ⟨w.heap.size,0,none⟩) 1 1) hn (fun ρ hρ=>?_)
  (h _ (w.heap.size :: F2) _ m (fun b f=>(List.mem_cons.1 f).elim (fun h=>.inr (by omega)) .inl) (s.trans (m.mono s.size)) ac)
 have f:=M9 (P:=P) hu (parts:=[(0,ρ x)]) (css:=[vs]) (by simp [hρ _ _ hx,g]) (fun c g=>by simp at g; subst g; exact l) (by simp; omega) w
 simp only [List.length_singleton,List.flatten_cons,List.flatten_nil,List.append_nil] at f
 simp only [execOp,Array.map,List.map_toArray,Sem.run_bind,f,Result.andThen_ok,Sem.run_pure]
 simp [f]
theorem Sep.take {base:Nat} {w':Ag} {L M N:List Res} (h:Sep base w L) (is js:An) (hn:Oc (is ++ js) = true) (hM:YtellehgihceicaaGreatDoor.Ai L is = M) (u:Sep 0 w' (A5 w (Bg M) :: N)) (m:base ≤ w.heap.size):Sep base w' (N ++ YtellehgihceicaaGreatDoor.Ai L js):=by
 have am:=Oe u
 have l:=h.sel (is ++ js) hn
 rw [PJ,hM] at l
 have aj:=(List.pairwise_append.1 l.2).2.2
 have ai:=u.1 _ (List.mem_cons_self ..)
 have ac:=u.2
 cases ac with
 | cons hr ac =>
  have ad:∀ s ∈ YtellehgihceicaaGreatDoor.Ai L js,∀ b ∈ s.fp,b ∈ (A5 w (Bg M)).fp:=fun s v b m=>by
   have g:=l.1 s (by simp [v])
   refine JC.2 ⟨(g.2.1 b m).2,fun hx=>?_⟩
   obtain ⟨t,ht,e⟩:=Kx.1 hx
   exact aj t ht s v b e m
  refine ⟨fun r f=>?_,List.pairwise_append.2 ⟨ac,(List.pairwise_append.1 l.2).2.1,fun r f s v b m e=>hr r f b (ad s v b e) m⟩⟩
  rcases AX.1 f with f | f
  ·have g:=u.1 r (by simp [f])
   refine ⟨g.1,fun b e=>⟨?_,(g.2.1 b e).2⟩,g.2.2⟩
   by_cases ap:b < w.heap.size
   ·by_cases hx:b ∈ Bg M
    ·obtain ⟨t,ht,ao⟩:=Kx.1 hx
     exact ((l.1 t (by simp [ht])).2.1 b ao).1
    ·exact absurd e (hr r f b (JC.2 ⟨ap,hx⟩))
   ·omega
  ·have g:=l.1 r (by simp [f])
   refine ⟨g.1,fun b e=>⟨(g.2.1 b e).1,(ai.2.1 b (ad r f b e)).2⟩,fun al hk=>g.2.2 al fun b e=>(hk b e).trans ?_⟩
   have:=JC.1 (ad r f b e)
   exact am b this.1 this.2
theorem Sep.takeB {w':Ag} {L M N:List Res} (h:Sep w0.heap.size w L) (is:An) (hn:Oc is = true) (hM:YtellehgihceicaaGreatDoor.Ai L is = M) (e:Below w0.heap.size w0 w) (f:Below 0 (wE w) w') (m:Sep 0 w' (A5 w (Bg M) :: N)):Below w0.heap.size w0 w':=by
 have g:∀ b,b < w0.heap.size → b ∈ (A5 w (Bg M)).fp:=fun b hb=>JC.2 ⟨by have:=e.size; omega,fun hx=>by
  obtain ⟨s,hs,ae⟩:=Kx.1 hx
  have u:s ∈ YtellehgihceicaaGreatDoor.Ai L is:=by rw [hM]; exact hs
  have:=((h.sel is hn).1 s u).2.1 b ae
  omega⟩
 have v:=m.1 _ (List.mem_cons_self ..)
 refine ⟨f.os.trans e.os,f.tape.trans e.tape,f.output.trans e.output,?_,fun k l=>(Oe m k (by have:=e.size; omega) (JC.1 (g k l)).2).trans (e.block k l)⟩
 by_cases h0:w0.heap.size = 0
 ·omega
 ·have:=(v.2.1 (w0.heap.size - 1) (g _ (by omega))).2
  omega
end Go.Proofs.YtellehgihceicaaGreatDoor
namespace Go.Proofs.YtellehgihceicaaGreatDoor
open Go Go.RowKit
variable {P:Program} {n:Nat} {ds:List (Af Tmp)} {d:Nat} {T TB U V:TypeId} {pos:String} {af:Array Edge} {rest:List Oper} {x y z:Operand} {σ:E2} {w w0 wS:Ag} {Q:Exit → Act → Ag → Prop} {L:List Res} {X F:An}
variable {a b c:List Aj} {k k' yk:IntKind} {i j:Int} {S:Ag → Prop} {G:Ac → Prop}
theorem ES (l:Nat.blt d n = true) (m:B4 σ x = some (.string (B5 a))) (f:B4 σ y = some (.string (B5 b))) (g:Cl a b = some c) (h:G (.string (B5 c))):∃ v,PR P n σ S d (.binOp .add T x y U) TB v ∧ G v :=
 ⟨_,⟨l,fun ρ e w _ u pos af s=>by simp only [execOp,e _ _ m,e _ _ f,eqGuard_at_string,Td g,Sem.run_bind,Sem.run_pure,Result.andThen_ok]⟩,h⟩
theorem Ach {m:Array TypeId} (g:Nat.blt d n = true) (l:B4 σ x = some (.int k i)) (f:B4 σ y = some (.int k j)) (h:G (.int k (Fy i j))):∃ v,PR P n σ S d (.call ⟨.builtin .max,#[x,y],m⟩) T v ∧ G v :=
 ⟨_,⟨g,fun ρ e w _ u pos af s=>by simp [execOp,resolve,invoke,builtin,e _ _ l,e _ _ f,Builtin.max_,Builtin.max2,Fy]⟩,h⟩
theorem Th {m:Array TypeId} (g:Nat.blt d n = true) (l:B4 σ x = some (.int k i)) (f:B4 σ y = some (.int k j)) (h:G (.int k (Fn i j))):∃ v,PR P n σ S d (.call ⟨.builtin .min,#[x,y],m⟩) T v ∧ G v :=
 ⟨_,⟨g,fun ρ e w _ u pos af s=>by simp [execOp,resolve,invoke,builtin,e _ _ l,e _ _ f,Builtin.min_,Builtin.min2,Fn]⟩,h⟩
theorem PK {l:TypeDesc} (g:P.underlying U = some l) (m:P.underlying V = some (.int k')) (f:Nat.blt d n = true) (s:B4 σ x = some (.int k i)) (h:G (.int k' (k'.wrap i))):∃ v,PR P n σ S d (.convert U V x) T v ∧ G v :=
 ⟨_,⟨f,fun ρ e w _ aa pos af u=>by simp [execOp,e _ _ s,convert,run_underlying g,run_underlying m,Conv.intToInt]⟩,h⟩
theorem I7 (l:Nat.blt d n = true) (g:B4 σ x = some (.int k i)) (f:B4 σ y = some (.int k j)) (h:WL P n ds rest ((d,.int k (B3 k i j)) :: σ) w Q):WL P n ds (⟨some d,.binOp .and T x y U,TB,pos,af,none⟩ :: rest) σ w Q :=
 CF l (fun ρ e=>by simp [execOp,e _ _ g,e _ _ f,eqGuard,binOp,Op.intBits,B3]) h
theorem Gp (g:decide (0 ≤ j) = true) (l:Nat.blt d n = true) (s:B4 σ x = some (.int k i)) (f:B4 σ y = some (.int yk j)) (h:WL P n ds rest ((d,.int k (Br k i j)) :: σ) w Q):WL P n ds (⟨some d,.binOp .shr T x y U,TB,pos,af,none⟩ :: rest) σ w Q :=
 CF l (fun ρ e=>by
  have m:¬ j < 0:=by simpa using g
  simp [execOp,e _ _ s,e _ _ f,eqGuard,binOp,Op.shift,m,Br]) h
theorem JB (g:decide (0 ≤ j) = true) (l:Nat.blt d n = true) (s:B4 σ x = some (.int k i)) (f:B4 σ y = some (.int yk j)) (h:WL P n ds rest ((d,.int k (KD k i j)) :: σ) w Q):WL P n ds (⟨some d,.binOp .shl T x y U,TB,pos,af,none⟩ :: rest) σ w Q :=
 CF l (fun ρ e=>by
  have m:¬ j < 0:=by simpa using g
  simp [execOp,e _ _ s,e _ _ f,eqGuard,binOp,Op.shift,m,KD]) h
theorem KeepX.wr' {wS w w':Ag} {X F:An} (h:KeepX wS X w) (s:w.heap.size ≤ w'.heap.size) (g:∀ b,b < w.heap.size → b ∉ F → w'.heap[b]? = w.heap[b]?) (m:∀ b,b < wS.heap.size → b ∈ F → b ∈ X):KeepX wS X w' :=
 ⟨fun b h1 l=>Nat.lt_of_lt_of_le (h.lt b h1 l) s,fun b f e=>(g b (h.lt b f e) fun u=>e (m b f u)).trans (h.blk b f e)⟩
theorem KeepX.below {wS w w0:Ag} {k:Nat} (h:KeepX wS [] w) (f:wS.heap.size ≤ w.heap.size) (h1:Below k w0 wS) (e:Below k w0 w):Below wS.heap.size wS w :=
 ⟨e.os.trans h1.os.symm,e.tape.trans h1.tape.symm,e.output.trans h1.output.symm,f,fun b g=>h.blk b g (by simp)⟩
variable {ops:List Oper} {fuel:Nat} {li:List Bool}
theorem Cy {is:An} (g:Region.ready .any ops.toArray li.toArray = is) (f:is.isEmpty = false)
  (h:∀ i ∈ is,∃ o,ops[i]? = some o ∧ WL P n (ops.map (·.dst)) [o] σ w (Exit.then (fun a w=>S w ∧ wpAnyH P .any ops.toArray Q S fuel (li.set i true).toArray a w) Q)):WH P n ops S (fuel + 1) li σ w Q:=by
 intro a s
 refine wpAnyH_all g (by intro e; rw [e] at f; simp at f) fun i l=>?_
 obtain ⟨o,u,m⟩:=h i l
 have:=N0 u m s
 simpa using this
end Go.Proofs.YtellehgihceicaaGreatDoor
namespace Go.Proofs.YtellehgihceicaaGreatDoor
open Go Go.RowKit
variable {P:Program} {α:Type} {n:Nat} {ds:List (Af Tmp)} {d:Nat} {T U:TypeId} {pos:String} {af:Array Edge} {rest:List Oper} {σ:E2} {w w0:Ag} {Q:Exit → Act → Ag → Prop} {L:List Res}
theorem TK {e:Ty P α} (m:P.underlying U = some (.slice e.tid)) (u:Nat.blt d n = true) (l:Below w0.heap.size w0 w) (hS:Sep w0.heap.size w L)
  (h:∀ v F w',Below w.heap.size w w' → Below w0.heap.size w0 w' → Sep w0.heap.size w' (Ab e F v ([]:List α) :: L) → WL P n ds rest ((d,v) :: σ) w' Q) :
  WL P n ds (⟨some d,.buildSlice U 0 #[],T,pos,af,none⟩ :: rest) σ w Q:=by
 have g:Below w.heap.size w (w.alloc (.cells #[] e.tid)):=EP w _
 refine CF (w':=w.alloc (.cells #[] e.tid)) (v:=.slice (some ⟨w.heap.size,0,none⟩) 0 0) u (fun ρ hρ=>?_)
  (h _ [w.heap.size] _ g (l.trans (g.mono l.size)) (hS.push g (by simp [Ab]) (fun b f=>by simp [Ab] at f; subst f; simp) l.size fun ae ac=>?_))
 ·have f:=M9 (P:=P) m (parts:=[]) (css:=[]) rfl (fun c s=>by cases s) (by simp) w
  simp only [List.length_nil,List.flatten_nil] at f
  simp [execOp,f]
 ·have hh:=ac w.heap.size (by simp [Ab])
  exact .inr ⟨w.heap.size,0,#[],[],[],rfl,by rw [hh,heap_alloc_new],Nat.le_refl _,by simp [maxLen],by simp,by simp,trivial,rfl⟩
end Go.Proofs.YtellehgihceicaaGreatDoor
namespace Go.Proofs.YtellehgihceicaaGreatDoor
open Go Go.RowKit
variable {P:Program} {α:Type} {n:Nat} {ds:List (Af Tmp)} {d:Nat} {T U:TypeId} {pos:String} {af:Array Edge} {rest:List Oper} {x y z:Operand} {σ:E2} {w w0:Ag} {Q:Exit → Act → Ag → Prop} {L M:List Res} {S:Ag → Prop} {G:Ac → Prop}
def SlOf (sz:Nat) (v v':Ac) (lo hi:Nat):Prop:=∃ a n c,v = .slice a n c ∧ v' = .slice (if c = lo then a else a.map (·.add (lo * sz))) (hi - lo) (c - lo)
theorem V8 {l u:List α} {f e:Int} (h:sl l f e = some u):e.toNat ≤ l.length ∧ u = (l.take e.toNat).drop f.toNat:=by
 unfold sl at h
 split at h
 ·exact ⟨by omega,(Option.some.inj h).symm⟩
 ·cases h
theorem Sep.shrink {base:Nat} {w:Ag} {M:List Res} {r r':Res} (h:Sep base w (r :: M)) (v:r'.fp.Nodup) (g:∀ b ∈ r'.fp,b ∈ r.fp) (l:∀ w',(∀ b ∈ r'.fp,w'.heap[b]? = w.heap[b]?) → r'.ok w'):Sep base w (r' :: M):=by
 obtain ⟨h1,u⟩:=h
 cases u with
 | cons hd ht =>
  refine ⟨fun s e=>?_,.cons (fun s e b f=>hd s e b (g b f)) ht⟩
  cases e with
  | head =>
   have m:=h1 r (by simp)
   exact ⟨v,fun b f=>m.2.1 b (g b f),l⟩
  | tail _ e=>exact h1 s (.tail _ e)
theorem RX {e:Ty P α} {a:Af Addr} {len cap:Nat} {f g:Int} (v:P.underlying U = some (.slice e.tid)) (u:0 ≤ f) (h1:f ≤ g) (h2:g ≤ (cap:Int)) (ah:len ≤ cap) (vlo vhi s:Af Ac) (w:Ag)
  (l:(vlo = none ∧ f = 0) ∨ ∃ k,vlo = some (.int k f)) (ad:(vhi = none ∧ g = len) ∨ ∃ k,vhi = some (.int k g)) (hm:s = none) :
  (Instr.sliceAt U (.slice a len cap) vlo vhi s).run P w = .ok (.slice (if cap = f.toNat then a else a.map (·.add (f.toNat * e.sz))) (g.toNat - f.toNat) (cap - f.toNat)) w:=by
 subst hm
 obtain ⟨i,z,ac,ag,_⟩:=e.info
 have aa:(Instr.sliceBounds true len cap vlo vhi none).run P w = .ok (f.toNat,g.toNat,cap) w:=by
  have m:0 ≤ g ∧ g ≤ (cap:Int):=⟨by omega,h2⟩
  rcases ad with ⟨rfl,rfl⟩ | ⟨k,rfl⟩
  ·rcases l with ⟨rfl,rfl⟩ | ⟨k',rfl⟩
   ·simp [Instr.sliceBounds]
   ·have h:0 ≤ f ∧ f ≤ (len:Int):=⟨u,h1⟩
    simp [Instr.sliceBounds,Instr.sliceBound,asIntOf,h]
  ·rcases l with ⟨rfl,rfl⟩ | ⟨k',rfl⟩
   ·simp [Instr.sliceBounds,Instr.sliceBound,asIntOf,m]
   ·have e1:((g.toNat:Nat):Int) = g:=by omega
    have h:0 ≤ f ∧ f ≤ ((g.toNat:Nat):Int):=⟨u,by omega⟩
    simp only [Instr.sliceBounds,Instr.sliceBound,asIntOf,Sem.run_bind,Sem.run_pure,Result.andThen_ok,m,and_self,if_true,h,Option.isSome_none]
 simp [Instr.sliceAt,Instr.slice,run_underlying v,aa,sizeOf,typeInfo,ac,ag]
theorem N1 {e:Ty P α} {S1:Nat → Prop} {w1:Ag} {v:Ac} {l m:List α} {s g:Int} {aa u:Af Operand} (hu:P.underlying U = some (.slice e.tid)) (hn:Nat.blt d n = true)
  (hx:B4 σ x = some v) (hr:rdS e S1 w1 v l) (hm:sl l s g = some m)
  (am:(aa = none ∧ s = 0) ∨ ∃ o k,aa = some o ∧ B4 σ o = some (.int k s)) (aj:(u = none ∧ g = l.length) ∨ ∃ o k,u = some o ∧ B4 σ o = some (.int k g))
  (h:∀ v',rdS e S1 w1 v' m → SlOf e.sz v v' s.toNat g.toNat → WL P n ds rest ((d,v') :: σ) w Q):WL P n ds (⟨some d,.slice U x aa u none,T,pos,af,none⟩ :: rest) σ w Q:=by
 obtain ⟨v',ak,aq⟩:=LY hu hr hm
 obtain ⟨a,cap,hv,hc,_⟩:=hr
 unfold sl at hm
 split at hm
 case isFalse=>cases hm
 rename_i hb
 have ag:(aa.map (fun _=>Value.int .i64 s) = none ∧ s = 0) ∨ ∃ k,aa.map (fun _=>Value.int .i64 s) = some (.int k s):=by
  rcases am with ⟨h,f⟩ | ⟨o,k,h,_⟩
  ·exact .inl ⟨by rw [h]; rfl,f⟩
  ·exact .inr ⟨.i64,by rw [h]; rfl⟩
 have an:(u.map (fun _=>Value.int .i64 g) = none ∧ g = l.length) ∨ ∃ k,u.map (fun _=>Value.int .i64 g) = some (.int k g):=by
  rcases aj with ⟨h,f⟩ | ⟨o,k,h,_⟩
  ·exact .inl ⟨by rw [h]; rfl,f⟩
  ·exact .inr ⟨.i64,by rw [h]; rfl⟩
 have h1:=ak _ _ w ag an
 have h2:=RX (P:=P) (e:=e) (a:=a) (len:=l.length) (cap:=cap) hu hb.1 hb.2.1 (by omega) hc _ _ none w ag an rfl
 rw [hv] at h1
 rw [h1] at h2
 injection h2 with h2 _
 refine CF hn (fun ρ hρ=>?_) (h v' aq ⟨a,l.length,cap,hv,h2⟩)
 have:=ak (aa.map ρ) (u.map ρ) w (am.imp (fun ⟨h,f⟩=>⟨by rw [h]; rfl,f⟩) fun ⟨o,k,h,f⟩=>⟨k,by rw [h]; simp [hρ _ _ f]⟩)
  (aj.imp (fun ⟨h,f⟩=>⟨by rw [h]; rfl,f⟩) fun ⟨o,k,h,f⟩=>⟨k,by rw [h]; simp [hρ _ _ f]⟩)
 simp [execOp,hρ _ _ hx,this]
theorem Tf {e:Ty P α} {S1:Nat → Prop} {w1:Ag} {v:Ac} {l m:List α} {s g:Int} {ab aa:Af Operand} (hu:P.underlying U = some (.slice e.tid)) (hn:Nat.blt d n = true)
  (hx:B4 σ x = some v) (hr:rdS e S1 w1 v l) (hm:sl l s g = some m)
  (an:(ab = none ∧ s = 0) ∨ ∃ o k,ab = some o ∧ B4 σ o = some (.int k s)) (ak:(aa = none ∧ g = l.length) ∨ ∃ o k,aa = some o ∧ B4 σ o = some (.int k g))
  (h:∀ u,rdS e S1 w1 u m → SlOf e.sz v u s.toNat g.toNat → G u):∃ v,PR P n σ S d (.slice U x ab aa none) T v ∧ G v:=by
 obtain ⟨u,al,aq⟩:=LY hu hr hm
 obtain ⟨a,cap,hv,hc,_⟩:=hr
 unfold sl at hm
 split at hm
 case isFalse=>cases hm
 rename_i hb
 have ah:(ab.map (fun _=>Value.int .i64 s) = none ∧ s = 0) ∨ ∃ k,ab.map (fun _=>Value.int .i64 s) = some (.int k s):=by
  rcases an with ⟨h,f⟩ | ⟨o,k,h,_⟩
  ·exact .inl ⟨by rw [h]; rfl,f⟩
  ·exact .inr ⟨.i64,by rw [h]; rfl⟩
 have ao:(aa.map (fun _=>Value.int .i64 g) = none ∧ g = l.length) ∨ ∃ k,aa.map (fun _=>Value.int .i64 g) = some (.int k g):=by
  rcases ak with ⟨h,f⟩ | ⟨o,k,h,_⟩
  ·exact .inl ⟨by rw [h]; rfl,f⟩
  ·exact .inr ⟨.i64,by rw [h]; rfl⟩
 have h1:=al _ _ w1 ah ao
 have h2:=RX (P:=P) (e:=e) (a:=a) (len:=l.length) (cap:=cap) hu hb.1 hb.2.1 (by omega) hc _ _ none w1 ah ao rfl
 rw [hv] at h1
 rw [h1] at h2
 injection h2 with h2 _
 refine ⟨u,⟨hn,fun ρ hρ w _ ax pos af gd=>?_⟩,h u aq ⟨a,l.length,cap,hv,h2⟩⟩
 have:=al (ab.map ρ) (aa.map ρ) w (an.imp (fun ⟨h,f⟩=>⟨by rw [h]; rfl,f⟩) fun ⟨o,k,h,f⟩=>⟨k,by rw [h]; simp [hρ _ _ f]⟩)
  (ak.imp (fun ⟨h,f⟩=>⟨by rw [h]; rfl,f⟩) fun ⟨o,k,h,f⟩=>⟨k,by rw [h]; simp [hρ _ _ f]⟩)
 simp [execOp,hρ _ _ hx,this]
theorem SlOf.inv {sz:Nat} {a:Af Addr} {n c f g:Nat} {l:Ac} (h:SlOf sz (.slice a n c) l f g):l = .slice (if c = f then a else a.map (·.add (f * sz))) (g - f) (c - f):=by
 obtain ⟨m,s,c',e,h⟩:=h
 cases e
 exact h
theorem RN {Fs Gs:List (An)} (h:Gs.Sublist Fs):Gs.flatten.Sublist Fs.flatten:=by
 induction h with
 | slnil=>exact .slnil
 | cons a _ e=>rw [List.flatten_cons]; exact List.Sublist.trans e (List.sublist_append_right _ _)
 | cons_cons a _ e=>rw [List.flatten_cons,List.flatten_cons]; exact List.Sublist.append (List.Sublist.refl _) e
theorem Z3.take {R:An → List Ac → α → Prop}:∀ (k:Nat) {Fs:List (An)} {css:List (List Ac)} {l:List α},Z3 R Fs css l → Z3 R (Fs.take k) (css.take k) (l.take k)
 | 0,_,_,_,_=>by simp only [List.take_zero]; trivial
 | k + 1,[],[],[],h=>by simp only [List.take_nil]; trivial
 | k + 1,_ :: _,_ :: _,_ :: _,h=>by simp only [List.take_succ_cons]; exact ⟨h.1,Z3.take k h.2⟩
theorem Z3.drop {R:An → List Ac → α → Prop}:∀ (k:Nat) {Fs:List (An)} {css:List (List Ac)} {l:List α},Z3 R Fs css l → Z3 R (Fs.drop k) (css.drop k) (l.drop k)
 | 0,_,_,_,h=>by simpa only [List.drop_zero] using h
 | k + 1,[],[],[],h=>by simp only [List.drop_nil]; trivial
 | k + 1,_ :: _,_ :: _,_ :: _,h=>by simp only [List.drop_succ_cons]; exact Z3.drop k h.2
theorem QX {sz:Nat}:∀ (css:List (List Ac)) (k:Nat),(∀ c ∈ css,c.length = sz) → k ≤ css.length → css.flatten.take (k * sz) = (css.take k).flatten
 | css,0,_,_=>by simp
 | [],k + 1,_,h=>by simp at h
 | c :: css,k + 1,hc,h=>by
  have h1:=hc c (by simp)
  rw [List.flatten_cons,List.take_succ_cons,List.flatten_cons,Nat.succ_mul,Nat.add_comm,← h1,List.take_length_add_append,h1,QX css k (fun c e=>hc c (by simp [e])) (by simpa using h)]
theorem XA {e:Ty P α} {F:An} {v m:Ac} {l:List α} {k:Nat} (ho:ownS e F w v l) (ah:F.Nodup) (hs:SlOf e.sz v m 0 k) (f:k ≤ l.length):∃ F',ownS e F' w m (l.take k) ∧ F'.Nodup ∧ ∀ b ∈ F',b ∈ F:=by
 rcases ho with ⟨rfl,rfl,rfl⟩ | ⟨g,cap,ad,css,Fs,rfl,hg,hn,hm,hc,ht,s,rfl⟩
 ·have u:=hs.inv
  simp at f
  subst f
  exact ⟨[],.inl ⟨by simpa using u,by simp,rfl⟩,.nil,fun _ h=>h⟩
 ·have u:=hs.inv
  have ai:m = .slice (some ⟨g,0,none⟩) k cap:=by
   rw [u]
   by_cases h0:cap = 0
   ·simp [h0]
   ·simp [h0,Addr.add_zero']
  obtain ⟨n1,n2⟩:=s.len
  refine ⟨g :: (Fs.take k).flatten,.inr ⟨g,cap,ad,css.take k,Fs.take k,by rw [ai,List.length_take,Nat.min_eq_left f],hg,by rw [List.length_take]; omega,hm,hc,?_,Z3.take k s,rfl⟩,?_,fun b hb=>?_⟩
  ·rw [List.length_take,Nat.min_eq_left f,← QX css k s.sz (by omega),← ht,List.take_take,Nat.min_eq_left (Nat.mul_le_mul_right _ f)]
  ·exact List.Nodup.sublist (List.Sublist.cons_cons g (RN (List.take_sublist k Fs))) ah
  ·exact (List.Sublist.cons_cons g (RN (List.take_sublist k Fs))).subset hb
theorem Js {f:FuncId} {e:Func} {c:Code} {g:List Ac} {w:Ag} {R:Ending → Ag → Prop} {n:Nat}
  (u:P.funcs[f]? = some e) (hb:e.body = some c) (m:e.ntmps = n) (s:g.length + (n - g.length) = n) {σ:E2} (l:σ = g.zipIdx.map (fun p=>(p.2,p.1)))
  (h:∀ Q:Exit → Act → Ag → Prop,(∀ a w,bodyPost P e R .normal a w → Q .normal a w) → (∀ a w,bodyPost P e R .ret a w → Q .ret a w) → Jb Q → W P n c σ w Q):Calls P f g.toArray w R :=
 WG u hb m s l (h _ (fun _ _ h=>h) (fun _ _ h=>h) fun c a d v w h=>by cases d <;> exact h)
theorem N4 {e:Func} {R:Ending → Ag → Prop} {f:List ResultVar} {vs:List Ac} {Q:Exit → Act → Ag → Prop} (g:∀ a w,bodyPost P e R .normal a w → Q .normal a w) (l:e.results = f.toArray) (m:RVs P n σ w f vs) (h:R (.returned (Sj vs)) w) :
  ∀ a,St n σ a → Q .normal a w :=
 J6 (Q:=fun _ a w=>Q .normal a w) (fun a w h=>g a w h) l m h
theorem EAt.keepS {S S':Nat → Prop} {p:Addr} {cs:List Ac} {w w':Ag} (h:EAt S w p cs) (g:∀ b,S b → w'.heap[b]? = w.heap[b]?) (f:∀ b,S b → S' b):EAt S' w' p cs :=
 ⟨f _ h.1,fun j c e=>by
  rw [OD (w:=w) (w':=w') (a:=p.add j) (by rw [JY]; exact g _ h.1)]
  exact h.2 j c e⟩
theorem Sep.split2 {base:Nat} {r r1 r2:Res} (h:Sep base w (r :: M)) (l:r.fp = r1.fp ++ r2.fp) (g1:∀ w',(∀ b ∈ r1.fp,w'.heap[b]? = w.heap[b]?) → r1.ok w') (g2:∀ w',(∀ b ∈ r2.fp,w'.heap[b]? = w.heap[b]?) → r2.ok w'):Sep base w (r1 :: r2 :: M):=by
 obtain ⟨h1,h2⟩:=h
 have g:=h1 r (by simp)
 have m:=g.1
 rw [l,List.nodup_append] at m
 cases h2 with
 | cons u ht =>
  refine ⟨fun s e=>?_,.cons (fun s e b f v=>?_) (.cons (fun s e b f=>u s e b (by rw [l]; exact Bi _ f)) ht)⟩
  ·cases e with
   | head=>exact ⟨m.1,fun b f=>g.2.1 b (by rw [l]; exact At _ f),g1⟩
   | tail _ e =>
    cases e with
    | head=>exact ⟨m.2.1,fun b f=>g.2.1 b (by rw [l]; exact Bi _ f),g2⟩
    | tail _ e=>exact h1 s (.tail _ e)
  ·cases e with
   | head=>exact m.2.2 b f b v rfl
   | tail _ e=>exact u s e b (by rw [l]; exact At _ f) v
end Go.Proofs.YtellehgihceicaaGreatDoor
namespace Go.Proofs.YtellehgihceicaaGreatDoor
open Go Go.RowKit
variable {P:Program} {α:Type} {n:Nat} {w w0:Ag} {L M:List Res}
end Go.Proofs.YtellehgihceicaaGreatDoor
namespace Go.Proofs.YtellehgihceicaaGreatDoor
open Go Go.RowKit
variable {P:Program} {α:Type} {n:Nat} {ds:List (Af Tmp)} {d:Nat} {T U:TypeId} {pos:String} {af:Array Edge} {rest:List Oper} {x y z:Operand} {σ:E2} {w w0:Ag} {Q:Exit → Act → Ag → Prop}
theorem Y4 {f:FuncId} {g:Func} {e:Array Ac → Sem Ac} {xs:List Operand} {ts:Array TypeId} {vs:List Ac} {v:Ac} (hn:Nat.blt d n = true)
  (hf:P.funcs[f]? = some g) (m:(g.name == "runtime.NumGoroutine") = false) (hb:g.body.isNone = true) (aa:Extern.findNext g = none) (he:Extern.find g = some e)
  (hx:xs.map (B4 σ) = vs.map some) (hr:(e vs.toArray).run P w = .ok v w) (h:WL P n ds rest ((d,v) :: σ) w Q) :
  WL P n ds (⟨some d,.call ⟨.value (.func f),xs.toArray,ts⟩,T,pos,af,none⟩ :: rest) σ w Q :=
 CF hn (fun ρ l=>by
  have u:=QZ hx ρ l
  have s:(callFunc f vs.toArray).run P w = .ok (.value v) w:=by rw [run_callFunc_extern hf m hb aa he,hr]; rfl
  have ac:=l (.func f) _ rfl
  simp [execOp,resolve,Deferred.ofValue,invoke,u,s,ac]) h
theorem Zt {p q:Nat → Bool}:∀ {l:An},(∀ x ∈ l,p x = q x) → l.find? p = l.find? q:=by
 intro l
 induction l with
 | nil=>intro _; rfl
 | cons a l e=>intro h; rw [List.find?_cons,List.find?_cons,h a (by simp),e fun x f=>h x (by simp [f])]
theorem Zr (l:List Aj) (c:Int):firstIdx (B5 l) c.toNat.toUInt8 = PV l c:=by
 unfold firstIdx PV
 have e:(B5 l).size = l.length:=by simp [B5,ByteArray.size]
 have g:∀ i ∈ List.range l.length,((B5 l)[i]! == c.toNat.toUInt8) = (l[i]? == some c.toNat.toUInt8):=by
  intro i h
  have f:i < l.length:=List.mem_range.1 h
  have:(B5 l)[i]! = l[i]:=by
   rw [getElem!_pos (B5 l) i (by rw [e]; exact f)]
   rfl
  rw [this,Cq f]
  simp
 rw [e,Zt g]
 rfl
theorem ZK (l:List Aj) (c:Int):(Extern.BytealgIndexByte.indexByte #[.string (B5 l),.int .u8 c]).run P w = .ok (.int .i64 (PV l c)) w:=by
 rw [run_indexByte_string,Zr]
theorem ZL (l:List Aj) (c:Int):(Extern.BytealgCount.count #[.string (B5 l),.int .u8 c]).run P w = .ok (.int .i64 (Yp l c)) w:=by
 rw [Lib.run_countString]
 rfl
theorem BI {p:Addr} (g:Nat.blt d n = true) (f:B4 σ x = some (.pointer (some p))) (h:WL P n ds rest ((d,.pointer (some p)) :: σ) w Q) :
  WL P n ds (⟨some d,.nilCheck x,T,pos,af,none⟩ :: rest) σ w Q :=
 CF g (fun ρ e=>by simp [execOp,e _ _ f]) h
theorem B9 {S:Ag → Prop} {G:Ac → Prop} {p:Addr} (f:Nat.blt d n = true) (g:B4 σ x = some (.pointer (some p))) (h:G (.pointer (some p))):∃ v,PR P n σ S d (.nilCheck x) T v ∧ G v :=
 ⟨_,⟨f,fun ρ e w m s pos af l=>by simp [execOp,e _ _ g]⟩,h⟩
theorem HB {e:Ty P α} {F:An} {v:Ac} {l:List α} {k:IntKind} {f:Int} {u:α} {i:Nat} {L:List Res} (hu:P.underlying U = some (.slice e.tid)) (hn:Nat.blt d n = true)
  (hx:B4 σ x = some v) (hy:B4 σ y = some (.int k f)) (hS:Sep w0.heap.size w L) (hg:E7 L i = some (Ab e F v l)) (hi:AK l f = some u)
  (h:∀ p cs,e.rd (· ∈ F) w cs u → EAt (· ∈ F) w p cs → OPtr e.sz v p f.toNat 0 → WL P n ds rest ((d,.pointer (some p)) :: σ) w Q):WL P n ds (⟨some d,.indexAddr U x y,T,pos,af,none⟩ :: rest) σ w Q:=by
 have ho:ownS e F w v l:=hS.ok hg
 have hr:=ho.rd
 obtain ⟨h0,hl,ac⟩:=MD hi
 rcases ho with ⟨_,rfl,_⟩ | ⟨g,cap,a9,css,Fs,hv,ba,bd,hm,hc,ht,hz,hF⟩
 ·simp at ac
 ·subst hv
  obtain ⟨a,a6,he,bc,m⟩:=hr
  injection he with s a3 a2
  rcases m with rfl | ⟨ad,rfl,m⟩
  ·simp at ac
  ·injection s with s
   subst s
   obtain ⟨ii,zz,ao,ap,_⟩:=e.info
   obtain ⟨hb,cs,ae,ax⟩:=m _ _ hl
   have aj:0 ≤ f ∧ f < (l.length:Int):=⟨h0,by omega⟩
   refine CF hn (fun ρ hρ=>?_) (h _ cs ae ⟨hb,ax⟩ ⟨g,_,_,rfl,by rw [Addr.add_lit,Nat.zero_add,Nat.add_zero]⟩)
   simp [execOp,hρ _ _ hx,hρ _ _ hy,Instr.indexAt,asIntOf,run_underlying hu,sizeOf,typeInfo,ao,ap,aj]
theorem C8 {S:Ag → Prop} {G:Ac → Prop} {e:Ty P α} {F:An} {v:Ac} {l:List α} {k:IntKind} {f:Int} {u:α} {i:Nat} {L:List Res} {w:Ag} (hu:P.underlying U = some (.slice e.tid)) (hn:Nat.blt d n = true)
  (hx:B4 σ x = some v) (hy:B4 σ y = some (.int k f)) (hS:Sep w0.heap.size w L) (hg:E7 L i = some (Ab e F v l)) (hi:AK l f = some u)
  (h:∀ p cs,e.rd (· ∈ F) w cs u → EAt (· ∈ F) w p cs → OPtr e.sz v p f.toNat 0 → G (.pointer (some p))):∃ v,PR P n σ S d (.indexAddr U x y) T v ∧ G v:=by
 have ho:ownS e F w v l:=hS.ok hg
 have hr:=ho.rd
 obtain ⟨h0,hl,ac⟩:=MD hi
 rcases ho with ⟨_,rfl,_⟩ | ⟨g,cap,bb,css,Fs,hv,bc,bf,hm,hc,ht,hz,hF⟩
 ·simp at ac
 ·subst hv
  obtain ⟨a,a8,he,be,m⟩:=hr
  injection he with s a4 a3
  rcases m with rfl | ⟨ad,rfl,m⟩
  ·simp at ac
  ·injection s with s
   subst s
   obtain ⟨ii,zz,ao,ap,_⟩:=e.info
   obtain ⟨hb,cs,ae,ax⟩:=m _ _ hl
   have aj:0 ≤ f ∧ f < (l.length:Int):=⟨h0,by omega⟩
   refine ⟨_,⟨hn,fun ρ hρ w _ a7 pos af gd=>?_⟩,h _ cs ae ⟨hb,ax⟩ ⟨g,_,_,rfl,by rw [Addr.add_lit,Nat.zero_add,Nat.add_zero]⟩⟩
   simp [execOp,hρ _ _ hx,hρ _ _ hy,Instr.indexAt,asIntOf,run_underlying hu,sizeOf,typeInfo,ao,ap,aj]
theorem Ww:∀ {L:List Res} {i:Nat} {r:Res},E7 L i = some r → r ∈ L
 | [],_,_,h=>by cases h
 | a :: L,0,r,h=>by cases h; simp
 | a :: L,i + 1,r,h=>List.mem_cons_of_mem _ (Ww (L:=L) h)
section
variable {L M:List Res} {sz:Nat} {agg:Bool} {zv:Ac}
end
section
variable {S:Ag → Prop} {op:Op} {ops:List Oper} {fuel:Nat} {li:List Bool} {o:Oper}
theorem Ad (i:Nat) (g:ops[i]? = some ⟨some d,op,T,pos,af,none⟩) (e:Jb Q) (l:S w) (h:∃ v,PR P n σ S d op T v ∧ WH P n ops S fuel (li.set i true) ((d,v) :: σ) w Q)
  (m:Region.noSelect ops.toArray = true:=by kernel_rfl) (s:Region.free .any ops.toArray li.toArray i = true:=by kernel_rfl) (f:(Region.ready .any ops.toArray li.toArray).contains i = true:=by kernel_rfl):WH P n ops S (fuel + 1) li σ w Q :=
 Aau g m s f e l h
theorem Av (i:Nat) (f:ops[i]? = some o) (h:WL P n (ops.map (·.dst)) [o] σ w (Exit.then (fun a w=>S w ∧ wpAnyH P .any ops.toArray Q S fuel (li.set i true).toArray a w) Q))
  (e:Region.ready .any ops.toArray li.toArray = [i]:=by kernel_rfl):WH P n ops S (fuel + 1) li σ w Q:=Adh e f h
end
section
variable {L M:List Res} {sz:Nat} {agg:Bool} {zv:Ac} {base:Nat}
end
section
variable {L M:List Res} {base:Nat}
def semiS (e:Ty P α) (F:An) (w:Ag) (v:Ac) (l:List α):Prop :=
 ∃ (css:List (List Ac)) (G:An),w.ownsRow 0 e.tid e.sz v l.length css.flatten ∧ css.length = l.length ∧ (∀ (j:Nat) c x,css[j]? = some c → l[j]? = some x → e.rd (· ∈ G) w c x) ∧
  (∀ k,v.ownBlock = some k → k ∈ F ∧ k ∉ G) ∧ ∀ b ∈ G,b ∈ F
theorem Abf {e:Ty P α} {G:An} {w:Ag} {css:List (List Ac)} {l:List α} (g:css.length = l.length) (h:∀ (j:Nat) c x,css[j]? = some c → l[j]? = some x → e.rd (· ∈ G) w c x):∀ c ∈ css,c.length = e.sz:=by
 intro c s
 obtain ⟨j,f⟩:=List.getElem?_of_mem s
 have m:j < l.length:=by rw [← g]; exact (List.getElem?_eq_some_iff.1 f).1
 exact e.rd_len (h j c l[j] f (by simp [m]))
theorem semiS.keep {e:Ty P α} {F:An} {w w':Ag} {v:Ac} {l:List α} (h:semiS e F w v l) (m:∀ b ∈ F,w'.heap[b]? = w.heap[b]?):semiS e F w' v l:=by
 obtain ⟨css,G,h1,h2,h3,u,h6⟩:=h
 refine ⟨css,G,⟨h1.1,?_⟩,h2,fun j c x hc hx=>e.rd_keep (h3 j c x hc hx) fun b f=>m b (h6 b f),u,h6⟩
 rcases h1.2 with h | ⟨g,cap,ac,s,f,hg,hn,hm,hs,ht⟩
 ·exact .inl h
 ·exact .inr ⟨g,cap,ac,s,f,by rw [m g (u g (by rw [s]; rfl)).1]; exact hg,hn,hm,hs,ht⟩
theorem semiS.rd {e:Ty P α} {F:An} {w:Ag} {v:Ac} {l:List α} (h:semiS e F w v l):rdS e (· ∈ F) w v l:=by
 obtain ⟨css,G,h1,h2,h3,h5,h6⟩:=h
 rcases h1.2 with ⟨f,s⟩ | ⟨g,cap,ag,f,hb,hg,s,hm,hs,ht⟩
 ·have:l = []:=List.eq_nil_of_length_eq_zero s
  subst this
  exact ⟨none,0,f,Nat.le_refl _,.inl rfl⟩
 ·refine ⟨_,cap,f,s,.inr ⟨⟨g,0,none⟩,rfl,fun i x hx=>?_⟩⟩
  have ak:i < css.length:=by rw [h2]; exact (List.getElem?_eq_some_iff.1 hx).1
  obtain ⟨c,hc⟩:∃ c,css[i]? = some c:=⟨_,Cq ak⟩
  refine ⟨by rw [JY]; exact (h5 g (by rw [f]; rfl)).1,c,e.rd_mono (h3 i c x hc hx) fun y hy=>h6 y hy,fun j u hj=>?_⟩
  rw [P1,Addr.add_lit,cell_of_row w g _ ag e.tid (0,0) hg]
  have m:=Pb (Abf h2 h3) i j c hc u hj
  rw [← ht,List.getElem?_take] at m
  split at m
  ·simpa using m
  ·cases m
end
end Go.Proofs.YtellehgihceicaaGreatDoor
namespace Go.Proofs.YtellehgihceicaaGreatDoor
open Go Go.RowKit
structure Opn {α:Type} (P:Program) (t:TypeId) (R:(Nat → Prop) → Ag → List Ac → α → Prop) (G:α → Prop):Prop where
 op:∀ {H:Type} {enc:TypeId × Ac → H} {w:Ag} {spare:Nat → Bool} {held:Bool} {fuel:Nat} {cs:List Ac} {x:DataW H × List MemPlace},DataW.trod enc P w 0 spare held fuel t cs = some x → ∃ d,R (· < w.heap.size) w cs d ∧ G d
variable {P:Program} {t:TypeId}
theorem Ya (e:P.underlying t = some .string):Opn P t (fun _ _ cs d=>cs = [.string (B5 d)]) (Adg WR):=⟨fun h=>by
 obtain ⟨s,h1,_,f⟩:=DataW.trod_string e h
 refine ⟨s.data.toList,?_,?_,fun _ _=>trivial⟩
 ·rw [h1]; rfl
 ·exact (Array.length_toList (xs:=s.data)).symm ▸ f⟩
end Go.Proofs.YtellehgihceicaaGreatDoor
namespace Go.Proofs.YtellehgihceicaaGreatDoor
open Go Go.RowKit
section
variable {P:Program} {α:Type} {n:Nat} {σ:E2} {w w0:Ag} {Q:Exit → Act → Ag → Prop} {ds:List (Af Tmp)} {d:Nat} {T U TB:TypeId} {pos:String} {af:Array Edge} {rest:List Oper} {x y z:Operand} {L M:List Res} {sz:Nat} {agg:Bool} {zv:Ac}
abbrev iv (x:Int):Ac:=.int .i64 x
abbrev Bl (w0 w:Ag):Prop:=Below w0.heap.size w0 w
abbrev Sp (w0 w:Ag) (L:List Res):Prop:=Sep w0.heap.size w L
abbrev RO (e:Ty P α) (w:Ag) (v:Ac) (l:List α):Prop:=rdS e (· < w.heap.size) w v l
theorem Rr {k:IntKind} {i j:Int} (l:Nat.blt d n = true) (g:B4 σ x = some (.int k i)) (f:B4 σ y = some (.int k j)) (h:WL P n ds rest ((d,.int k (Tl k i j)) :: σ) w Q):WL P n ds (⟨some d,.binOp .or T x y U,TB,pos,af,none⟩ :: rest) σ w Q :=
 CF l (fun ρ e=>by simp [execOp,e _ _ g,e _ _ f,eqGuard,binOp,Op.intBits,Tl]) h
theorem Q5 {k:IntKind} {i j:Int} (l:Nat.blt d n = true) (g:B4 σ x = some (.int k i)) (f:B4 σ y = some (.int k j)) (h:WL P n ds rest ((d,.int k (Si k i j)) :: σ) w Q):WL P n ds (⟨some d,.binOp .xor T x y U,TB,pos,af,none⟩ :: rest) σ w Q :=
 CF l (fun ρ e=>by simp [execOp,e _ _ g,e _ _ f,eqGuard,binOp,Op.intBits,Si]) h
theorem Hr {R:Type} {c:Bool} {A:Af R} {r:R} (e:(if c = true then A else none) = some r):c = true:=by
 cases c with
 | true=>rfl
 | false=>cases e
theorem Aed {R:Type} {c:Bool} {A:Af R} {r:R} (e:(if c = true then none else A) = some r):c = false:=by
 cases c with
 | false=>rfl
 | true=>cases e
theorem nnE {γ:Type} {l:List γ} {v:Ac} (h:l.isEmpty = false):l = [] → v = .slice none 0 0:=fun e=>by rw [e] at h; cases h
def Ru:List Ac → Nat → Af Ac
 | [],_=>none
 | v :: _,0=>some v
 | _ :: l,i + 1=>Ru l i
theorem VM:∀ (l:List Ac) (i:Nat),Ru l i = l[i]?
 | [],i=>by simp [Ru]
 | v :: l,0=>by simp [Ru]
 | v :: l,i + 1=>by rw [Ru,VM l i,List.getElem?_cons_succ]
def kEq:IntKind → IntKind → Bool
 | .i8,.i8=>true | .i16,.i16=>true | .i32,.i32=>true | .i64,.i64=>true | .u8,.u8=>true | .u16,.u16=>true | .u32,.u32=>true | .u64,.u64=>true | _,_=>false
theorem Acx {a b:IntKind} (h:kEq a b = true):a = b:=by cases a <;> cases b <;> first | rfl | cases h
def Aeg {R:Type} (k:IntKind) (a b:Int) (f:Ac → Af R):BinOp → Af R
 | .add=>f (.int k (k.wrap (a + b)))
 | .sub=>f (.int k (k.wrap (a - b)))
 | .mul=>f (.int k (k.wrap (a * b)))
 | .lss=>f (.bool (decide (a < b)))
 | .leq=>f (.bool (decide (a ≤ b)))
 | .gtr=>f (.bool (decide (b < a)))
 | .geq=>f (.bool (decide (b ≤ a)))
 | .eql=>f (.bool (a == b))
 | .neq=>f (.bool (a != b))
 | _=>none
def PL {R:Type} (σ:E2) (f:Ac → Af R):Op → Af R
 | .move x=>match B4 σ x with | some v=>f v | none=>none
 | .assign x=>match B4 σ x with | some v=>f v | none=>none
 | .unOp .not _ x=>match B4 σ x with | some (.bool p)=>f (.bool (!p)) | _=>none
 | .unOp .neg _ x=>match B4 σ x with | some (.int k a)=>f (.int k (k.wrap (0 - a))) | _=>none
 | .binOp o _ x y _=>match B4 σ x with
  | some (.int k a)=>match B4 σ y with
   | some (.int k' b)=>bif kEq k k' then Aeg k a b f o else none
   | _=>none
  | _=>none
 | .extract x i=>match B4 σ x with | some (.tuple ⟨vs⟩)=>(match Ru vs i with | some v=>f v | none=>none) | _=>none
 | _=>none
theorem YV {R:Type} {f:Ac → Af R} {op:Op} {r:R} (h:PL σ f op = some r) :
  ∃ v,f v = some r ∧ ∀ ρ:Operand → Ac,(∀ x v,B4 σ x = some v → ρ x = v) → ∀ d T pos af w,(execOp ρ ⟨some d,op,T,pos,af,none⟩).run P w = .ok (.value v) w:=by
 cases op with
 | move x =>
  unfold PL at h
  dsimp only at h
  cases g:B4 σ x with
  | none=>rw [g] at h; cases h
  | some v=>rw [g] at h; exact ⟨v,h,fun ρ l d T pos af w=>by simp [execOp,l _ _ g]⟩
 | assign x =>
  unfold PL at h
  dsimp only at h
  cases g:B4 σ x with
  | none=>rw [g] at h; cases h
  | some v=>rw [g] at h; exact ⟨v,h,fun ρ l d T pos af w=>by simp [execOp,l _ _ g]⟩
 | unOp o t x =>
  cases o with
  | not =>
   unfold PL at h
   dsimp only at h
   split at h
   ·rename_i p g
    exact ⟨_,h,fun ρ l d T pos af w=>by simp [execOp,l _ _ g,Op.unary]⟩
   ·cases h
  | neg =>
   unfold PL at h
   dsimp only at h
   split at h
   ·rename_i k a g
    exact ⟨_,h,fun ρ l d T pos af w=>by simp [execOp,l _ _ g,Op.unary,Op.intArith]⟩
   ·cases h
  | _=>cases h
 | binOp o t x y u =>
  unfold PL at h
  dsimp only at h
  split at h
  ·rename_i k a g
   split at h
   ·rename_i k' b hy
    cases m:kEq k k' with
    | false=>rw [m] at h; cases h
    | true =>
     rw [m] at h
     have e:=Acx m
     subst e
     cases o <;> first
      | (refine ⟨_,h,fun ρ l d T pos af w=>?_⟩; simp [execOp,l _ _ g,l _ _ hy,eqGuard,binOp,Op.intArith,Op.intCmp]; done)
      | cases h
   ·cases h
  ·cases h
 | extract x i =>
  unfold PL at h
  dsimp only at h
  split at h
  ·rename_i vs g
   split at h
   ·rename_i v s
    rw [VM] at s
    exact ⟨_,h,fun ρ l d T pos af w=>by simp [execOp,l _ _ g,Instr.extract,s]⟩
   ·cases h
  ·cases h
 | _=>cases h
def YZ (n:Nat):Nat → List Oper → E2 → Af (List Oper × E2)
 | 0,ops,σ=>some (ops,σ)
 | k + 1,⟨some d,op,_,_,_,none⟩ :: ops,σ=>bif Nat.blt d n then PL σ (fun v=>YZ n k ops ((d,v) :: σ)) op else none
 | _,_,_=>none
theorem wp:∀ (k:Nat) {ops:List Oper} {σ σ':E2},YZ n k ops σ = some (rest,σ') → WL P n ds rest σ' w Q → WL P n ds ops σ w Q
 | 0,ops,σ,σ',h,hw=>by
  cases h
  exact hw
 | k + 1,[],σ,σ',h,hw=>by cases h
 | k + 1,⟨none,op,T,pos,af,gd⟩ :: ops,σ,σ',h,hw=>by cases h
 | k + 1,⟨some d,op,T,pos,af,some g⟩ :: ops,σ,σ',h,hw=>by cases h
 | k + 1,⟨some d,op,T,pos,af,none⟩ :: ops,σ,σ',h,hw=>by
  change (bif Nat.blt d n then PL σ (fun v=>YZ n k ops ((d,v) :: σ)) op else none) = _ at h
  cases e:Nat.blt d n with
  | false=>rw [e] at h; cases h
  | true =>
   rw [e] at h
   obtain ⟨v,m,f⟩:=YV (P:=P) (σ:=σ) h
   exact CF e (fun ρ l=>f ρ l d T pos af w) (wp k m hw)
def VZ {R:Type}:List Ac → Nat → Nat → (List Ac → Af R) → Af R
 | _,0,0,k=>k []
 | c :: cs,0,sz + 1,k=>VZ cs 0 sz fun l=>k (c :: l)
 | _ :: cs,off + 1,sz,k=>VZ cs off sz k
 | _,_,_,_=>none
theorem US {R:Type}:∀ {cs:List Ac} {off sz:Nat} {k:List Ac → Af R} {r:R},VZ cs off sz k = some r → ∃ vs,KR cs off sz = some vs ∧ k vs = some r:=by
 intro cs
 induction cs with
 | nil =>
  intro off sz k r h
  cases off with
  | zero =>
   cases sz with
   | zero=>exact ⟨[],rfl,h⟩
   | succ sz=>cases h
  | succ off=>cases h
 | cons c cs g =>
  intro off sz k r h
  cases off with
  | zero =>
   cases sz with
   | zero=>exact ⟨[],rfl,h⟩
   | succ sz =>
    obtain ⟨vs,h1,f⟩:=g (off:=0) (sz:=sz) (k:=fun l=>k (c :: l)) h
    refine ⟨c :: vs,?_,f⟩
    unfold KR at h1 ⊢
    simp only [Nat.zero_add,List.drop_zero,List.length_cons] at h1 ⊢
    have e:Nat.ble (sz + 1) (cs.length + 1) = Nat.ble sz cs.length:=rfl
    rw [e]
    cases m:Nat.ble sz cs.length with
    | false=>rw [m] at h1; cases h1
    | true =>
     rw [m] at h1
     simp only [cond_true,Option.some.injEq] at h1 ⊢
     rw [List.take_succ_cons,h1]
  | succ off =>
   obtain ⟨vs,h1,f⟩:=g (off:=off) (sz:=sz) (k:=k) h
   refine ⟨vs,?_,f⟩
   unfold KR at h1 ⊢
   rw [← h1,List.drop_succ_cons,List.length_cons]
   have e:Nat.ble (off + 1 + sz) (cs.length + 1) = Nat.ble (off + sz) cs.length:=by
    rw [show off + 1 + sz = (off + sz) + 1 by omega]
    rfl
   rw [e]
def Tq (agg:Bool) (cs:List Ac) (off sz:Nat):Af Ac:=match agg with
 | true=>VZ cs off sz fun l=>some (.agg l.toArray)
 | false=>VZ cs off sz fun l=>match l with | [v]=>some v | _=>none
theorem KU {cs:List Ac} {off:Nat} {v:Ac} (h:Tq agg cs off sz = some v):∃ vs,KR cs off sz = some vs ∧ pk agg vs = v:=by
 cases agg with
 | true =>
  obtain ⟨vs,h1,e⟩:=US h
  exact ⟨vs,h1,Option.some.inj e⟩
 | false =>
  obtain ⟨vs,h1,e⟩:=US h
  refine ⟨vs,h1,?_⟩
  split at e
  ·exact Option.some.inj e
  ·cases e
def Mi (σ:E2) (n d:Nat) (x:Operand):Af Ac:=bif Nat.blt d n then B4 σ x else none
theorem De {v:Ac} (h:Mi σ n d x = some v):Nat.blt d n = true ∧ B4 σ x = some v:=by
 unfold Mi at h
 cases e:Nat.blt d n with
 | false=>rw [e] at h; cases h
 | true=>rw [e] at h; exact ⟨rfl,h⟩
theorem AN (i:Nat) {b off:Nat} {V:TypeId} {cs:List Ac} {v:Ac} (s:TF P U sz agg zv) (e:Mi σ n d x = some (.pointer (some ⟨b,off,none⟩))) (m:Sep w0.heap.size w L) (f:E7 L i = some (A9 b V cs)) (l:Tq agg cs off sz = some v)
  (h:WL P n ds rest ((d,v) :: σ) w Q):WL P n ds (⟨some d,.load U x,T,pos,af,none⟩ :: rest) σ w Q:=by
 obtain ⟨vs,h1,g⟩:=KU l
 exact MM s (De e).1 (De e).2 m f h1 g h
theorem BW {S:Nat → Prop} {p:Addr} {cs:List Ac} {v:Ac} (m:TF P U sz agg zv) (e:Mi σ n d x = some (.pointer (some p))) (f:EAt S w p cs) (l:Tq agg cs 0 sz = some v)
  (h:WL P n ds rest ((d,v) :: σ) w Q):WL P n ds (⟨some d,.load U x,T,pos,af,none⟩ :: rest) σ w Q:=by
 obtain ⟨vs,h1,g⟩:=KU l
 exact Y3 m (De e).1 (De e).2 f h1 g h
theorem Bm {f o b off:Nat} (g:Fu P U f o = true) (e:Mi σ n d x = some (.pointer (some ⟨b,off,none⟩)))
  (h:WL P n ds rest ((d,.pointer (some ⟨b,off + o,none⟩)) :: σ) w Q):WL P n ds (⟨some d,.fieldAddr U x f,T,pos,af,none⟩ :: rest) σ w Q :=
 Z8 g (De e).1 (De e).2 rfl h
def Tn:List Ac → Bool
 | []=>true
 | v :: r=>v.oneCell' && Tn r
theorem Tm:∀ {vs:List Ac},Tn vs = true → Ones vs
 | [],_=>trivial
 | v :: r,h=>by
  unfold Tn at h
  rw [Cg] at h
  exact ⟨h.1,Tm h.2⟩
def QM {R:Type}:List Ac → Nat → List Ac → (List Ac → Af R) → Af R
 | cs,0,[],k=>k cs
 | _ :: cs,0,v :: vs,k=>QM cs 0 vs fun l=>k (v :: l)
 | c :: cs,off + 1,vs,k=>QM cs off vs fun l=>k (c :: l)
 | _,_,_,_=>none
theorem QL {R:Type}:∀ {cs:List Ac} {off:Nat} {vs:List Ac} {k:List Ac → Af R} {r:R},QM cs off vs k = some r → off + vs.length ≤ cs.length ∧ k (Dp cs off vs) = some r:=by
 intro cs
 induction cs with
 | nil =>
  intro off vs k r h
  cases off with
  | zero =>
   cases vs with
   | nil=>exact ⟨by simp,by simpa [Dp,QM] using h⟩
   | cons v vs=>cases h
  | succ off=>cases h
 | cons c cs f =>
  intro off vs k r h
  cases off with
  | zero =>
   cases vs with
   | nil=>exact ⟨by simp,by simpa [Dp,QM] using h⟩
   | cons v vs =>
    obtain ⟨h1,e⟩:=f (off:=0) (vs:=vs) (k:=fun l=>k (v :: l)) h
    refine ⟨by simp at h1 ⊢; omega,?_⟩
    simpa [Dp] using e
  | succ off =>
   obtain ⟨h1,e⟩:=f (off:=off) (vs:=vs) (k:=fun l=>k (c :: l)) h
   refine ⟨by simp at h1 ⊢; omega,?_⟩
   simp only [Dp,List.take_succ_cons,List.cons_append] at e ⊢
   rw [show off + 1 + vs.length = (off + vs.length) + 1 by omega,List.drop_succ_cons]
   exact e
def stK (agg:Bool) (v:Ac) (cs:List Ac) (off:Nat):Af (List Ac):=match agg with
 | true=>match v with
  | .agg ⟨vs⟩=>bif Tn vs then QM cs off vs some else none
  | _=>none
 | false=>bif v.oneCell' then QM cs off [v] some else none
theorem Gq (i:Nat) {b off:Nat} {V:TypeId} {cs cs':List Ac} {v:Ac} (tf:TF P U sz agg zv) (hx:B4 σ x = some (.pointer (some ⟨b,off,none⟩))) (s:B4 σ y = some v) (u:Below w0.heap.size w0 w) (hS:Sep w0.heap.size w L)
  (hg:E7 L i = some (A9 b V cs)) (hz:Nat.beq (match agg,v with | true,.agg a=>a.size | _,_=>1) sz = true) (f:stK agg v cs off = some cs')
  (h:∀ w',(w.heap.size ≤ w'.heap.size ∧ (∀ k,k < w.heap.size → k ∉ [b] → w'.heap[k]? = w.heap[k]?) ∧ ∀ k ∈ [b],k ∈ [b] ∨ w.heap.size ≤ k) → Below w0.heap.size w0 w' → Sep w0.heap.size w' (MC L i (A9 b V cs')) → WL P n ds rest σ w' Q) :
  WL P n ds (⟨none,.store U x y,T,pos,af,none⟩ :: rest) σ w Q:=by
 have l:=Nat.eq_of_beq_eq_true hz
 unfold stK at f
 cases agg with
 | true =>
  dsimp only at f l
  split at f
  ·rename_i vs
   cases g:Tn vs with
   | false=>rw [g] at f; cases f
   | true =>
    rw [g] at f
    obtain ⟨h1,m⟩:=QL f
    have e:Dp cs off vs = cs':=Option.some.inj m
    exact BD (vs:=vs) tf hx s rfl (by simpa using l) u hS hg (Nat.ble_eq_true_of_le h1) (Tm g) e h
  ·cases f
 | false =>
  dsimp only at f l
  cases g:v.oneCell' with
  | false=>rw [g] at f; cases f
  | true =>
   rw [g] at f
   obtain ⟨h1,m⟩:=QL f
   have e:Dp cs off [v] = cs':=Option.some.inj m
   have ag:1 = sz:=by cases v <;> exact l
   exact BD (vs:=[v]) tf hx s (Ci g) (by simpa using ag) u hS hg (Nat.ble_eq_true_of_le h1) ⟨g,trivial⟩ e h
theorem CH {cs:List Ac} (e:Mi σ n d x = some (.agg cs.toArray)) (f:Below w0.heap.size w0 w) (g:Sep w0.heap.size w L)
  (h:∀ b w',Below w.heap.size w w' → Below w0.heap.size w0 w' → Sep w0.heap.size w' (A9 b U cs :: L) → WL P n ds rest ((d,.pointer (some ⟨b,0,none⟩)) :: σ) w' Q) :
  WL P n ds (⟨some d,.box U x,T,pos,af,none⟩ :: rest) σ w Q:=Ab4 (De e).1 (De e).2 rfl f g h
theorem En {cs:List Ac} (g:TF P U sz true (.agg cs.toArray)) (f:Nat.blt d n = true) (e:Below w0.heap.size w0 w) (l:Sep w0.heap.size w L)
  (h:∀ b w',Below w.heap.size w w' → Below w0.heap.size w0 w' → Sep w0.heap.size w' (A9 b U cs :: L) → WL P n ds rest ((d,.pointer (some ⟨b,0,none⟩)) :: σ) w' Q) :
  WL P n ds (⟨some d,.alloc U,T,pos,af,none⟩ :: rest) σ w Q:=Z9 g f rfl e l h
theorem BV {e:Ty P α} {S:Nat → Prop} {u:Ag} {v:Ac} {l:List α} {g:TypeId} (s:rdS e S u v l) (m:P.underlying g = some (.slice e.tid)) (f:Mi σ n d x = some v)
  (h:WL P n ds rest ((d,.int .i64 (l.length:Int)) :: σ) w Q):WL P n ds (⟨some d,.call ⟨.builtin .len,#[x],#[g]⟩,T,pos,af,none⟩ :: rest) σ w Q:=Aa7 m (De f).1 (De f).2 s h
theorem A2 {c:Operand} {X Y:Code} {t:Bool} {R:Type} {A B:Af R} {r:R} (g:B4 σ c = some (.bool t)) (e:(if t = true then A else B) = some r) (h1:t = true → A = some r → W P n X σ w Q) (f:t = false → B = some r → W P n Y σ w Q) :
  W P n (.cond c X Y) σ w Q :=
 Z5 g (fun h=>h1 h (BB h e)) (fun h=>f h (Cf h e))
def rvK {R:Type} (σ:E2):List ResultVar → (List Ac → Af R) → Af R
 | [],k=>k []
 | .tmp t :: rs,k=>match G4 σ t with | some v=>rvK σ rs fun l=>k (v :: l) | none=>none
 | _,_=>none
theorem Wb {R:Type}:∀ {f:List ResultVar} {k:List Ac → Af R} {r:R},rvK σ f k = some r → ∃ vs,RVs P n σ w f vs ∧ k vs = some r
 | [],k,r,h=>⟨[],trivial,h⟩
 | .tmp t :: f,k,r,h=>by
  unfold rvK at h
  cases e:G4 σ t with
  | none=>rw [e] at h; cases h
  | some v =>
   rw [e] at h
   obtain ⟨vs,h1,g⟩:=Wb h
   exact ⟨v :: vs,⟨Kg e,h1⟩,g⟩
 | .cell _ _ :: _,_,_,h=>by cases h
theorem rt {e:Func} {R:Ending → Ag → Prop} {f:List ResultVar} {v:Ac} {Q:Exit → Act → Ag → Prop} (g:∀ a w,bodyPost P e R .ret a w → Q .ret a w) (m:e.results = f.toArray) (u:rvK σ f (fun l=>some (Sj l)) = some v) (h:R (.returned v) w) :
  ∀ a,St n σ a → Q .ret a w:=by
 obtain ⟨vs,h1,s⟩:=Wb (P:=P) (n:=n) (w:=w) u
 cases s
 exact J6 g m h1 h
def subB (σ:E2):E2 → Prop:=fun τ=>(τ.map fun p=>G4 σ p.1) = τ.map fun p=>some p.2
theorem subB.sub {σ:E2}:∀ {τ:E2},subB σ τ → Sub σ τ
 | [],_=>trivial
 | (i,v) :: r,h=>by
  unfold subB at h
  rw [List.map_cons,List.map_cons,List.cons.injEq] at h
  exact ⟨h.1,subB.sub h.2⟩
theorem St.sb {τ:E2} {a:Act} (h:St n σ a) (e:(τ.map fun p=>G4 σ p.1) = τ.map fun p=>some p.2):St n τ a:=h.sub (subB.sub e)
theorem jx {τ:E2} {K:Act → Prop} (h:∀ a,St n τ a → K a) (f:(τ.map fun p=>G4 σ p.1) = τ.map fun p=>some p.2):∀ a,St n σ a → K a:=fun a e=>h a (e.sb f)
theorem Am {x y:Code} (h:∀ K:Act → Ag → Prop,(∀ {σ w},W P n y σ w Q → ∀ a,St n σ a → K a w) → W P n x σ w (Exit.then K Q)):W P n (.seq x y) σ w Q :=
 Ady fun K e=>h K fun {σ w}=>e σ w
theorem Ak {id:Nat} {l:List Oper} {y:Code} (h:∀ K:Act → Ag → Prop,(∀ {σ w},W P n y σ w Q → ∀ a,St n σ a → K a w) → WL P n (l.map (·.dst)) l σ w (Exit.then K Q)):W P n (.seq (.region id l.toArray false) y) σ w Q :=
 Am fun K e=>As (h K e)
theorem bB {α β:Type} {o:Af α} {f:α → Af β} {r:β} {C:Prop} (h:Option.bind o f = some r) (k:∀ a,o = some a → f a = some r → C):C:=by
 obtain ⟨a,h1,e⟩:=Adx h
 exact k a h1 e
theorem Bq {f:FuncId} {xs:List Operand} {ts:Array TypeId} {vs:List Ac} {v:Ac} (u:Nat.blt d n = true) (m:∀ args w,(callFunc f args).run P w = .ok (.enter f args) w)
  (l:Below w0.heap.size w0 w) (hS:Sep w0.heap.size w L) (s:Calls P f vs.toArray w fun e w'=>e = .returned v ∧ Below w.heap.size w w') (hx:xs.map (B4 σ) = vs.map some)
  (h:∀ w',Below w.heap.size w w' → Below w0.heap.size w0 w' → Sep w0.heap.size w' L → WL P n ds rest ((d,v) :: σ) w' Q) :
  WL P n ds (⟨some d,.call ⟨.value (.func f),xs.toArray,ts⟩,T,pos,af,none⟩ :: rest) σ w Q :=
 A7 u m s hx fun e w' g=>⟨v,g.1,h w' g.2 (l.trans (g.2.mono l.size)) (hS.below g.2)⟩
theorem El {f:FuncId} {xs:List Operand} {ts:Array TypeId} {vs:List Ac} {τ:Type} {v:τ → Ac} {N:τ → An → List Res} (hn:Nat.blt d n = true) (s:∀ args w,(callFunc f args).run P w = .ok (.enter f args) w)
  (g:Below w0.heap.size w0 w) (hS:Sep w0.heap.size w L) (u:Calls P f vs.toArray w fun e w'=>∃ (q:τ) (G:An),e = .returned (v q) ∧ Below w.heap.size w w' ∧ Sep w.heap.size w' (N q G)) (hx:xs.map (B4 σ) = vs.map some)
  (h:∀ q G w',Below w.heap.size w w' → Sep w.heap.size w' (N q G) → Below w0.heap.size w0 w' → Sep w0.heap.size w' (N q G ++ L) → WL P n ds rest ((d,v q) :: σ) w' Q) :
  WL P n ds (⟨some d,.call ⟨.value (.func f),xs.toArray,ts⟩,T,pos,af,none⟩ :: rest) σ w Q :=
 A7 hn s u hx fun e w' ⟨q,G,he,l,m⟩=>⟨v q,he,h q G w' l m (g.trans (l.mono g.size)) (hS.join l m g.size)⟩
end
end Go.Proofs.YtellehgihceicaaGreatDoor
namespace Go.Proofs.YtellehgihceicaaGreatDoor
open Go Go.RowKit
section
variable {P:Program} {α β:Type} {base:Nat} {w w' w0:Ag} {L M:List Res}
def Sh.arr {γ:Type} (f:γ → Ac) (z:γ) (n:Nat) (h1:∀ x,(f x).oneCell' = true):Sh (List γ) where
 sz:=n
 zero:=List.replicate n (f z)
 dflt:=List.replicate n z
 rd:=fun _ _ cs l=>cs = l.map f ∧ l.length = n
 own:=fun F _ cs l=>F = [] ∧ cs = l.map f ∧ l.length = n
 rd_len:=fun h=>by rw [h.1,List.length_map]; exact h.2
 rd_one:=fun h c hc=>by rw [h.1] at hc; obtain ⟨x,_,rfl⟩:=List.mem_map.1 hc; exact h1 x
 rd_keep:=fun h _=>h
 rd_mono:=fun h _=>h
 own_keep:=fun h _=>h
 own_rd:=fun h=>⟨h.2.1,h.2.2⟩
 own_lt:=fun h b hb=>by rw [h.1] at hb; cases hb
 zero_own:=fun _=>⟨rfl,by simp,by simp⟩
def Sh.slicen (e:Ty P α):Sh (List α) where
 sz:=1
 zero:=[.slice none 0 0]
 dflt:=[]
 rd:=(Sh.slice e).rd
 own:=fun F w cs l=>∃ v,cs = [v] ∧ ownS e F w v l ∧ (l = [] → v = .slice none 0 0)
 rd_len:=(Sh.slice e).rd_len
 rd_one:=(Sh.slice e).rd_one
 rd_keep:=(Sh.slice e).rd_keep
 rd_mono:=(Sh.slice e).rd_mono
 own_keep:=fun ⟨v,h1,h2,h3⟩ hk=>by
  obtain ⟨v',h1',h2'⟩:=(Sh.slice e).own_keep ⟨v,h1,h2⟩ hk
  subst h1
  cases h1'
  exact ⟨v,rfl,h2',h3⟩
 own_rd:=fun ⟨v,h1,h2,_⟩=>(Sh.slice e).own_rd ⟨v,h1,h2⟩
 own_lt:=fun ⟨v,h1,h2,_⟩=>(Sh.slice e).own_lt ⟨v,h1,h2⟩
 zero_own:=fun w=>by
  obtain ⟨v,h1,h2⟩:=(Sh.slice e).zero_own w
  exact ⟨v,h1,h2,fun _=>by cases h1; rfl⟩
def A3 (e:Sh α) (t:TypeId) (F:An) (b:Nat) (x:α):Res:=⟨b :: F,fun w=>∃ cs:List Ac,w.heap[b]? = some (.cells cs.toArray t (0,0)) ∧ e.own F w cs x⟩
def HC (s:Sh α) (F:An) (cs:List Ac) (x:α):Res:=⟨F,fun w=>s.own F w cs x⟩
theorem Sep.perm {L L':List Res} (h:Sep base w L) (p:L.Perm L'):Sep base w L':=by
 obtain ⟨h1,e⟩:=h
 refine ⟨fun r f=>h1 r (p.mem_iff.2 f),?_⟩
 exact (p.pairwise_iff fun {r s} hrs b hb hb'=>hrs b hb' hb).1 e
theorem Sf {r r1 r2:Res} (pre:List Res) (h:Sep base w (pre ++ r :: L)) (g:r.fp = r1.fp ++ r2.fp) (f:∀ w',(∀ b ∈ r1.fp,w'.heap[b]? = w.heap[b]?) → r1.ok w') (l:∀ w',(∀ b ∈ r2.fp,w'.heap[b]? = w.heap[b]?) → r2.ok w') :
  Sep base w (pre ++ r1 :: r2 :: L):=by
 have h1:Sep base w (r :: (pre ++ L)):=h.perm List.perm_middle
 have e:Sep base w (r1 :: r2 :: (pre ++ L)):=h1.split2 g f l
 refine e.perm ?_
 refine (List.Perm.cons r1 (List.perm_middle (a:=r2) (l₁:=pre) (l₂:=L)).symm).trans ?_
 exact (List.perm_middle (a:=r1) (l₁:=pre) (l₂:=r2 :: L)).symm
theorem N9 {r r':Res} (pre:List Res) (h:Sep base w (pre ++ r :: L)) (e:r'.fp = r.fp) (f:∀ w,r.ok w → r'.ok w):Sep base w (pre ++ r' :: L) :=
 ((h.perm List.perm_middle).head e f).perm List.perm_middle.symm
theorem T6 {r:Res} (pre:List Res) (h:Sep base w (pre ++ r :: L)):Sep base w (pre ++ L):=by
 have h1:Sep base w (r :: (pre ++ L)):=h.perm List.perm_middle
 exact ⟨fun s e=>h1.1 s (List.mem_cons_of_mem _ e),(List.pairwise_cons.1 h1.2).2⟩
theorem MJ {r:Res} (pre:List Res) (h:Sep base w (pre ++ r :: L)):∀ w',(∀ b ∈ r.fp,w'.heap[b]? = w.heap[b]?) → r.ok w':=(h.1 r (by simp)).2.2
theorem R1 {e:Sh α} {t:TypeId} {F:An} {b:Nat} {x:α} (h:Sep base w (A3 e t F b x :: L)):∃ cs:List Ac,Sep base w (A9 b t cs :: HC e F cs x :: L):=by
 have l:=MJ [] h
 obtain ⟨cs,h1,g⟩:∃ cs:List Ac,w.heap[b]? = some (.cells cs.toArray t (0,0)) ∧ e.own F w cs x:=l w fun _ _=>rfl
 refine ⟨cs,Sf [] h rfl (fun w' f=>?_) (fun w' f=>?_)⟩
 ·show w'.heap[b]? = _
  rw [f b (by simp [A9]),h1]
 ·exact e.own_keep g f
theorem Er {s:Sh α} {t:Sh β} {F:An} {cs:List Ac} {x:α × β} (pre:List Res) (h:Sep base w (pre ++ HC (Sh.prod s t) F cs x :: L)) :
  ∃ a b Fa Fb,cs = a ++ b ∧ F = Fa ++ Fb ∧ Sep base w (pre ++ HC s Fa a x.1 :: HC t Fb b x.2 :: L):=by
 have l:=MJ pre h
 obtain ⟨a,b,Fa,Fb,h1,f,m,g⟩:(Sh.prod s t).own F w cs x:=l w fun _ _=>rfl
 exact ⟨a,b,Fa,Fb,h1,f,Sf pre h f (fun w' e=>s.own_keep m e) (fun w' e=>t.own_keep g e)⟩
theorem Iw {e:Ty P α} {F:An} {cs:List Ac} {l:List α} (pre:List Res) (h:Sep base w (pre ++ HC (Sh.slice e) F cs l :: L)):∃ v,cs = [v] ∧ Sep base w (pre ++ Ab e F v l :: L):=by
 have f:=MJ pre h
 obtain ⟨v,rfl,hv⟩:(Sh.slice e).own F w cs l:=f w fun _ _=>rfl
 exact ⟨v,rfl,N9 pre h rfl fun u ⟨s,m,g⟩=>by cases m; exact g⟩
theorem NF {e:Ty P α} {f:α → List Ac} (g:Flat e f) {F:An} {cs:List Ac} {x:α} (pre:List Res) (h:Sep base w (pre ++ HC e.toSh F cs x :: L)):cs = f x ∧ Sep base w (pre ++ L):=by
 have m:=MJ pre h
 have l:e.own F w cs x:=m w fun _ _=>rfl
 exact ⟨g.rd (e.own_rd l),T6 pre h⟩
theorem MG {e:Ty P α} {f:α → List Ac} (u:Flat e f) (x:α) (pre:List Res) (h:Sep base w (pre ++ L)):Sep base w (pre ++ HC e.toSh [] (f x) x :: L):=by
 have m:Sep base w (HC e.toSh [] (f x) x :: (pre ++ L)):=by
  refine ⟨fun r g=>?_,List.pairwise_cons.2 ⟨fun s hs b l=>(by cases l),h.2⟩⟩
  cases g with
  | head=>exact ⟨List.nodup_nil,fun b l=>(by cases l),fun w' v=>u.own w' x⟩
  | tail _ g=>exact h.1 r g
 exact m.perm List.perm_middle.symm
theorem PX {e:Sh α} {t:TypeId} {F F':An} {b:Nat} {x:α} {cs:List Ac} (h:Sep base w (A9 b t cs :: HC e F cs x :: L)) (g:F = F'):Sep base w (A3 e t F' b x :: L) :=
 by subst g; exact h.merge rfl fun w h1 f=>⟨cs,h1,f⟩
theorem DF {s:Sh α} {t:Sh β} {Fa Fb:An} {a b:List Ac} {x:α} {y:β} (pre:List Res) (h:Sep base w (pre ++ HC s Fa a x :: HC t Fb b y :: L)):Sep base w (pre ++ HC (Sh.prod s t) (Fa ++ Fb) (a ++ b) (x,y) :: L):=by
 have h1:Sep base w (HC s Fa a x :: HC t Fb b y :: (pre ++ L)):=by
  refine (h.perm List.perm_middle).perm (List.Perm.cons _ ?_)
  exact List.perm_middle
 have e:Sep base w (HC (Sh.prod s t) (Fa ++ Fb) (a ++ b) (x,y) :: (pre ++ L)):=h1.merge rfl fun w h1 e=>⟨a,b,Fa,Fb,rfl,rfl,h1,e⟩
 exact e.perm List.perm_middle.symm
theorem H1 {e:Ty P α} {F:An} {v:Ac} {l:List α} (pre:List Res) (h:Sep base w (pre ++ Ab e F v l :: L)):Sep base w (pre ++ HC (Sh.slice e) F [v] l :: L) :=
 N9 pre h rfl fun w f=>⟨v,rfl,f⟩
theorem KeepX.tk {wS w w':Ag} {X:An} {M N:List Res} (h:KeepX wS X w) (g:Sep 0 w' (A5 w (Bg M) :: N)) (l:∀ b,b ∈ Bg M → b < wS.heap.size → b ∈ X):KeepX wS X w':=by
 refine ⟨fun b h1 e=>?_,fun b h1 e=>(Oe g b (h.lt b h1 e) fun f=>e (l b f h1)).trans (h.blk b h1 e)⟩
 exact ((g.1 _ (List.mem_cons_self ..)).2.1 b (JC.2 ⟨h.lt b h1 e,fun f=>e (l b f h1)⟩)).2
theorem CV {p:Nat → Prop}:∀ b,b ∈ Bg ([]:List Res) → p b:=fun b e=>by cases e
theorem BS {r:Res} {L:List Res} {p:Nat → Prop} (h:∀ b,b ∈ r.fp → p b) (g:∀ b,b ∈ Bg L → p b):∀ b,b ∈ Bg (r :: L) → p b:=fun b e=>by
 obtain ⟨s,f,e⟩:=Kx.1 e
 cases f with
 | head=>exact h b e
 | tail _ f=>exact g b (Kx.2 ⟨s,f,e⟩)
theorem Pv {e:Sh α} {t:TypeId} {F:An} {b:Nat} {x:α} {p:Nat → Prop} (h:∀ c,c ∈ [b] → p c) (g:∀ c,c ∈ F → p c):∀ c,c ∈ (A3 e t F b x).fp → p c:=fun c f =>
 (List.mem_cons.1 f).elim (fun e=>h c (by rw [e]; exact List.mem_singleton.2 rfl)) (g c)
theorem Iz {p:Nat → Prop}:∀ c,c ∈ ([]:List (An)).flatten → p c:=fun c e=>by cases e
theorem Bu {F:An} {Fs:List (An)} {p:Nat → Prop} (h:∀ c,c ∈ F → p c) (f:∀ c,c ∈ Fs.flatten → p c):∀ c,c ∈ (F :: Fs).flatten → p c:=fun c e=>by
 rw [List.flatten_cons] at e
 exact (AX.1 e).elim (h c) (f c)
def pvl (f:Bool) (b:Nat):Ac:=match f with | true=>.pointer (some ⟨b,0,none⟩) | false=>.pointer none
def Aeb (f:Bool) (L:List Res):List Res:=match f with | true=>L | false=>[]
theorem KP {w w':Ag} {M N:List Res} (g:Sep 0 w' (A5 w (Bg M) :: N)) {i:Nat} {r:Res} (f:E7 N i = some r):∀ b ∈ r.fp,b ∈ Bg M ∨ w.heap.size ≤ b:=by
 intro b l
 by_cases h1:b ∈ Bg M
 ·exact .inl h1
 ·refine .inr (Nat.le_of_not_lt fun h=>?_)
  have e:r ∈ N:=Ww f
  exact (List.pairwise_cons.1 g.2).1 r e b (JC.2 ⟨h,h1⟩) l
theorem Wk {γ:Type} {f:γ → Ac} {z:γ} {n:Nat} {h1:∀ x,(f x).oneCell' = true} {F:An} {cs:List Ac} {l:List γ} (pre:List Res) (h:Sep base w (pre ++ HC (Sh.arr f z n h1) F cs l :: L)) :
  F = [] ∧ cs = l.map f ∧ l.length = n ∧ Sep base w (pre ++ L):=by
 have s:=MJ pre h
 obtain ⟨e,m,g⟩:(Sh.arr f z n h1).own F w cs l:=s w fun _ _=>rfl
 exact ⟨e,m,g,T6 pre h⟩
theorem Vi {γ:Type} {f:γ → Ac} {z:γ} {n:Nat} {h1:∀ x,(f x).oneCell' = true} (l:List γ) (u:l.length = n) (pre:List Res) (h:Sep base w (pre ++ L)):Sep base w (pre ++ HC (Sh.arr f z n h1) [] (l.map f) l :: L):=by
 have m:Sep base w (HC (Sh.arr f z n h1) [] (l.map f) l :: (pre ++ L)):=by
  refine ⟨fun r e=>?_,List.pairwise_cons.2 ⟨fun s hs b g=>(by cases g),h.2⟩⟩
  cases e with
  | head=>exact ⟨List.nodup_nil,fun b g=>(by cases g),fun w' v=>⟨rfl,rfl,u⟩⟩
  | tail _ e=>exact h.1 r e
 exact m.perm List.perm_middle.symm
theorem Abj {e:Ty P α} {F:An} {cs:List Ac} {l:List α} (pre:List Res) (h:Sep base w (pre ++ HC (Sh.slicen e) F cs l :: L)):∃ v,cs = [v] ∧ (l = [] → v = .slice none 0 0) ∧ Sep base w (pre ++ Ab e F v l :: L):=by
 have f:=MJ pre h
 obtain ⟨v,rfl,hv,g⟩:(Sh.slicen e).own F w cs l:=f w fun _ _=>rfl
 exact ⟨v,rfl,g,N9 pre h rfl fun aa ⟨u,s,m,_⟩=>by cases s; exact m⟩
theorem Aaj {e:Ty P α} {F:An} {v:Ac} {l:List α} (f:l = [] → v = .slice none 0 0) (pre:List Res) (h:Sep base w (pre ++ Ab e F v l :: L)):Sep base w (pre ++ HC (Sh.slicen e) F [v] l :: L) :=
 N9 pre h rfl fun w g=>⟨v,rfl,g,f⟩
def IX (l:List Bool):List Ac:=l.map .bool
def MI (l:List Int):List Ac:=l.map iv
theorem MU {γ:Type} {l m:List γ} {j:Nat} {u:γ} (h:NR l j u = some m):j < l.length ∧ m = l.set j u:=by
 unfold NR at h
 split at h
 ·rename_i e
  exact ⟨e,(Option.some.inj h).symm⟩
 ·cases h
theorem YJ {l m:List Bool} {j:Nat} {u:Bool} (h:NR l j u = some m):(IX l).set j (.bool u) = IX m:=by
 rw [(MU h).2]
 exact (List.map_set ..).symm
theorem Ace {l m:List Int} {j:Nat} {u:Int} (h:NR l j u = some m):(MI l).set j (iv u) = MI m:=by
 rw [(MU h).2]
 exact (List.map_set ..).symm
theorem So {γ:Type} {l m:List γ} {j k:Nat} {u:γ} (h:NR l j u = some m) (e:l.length = k):m.length = k:=by rw [(MU h).2,List.length_set,e]
theorem VW {l m:List Bool} {j:Nat} {u:Bool} (h:NR l j u = some m):j < (IX l).length:=by unfold IX; rw [List.length_map]; exact (MU h).1
theorem ZF {l m:List Int} {j:Nat} {u:Int} (h:NR l j u = some m):j < (MI l).length:=by unfold MI; rw [List.length_map]; exact (MU h).1
theorem Aef {l:List Bool} {j:Nat} {u:Bool} (h:l[j]? = some u):(IX l)[j]? = some (.bool u):=by unfold IX; rw [List.getElem?_map,h]; rfl
theorem Ac4 {l:List Int} {j:Nat} {u:Int} (h:l[j]? = some u):(MI l)[j]? = some (iv u):=by unfold MI; rw [List.getElem?_map,h]; rfl
theorem Ss {l:List Bool} {k:Nat} (h:l.length = k):(IX l).length = k:=by unfold IX; rw [List.length_map,h]
section
variable {n:Nat} {σ:E2} {Q:Exit → Act → Ag → Prop} {ds:List (Af Tmp)} {d:Nat} {T U TB:TypeId} {pos:String} {af:Array Edge} {rest:List Oper} {x y z:Operand} {sz:Nat} {agg:Bool} {zv:Ac} {S:Ag → Prop} {G:Ac → Prop}
theorem X5 {m s b off:Nat} {e:TypeId} {k:IntKind} {f:Int} (h:P.underlying U = some (.array m e)) (l:∀ w,(sizeOf e).run P w = .ok s w) (g:(decide (0 ≤ f) && decide (f < (m:Int))) = true) (w:Ag) :
  (Instr.indexAt U (.pointer (some ⟨b,off,none⟩)) (.int k f)).run P w = .ok (.pointer (some ⟨b,off + f.toNat * s,none⟩)) w:=by
 rw [Cg,C9,C9] at g
 simp [Instr.indexAt,asIntOf,run_underlying h,Instr.sureAddr,g,l w,Addr.add_lit]
theorem Id {m s b off:Nat} {e:TypeId} {k:IntKind} {f:Int} (l:P.underlying U = some (.array m e)) (hs:∀ w,(sizeOf e).run P w = .ok s w) (v:(decide (0 ≤ f) && decide (f < (m:Int))) = true) (hn:Nat.blt d n = true)
  (hx:B4 σ x = some (.pointer (some ⟨b,off,none⟩))) (u:B4 σ y = some (.int k f)) (h:WL P n ds rest ((d,.pointer (some ⟨b,off + f.toNat * s,none⟩)) :: σ) w Q):WL P n ds (⟨some d,.indexAddr U x y,T,pos,af,none⟩ :: rest) σ w Q :=
 CF hn (fun ρ g=>by simp [execOp,g _ _ hx,g _ _ u,X5 l hs v]) h
theorem QN {m s b off:Nat} {e:TypeId} {k:IntKind} {f:Int} (l:P.underlying U = some (.array m e)) (hs:∀ w,(sizeOf e).run P w = .ok s w) (hi:(decide (0 ≤ f) && decide (f < (m:Int))) = true) (hn:Nat.blt d n = true)
  (hx:B4 σ x = some (.pointer (some ⟨b,off,none⟩))) (u:B4 σ y = some (.int k f)) (h:G (.pointer (some ⟨b,off + f.toNat * s,none⟩))):∃ v,PR P n σ S d (.indexAddr U x y) T v ∧ G v :=
 ⟨_,⟨hn,fun ρ g w _ ag pos af gd=>by simp [execOp,g _ _ hx,g _ _ u,X5 l hs hi]⟩,h⟩
theorem Acf {pre arr g:List Ac} {j:Nat} {v:Ac} (h:arr[j]? = some v):KR (pre ++ (arr ++ g)) (pre.length + j) 1 = some [v]:=by
 have f:j < arr.length:=by
  rcases Nat.lt_or_ge j arr.length with e | e
  ·exact e
  ·rw [List.getElem?_eq_none e] at h; cases h
 unfold KR
 rw [Nat.ble_eq_true_of_le (by simp; omega)]
 simp only [cond_true,Option.some.injEq]
 rw [List.drop_append,List.drop_eq_nil_of_le (by omega),List.nil_append,show pre.length + j - pre.length = j by omega,List.drop_append_of_le_length (by omega),List.drop_eq_getElem_cons f]
 rw [Cq f] at h
 cases h
 rfl
theorem X2 {pre f vs:List Ac} {off sz:Nat} (h:KR pre off sz = some vs):KR (pre ++ f) off sz = some vs:=by
 unfold KR at h ⊢
 cases e:Nat.ble (off + sz) pre.length with
 | false=>rw [e] at h; cases h
 | true =>
  have g:=Nat.le_of_ble_eq_true e
  rw [e] at h
  rw [Nat.ble_eq_true_of_le (by simp; omega)]
  simp only [cond_true,Option.some.injEq] at h ⊢
  rw [← h,List.drop_append_of_le_length (by omega),List.take_append_of_le_length (by simp; omega)]
theorem VX {pre e vs:List Ac} {k off sz:Nat} (l:pre.length = k) (h:KR e off sz = some vs):KR (pre ++ e) (k + off) sz = some vs:=by
 unfold KR at h ⊢
 cases f:Nat.ble (off + sz) e.length with
 | false=>rw [f] at h; cases h
 | true =>
  have g:=Nat.le_of_ble_eq_true f
  rw [f] at h
  rw [Nat.ble_eq_true_of_le (by simp; omega)]
  simp only [cond_true,Option.some.injEq] at h ⊢
  rw [← h,List.drop_append,List.drop_eq_nil_of_le (by omega),List.nil_append,show k + off - pre.length = off by omega]
theorem YC {pre arr e:List Ac} {j:Nat} {v:Ac} (f:j < arr.length):Dp (pre ++ (arr ++ e)) (pre.length + j) [v] = pre ++ (arr.set j v ++ e):=by
 unfold Dp
 rw [List.take_append,List.take_of_length_le (by omega),show pre.length + j - pre.length = j by omega,List.take_append_of_le_length (by omega),List.drop_append,List.drop_eq_nil_of_le (by simp; omega),List.nil_append]
 simp only [List.length_singleton]
 rw [show pre.length + j + 1 - pre.length = j + 1 by omega,List.drop_append_of_le_length (by omega),List.set_eq_take_append_cons_drop,if_pos f]
 simp
theorem Xe {pre e:List Ac} {k off:Nat} {vs:List Ac} (f:pre.length = k):Dp (pre ++ e) (k + off) vs = pre ++ Dp e off vs:=by
 unfold Dp
 rw [List.take_append,List.take_of_length_le (by omega),show k + off - pre.length = off by omega,List.drop_append,List.drop_eq_nil_of_le (by omega),List.nil_append,show k + off + vs.length - pre.length = off + vs.length by omega]
 simp
theorem lda (i:Nat) {b j off:Nat} {V:TypeId} {pre arr f:List Ac} {v:Ac} (tf:TF P U 1 agg zv) (l:agg = false) (e:Mi σ n d x = some (.pointer (some ⟨b,off,none⟩))) (u:Sep w0.heap.size w L) (g:E7 L i = some (A9 b V (pre ++ (arr ++ f)))) (m:arr[j]? = some v)
  (s:off = pre.length + j) (h:WL P n ds rest ((d,v) :: σ) w Q):WL P n ds (⟨some d,.load U x,T,pos,af,none⟩ :: rest) σ w Q:=by
 subst s l
 exact MM tf (De e).1 (De e).2 u g (Acf m) rfl h
theorem sta (i:Nat) {b j off:Nat} {V:TypeId} {pre arr e:List Ac} {v:Ac} (tf:TF P U 1 agg zv) (u:B4 σ x = some (.pointer (some ⟨b,off,none⟩))) (f:B4 σ y = some v) (h1:v.oneCell' = true) (l:Below w0.heap.size w0 w) (hS:Sep w0.heap.size w L)
  (m:E7 L i = some (A9 b V (pre ++ (arr ++ e)))) (g:j < arr.length) (s:off = pre.length + j)
  (h:∀ w',(w.heap.size ≤ w'.heap.size ∧ (∀ k,k < w.heap.size → k ∉ [b] → w'.heap[k]? = w.heap[k]?) ∧ ∀ k ∈ [b],k ∈ [b] ∨ w.heap.size ≤ k) → Below w0.heap.size w0 w' → Sep w0.heap.size w' (MC L i (A9 b V (pre ++ (arr.set j v ++ e)))) → WL P n ds rest σ w' Q) :
  WL P n ds (⟨none,.store U x y,T,pos,af,none⟩ :: rest) σ w Q:=by
 subst s
 exact BD (vs:=[v]) tf u f (Ci h1) rfl l hS m (Nat.ble_eq_true_of_le (by simp; omega)) ⟨h1,trivial⟩ (YC g) h
theorem ldq (i:Nat) {b k off o:Nat} {V:TypeId} {pre e:List Ac} {v:Ac} (tf:TF P U sz agg zv) (f:Mi σ n d x = some (.pointer (some ⟨b,off,none⟩))) (hS:Sep w0.heap.size w L) (l:E7 L i = some (A9 b V (pre ++ e))) (g:pre.length = k) (s:off = k + o) (u:Tq agg e o sz = some v)
  (h:WL P n ds rest ((d,v) :: σ) w Q):WL P n ds (⟨some d,.load U x,T,pos,af,none⟩ :: rest) σ w Q:=by
 subst s
 obtain ⟨vs,h1,m⟩:=KU u
 exact MM tf (De f).1 (De f).2 hS l (VX g h1) m h
theorem ldr (i:Nat) {b off:Nat} {V:TypeId} {pre f:List Ac} {v:Ac} (u:TF P U sz agg zv) (e:Mi σ n d x = some (.pointer (some ⟨b,off,none⟩))) (s:Sep w0.heap.size w L) (g:E7 L i = some (A9 b V (pre ++ f))) (m:Tq agg pre off sz = some v)
  (h:WL P n ds rest ((d,v) :: σ) w Q):WL P n ds (⟨some d,.load U x,T,pos,af,none⟩ :: rest) σ w Q:=by
 obtain ⟨vs,h1,l⟩:=KU m
 exact MM u (De e).1 (De e).2 s g (X2 h1) l h
theorem stq (i:Nat) {b k off o:Nat} {V:TypeId} {pre g f:List Ac} {v:Ac} (tf:TF P U 1 agg zv) (hx:B4 σ x = some (.pointer (some ⟨b,off,none⟩))) (l:B4 σ y = some v) (h1:v.oneCell' = true) (u:Below w0.heap.size w0 w) (hS:Sep w0.heap.size w L)
  (hg:E7 L i = some (A9 b V (pre ++ g))) (hk:pre.length = k) (ho:off = k + o) (s:QM g o [v] some = some f)
  (h:∀ w',(w.heap.size ≤ w'.heap.size ∧ (∀ k,k < w.heap.size → k ∉ [b] → w'.heap[k]? = w.heap[k]?) ∧ ∀ k ∈ [b],k ∈ [b] ∨ w.heap.size ≤ k) → Below w0.heap.size w0 w' → Sep w0.heap.size w' (MC L i (A9 b V (pre ++ f))) → WL P n ds rest σ w' Q) :
  WL P n ds (⟨none,.store U x y,T,pos,af,none⟩ :: rest) σ w Q:=by
 subst ho
 obtain ⟨m,g2⟩:=QL s
 have e:Dp g o [v] = f:=Option.some.inj g2
 exact BD (vs:=[v]) tf hx l (Ci h1) rfl u hS hg (Nat.ble_eq_true_of_le (by simp at m ⊢; omega)) ⟨h1,trivial⟩ (by rw [Xe hk,e]) h
theorem Wi (i:Nat) {wS:Ag} {X:An} {b off:Nat} {V:TypeId} {pre f:List Ac} {v:Ac} (tf:TF P U sz agg zv) (m:Nat.blt d n = true) (u:B4 σ x = some (.pointer (some ⟨b,off,none⟩))) (hS:Sep w0.heap.size wS L) (g:E7 L i = some (A9 b V (pre ++ f))) (s:Tq agg pre off sz = some v) (e:b ∉ X)
  (h:G v):∃ v,PR P n σ (KeepX wS X) d (.load U x) T v ∧ G v:=by
 obtain ⟨vs,h1,l⟩:=KU s
 exact OU tf m u hS g (X2 h1) l e h
theorem YT (i:Nat) {wS:Ag} {X:An} {b k off o:Nat} {V:TypeId} {pre e:List Ac} {v:Ac} (tf:TF P U sz agg zv) (s:Nat.blt d n = true) (hx:B4 σ x = some (.pointer (some ⟨b,off,none⟩))) (hS:Sep w0.heap.size wS L) (l:E7 L i = some (A9 b V (pre ++ e))) (g:pre.length = k) (u:off = k + o) (hv:Tq agg e o sz = some v) (f:b ∉ X)
  (h:G v):∃ v,PR P n σ (KeepX wS X) d (.load U x) T v ∧ G v:=by
 subst u
 obtain ⟨vs,h1,m⟩:=KU hv
 exact OU tf s hx hS l (VX g h1) m f h
theorem Xx {e:Ty P α} {F:An} {v:Ac} {l:List α} {m:TypeId} (s:P.underlying T = some (.slice m)) (ho:ownS e F w v l) (hl:l = [] → v = .slice none 0 0) (hn:Nat.blt d n = true) (hx:B4 σ x = some v) (u:B4 σ y = some (.slice none 0 0))
  (h:WL P n ds rest ((d,.bool (!l.isEmpty)) :: σ) w Q):WL P n ds (⟨some d,.binOp .neq T x y U,TB,pos,af,none⟩ :: rest) σ w Q:=by
 have aa:∃ a k c,v = .slice a k c ∧ (!a.isNone) = !l.isEmpty:=by
  rcases ho with ⟨rfl,rfl,_⟩ | ⟨g,cap,ai,css,Fs,hv,_⟩
  ·exact ⟨none,0,0,rfl,rfl⟩
  ·subst hv
   cases l with
   | nil=>cases hl rfl
   | cons a l=>exact ⟨_,_,_,rfl,rfl⟩
 obtain ⟨a,k,c,rfl,e1⟩:=aa
 refine CF hn (fun ρ f=>?_) h
 rw [← e1]
 simp [execOp,f _ _ hx,f _ _ u,eqGuard,run_neq_slice_nil _ T m a k c s]
end
end
end Go.Proofs.YtellehgihceicaaGreatDoor
namespace Go.Proofs.YtellehgihceicaaGreatDoor
open Go Go.RowKit
section
variable {P:Program} {α:Type} {n:Nat} {σ:E2} {S:Ag → Prop} {Q:Exit → Act → Ag → Prop} {w w0 wS:Ag} {ops:List Oper} {fuel:Nat} {li:List Bool} {L:List Res} {X:An} {d:Nat} {op:Op} {T U:TypeId} {pos:String} {af:Array Edge} {ds:List (Af Tmp)} {rest:List Oper} {x y z:Operand} {G:Ac → Prop} {sz:Nat} {agg:Bool} {zv:Ac}
theorem AZ (i:Nat) {g:Nat} {s:Tmp} {b want:Bool} (e:(ops[i]?,(ops.map (·.dst))[g]?,G4 σ s) = (some ⟨some d,op,T,pos,af,some (g,want)⟩,some (some s),some (.bool b))) (f:Jb Q) (aa:b = !want) (m:S w) (h:WH P n ops S fuel (li.set i true) ((d,undef) :: σ) w Q)
  (v:Region.noSelect ops.toArray = true:=by kernel_rfl) (hf:Region.free .any ops.toArray li.toArray i = true:=by kernel_rfl) (l:(Region.ready .any ops.toArray li.toArray).contains i = true:=by kernel_rfl) (u:Nat.blt d n = true:=by kernel_rfl):WH P n ops S (fuel + 1) li σ w Q :=
 Adi (Prod.mk.inj e).1 v hf l f (Prod.mk.inj (Prod.mk.inj e).2).1 (Prod.mk.inj (Prod.mk.inj e).2).2 aa u m h
theorem E4 (i:Nat) {g:Nat} {s:Tmp} {want:Bool} (e:(ops[i]?,(ops.map (·.dst))[g]?,G4 σ s) = (some ⟨some d,op,T,pos,af,some (g,want)⟩,some (some s),some undef)) (f:Jb Q) (m:S w) (h:WH P n ops S fuel (li.set i true) ((d,undef) :: σ) w Q)
  (v:Region.noSelect ops.toArray = true:=by kernel_rfl) (hf:Region.free .any ops.toArray li.toArray i = true:=by kernel_rfl) (l:(Region.ready .any ops.toArray li.toArray).contains i = true:=by kernel_rfl) (u:Nat.blt d n = true:=by kernel_rfl):WH P n ops S (fuel + 1) li σ w Q :=
 Aby (Prod.mk.inj e).1 v hf l f (Prod.mk.inj (Prod.mk.inj e).2).1 (Prod.mk.inj (Prod.mk.inj e).2).2 u m h
theorem BG (i:Nat) {g:Nat} {s:Tmp} {b want:Bool} (e:(ops[i]?,(ops.map (·.dst))[g]?,G4 σ s) = (some ⟨some d,op,T,pos,af,some (g,want)⟩,some (some s),some (.bool b))) (f:Jb Q) (aa:b = want) (m:S w) (h:∃ v,PR P n σ S d op T v ∧ WH P n ops S fuel (li.set i true) ((d,v) :: σ) w Q)
  (u:Region.noSelect ops.toArray = true:=by kernel_rfl) (hf:Region.free .any ops.toArray li.toArray i = true:=by kernel_rfl) (l:(Region.ready .any ops.toArray li.toArray).contains i = true:=by kernel_rfl):WH P n ops S (fuel + 1) li σ w Q :=
 Z4 (Prod.mk.inj e).1 u hf l f (Prod.mk.inj (Prod.mk.inj e).2).1 (Prod.mk.inj (Prod.mk.inj e).2).2 aa m h
theorem Ba (h:∀ a,St n σ a → Q .normal a w) (e:Region.ready .any ops.toArray li.toArray = []:=by kernel_rfl):WH P n ops S fuel li σ w Q:=Abz e h
theorem Ax (i:Nat) {v:Ac} (e:(ops[i]?,Mi σ n d x) = (some ⟨some d,.move x,T,pos,af,none⟩,some v)) (f:Jb Q) (l:S w) (h:WH P n ops S fuel (li.set i true) ((d,v) :: σ) w Q)
  (m:Region.noSelect ops.toArray = true:=by kernel_rfl) (s:Region.free .any ops.toArray li.toArray i = true:=by kernel_rfl) (g:(Region.ready .any ops.toArray li.toArray).contains i = true:=by kernel_rfl):WH P n ops S (fuel + 1) li σ w Q :=
 Ad i (Prod.mk.inj e).1 f l (Da (De (Prod.mk.inj e).2).1 (De (Prod.mk.inj e).2).2 h) m s g
theorem CQ (i:Nat) {b off:Nat} {V:TypeId} {cs:List Ac} {v:Ac} (s:TF P U sz agg zv) (f:Mi σ n d x = some (.pointer (some ⟨b,off,none⟩))) (m:Sep w0.heap.size wS L) (e:(E7 L i,Tq agg cs off sz) = (some (A9 b V cs),some v)) (g:b ∉ X)
  (h:G v):∃ v,PR P n σ (KeepX wS X) d (.load U x) T v ∧ G v:=by
 obtain ⟨vs,h1,l⟩:=KU (Prod.mk.inj e).2
 exact OU s (De f).1 (De f).2 m (Prod.mk.inj e).1 h1 l g h
theorem BN {S':Nat → Prop} {p:Addr} {cs:List Ac} {v:Ac} (m:TF P U sz agg zv) (e:Mi σ n d x = some (.pointer (some p))) (f:∀ w,S w → EAt S' w p cs) (g:Tq agg cs 0 sz = some v)
  (h:G v):∃ v,PR P n σ S d (.load U x) T v ∧ G v:=by
 obtain ⟨vs,h1,l⟩:=KU g
 exact YS m (De e).1 (De e).2 f h1 l h
theorem C7 {f o b off:Nat} (g:Fu P U f o = true) (e:Mi σ n d x = some (.pointer (some ⟨b,off,none⟩)))
  (h:G (.pointer (some ⟨b,off + o,none⟩))):∃ v,PR P n σ S d (.fieldAddr U x f) T v ∧ G v :=
 ZT g (De e).1 (De e).2 rfl h
theorem wo {g:Nat} {s:Tmp} {b want:Bool} {op:Op} (e:(Nat.blt d n,ds[g]?,G4 σ s) = (true,some (some s),some (.bool b))) (f:b = !want)
  (h:WL P n ds rest ((d,undef) :: σ) w Q):WL P n ds (⟨some d,op,T,pos,af,some (g,want)⟩ :: rest) σ w Q :=
 Ab1 (Prod.mk.inj e).1 (Prod.mk.inj (Prod.mk.inj e).2).1 (Prod.mk.inj (Prod.mk.inj e).2).2 f h
theorem wn {g:Nat} {s:Tmp} {b want:Bool} {e:Af Tmp} {op:Op} (f:(ds[g]?,G4 σ s) = (some (some s),some (.bool b))) (l:b = want)
  (h:WL P n ds (⟨e,op,T,pos,af,none⟩ :: rest) σ w Q):WL P n ds (⟨e,op,T,pos,af,some (g,want)⟩ :: rest) σ w Q :=
 Adm (Prod.mk.inj f).1 (Prod.mk.inj f).2 l h
theorem Ap (k:Nat) {ops:List Oper} {σ':E2} (h:YZ n k ops σ = some ([],σ')) (e:∀ a,St n σ' a → Q .normal a w):WL P n ds ops σ w Q:=wp k h (Ah e)
theorem Al (k:Nat) {id:Nat} {l:List Oper} {y:Code} {σ':E2} (h:YZ n k l σ = some ([],σ')) (f:W P n y σ' w Q):W P n (.seq (.region id l.toArray false) y) σ w Q :=
 Ak fun K e=>wp k h (Ah (e f))
theorem cm {f:FuncId} {e:Func} {c:Code} {g:List Ac} {w:Ag} {R:Ending → Ag → Prop} {n:Nat} {σ:E2}
  (s:P.funcs[f]? = some e) (m:e.ntmps = n) (l:(e.body,g.length + (n - g.length),σ) = (some c,n,g.zipIdx.map (fun p=>(p.2,p.1))))
  (h:∀ Q:Exit → Act → Ag → Prop,(∀ a w,bodyPost P e R .ret a w → Q .ret a w) → Jb Q → Below w.heap.size w w → Sep w.heap.size w [] → W P n c σ w Q):Calls P f g.toArray w R :=
 GA s (Prod.mk.inj l).1 m (Prod.mk.inj (Prod.mk.inj l).2).1 (Prod.mk.inj (Prod.mk.inj l).2).2 fun Q a b=>h Q a b (Below.refl _ _) (Sep.nil _ _)
theorem tm {u v:Ag} (h:Below w0.heap.size w0 u) (e:Below u.heap.size u v):Below w0.heap.size w0 v:=h.trans (e.mono h.size)
end
end Go.Proofs.YtellehgihceicaaGreatDoor
