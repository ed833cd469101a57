/-
 CORE, 20: the steps of a walk in fewer words. Over any program.
-/
import GoSem.Core.View
import Derived.Laws.Sem
import Derived.Test.YtellehgihceicaaGreatDoorRows
import Derived.WalkKit
import Derived.Laws.StructEq
import Derived.OrdersHeld
import Derived.Laws.Strings2
import Derived.Laws.BytesString
import Derived.Laws.Externs
import Derived.Lib.Bytealg
import Derived.ProofKit
import Derived.OpenShut
import Derived.Deep.Slices
import Derived.Laws.Cover3
set_option linter.unusedVariables false
set_option linter.unusedSimpArgs false
set_option maxHeartbeats 1600000
namespace Go.Proofs.YtellehgihceicaaGreatDoor
open Go
abbrev Akg:=List (Int×Int)
abbrev Akh:=List (Int×Int×Int×Int)
abbrev Aki:=(Int×Int)×(Int×Int)×Int
abbrev Akj:=List (Int×Int×Int)
abbrev Akk:=(List Bool)×Int×(List Int)×Int
abbrev Akl:=List (List Int)
abbrev Akm:=(List Int)×Int×Int
abbrev Akn:=(List Int)×Int
abbrev Ac:=Value
abbrev Af:=World
abbrev Ap:=List Nat
abbrev Ag:=UInt8
abbrev Ae:=Option
theorem Bj{α:Type}{p:α→Prop}{a:α}{l:List α}:(∀ x,x ∈ a::l→p x)↔p a∧∀ x,x ∈ l→p x:=List.forall_mem_cons
theorem AM{a b:Nat}:¬a<b↔b≤a:=Nat.not_lt
theorem AV{α:Type}{a:α}{l m:List α}:a ∈ l++m↔a ∈ l∨a ∈ m:=List.mem_append
theorem BP{α:Type}{l:List α}{i:Nat}(h:i<l.length):l[i]? = some l[i]:=List.getElem?_eq_getElem h
theorem Cy{α:Type}{l m:List α}:(l++m).length=l.length+m.length:=List.length_append
theorem C9{p:Prop}[Decidable p]:(decide p=true)=p:=decide_eq_true_eq
theorem Cq(a b:Bool):((a&&b)=true)=(a=true∧b=true):=Bool.and_eq_true a b
theorem Aa{α β:Type}(a:α)(f:α→Ae β):Option.bind (some a) f=f a:=rfl
theorem Ax{α:Type}{a:α}{l:List α}(m:List α)(h:a ∈ l):a ∈ l++m:=List.mem_append_left m h
theorem Bm{α:Type}{a:α}(l:List α){m:List α}(h:a ∈ m):a ∈ l++m:=List.mem_append_right l h
theorem AB(n:Nat):n<n+1:=Nat.lt_succ_self n
theorem Az{a b c:Nat}(h:a≤b)(e:b≤c):a≤c:=Nat.le_trans h e
def Ah(x:Int):Int:=IntKind.wrap .i64 x
def Bi(x:Int):Int:=IntKind.wrap .u64 x
def NP(x:Int):Int:=IntKind.wrap .u8 x
def AG{α:Type}(l:List α)(i:Int):Ae α:=if 0≤i then l[i.toNat]? else none
def sl{α:Type}(l:List α)(lo hi:Int):Ae (List α):=if 0≤lo∧lo≤hi∧hi≤l.length then some ((l.take hi.toNat).drop lo.toNat) else none
def BB{α:Type}(l m:List α):Ae (List α):=if l.length+m.length≤1073741824 then some (l++m) else none
def Uh{α:Type}(n:Int)(x:α):Ae (List α):=if 0≤n∧n≤1073741824 then some (List.replicate n.toNat x) else none
def BL{α:Type}(l:List α)(i:Int)(x:α):List α:=l.set i.toNat x
def LJ(l:List Int):List Ag:=l.map fun x=>UInt8.ofNat x.toNat
def MY(l:List Ag)(c:Int):Int:=match (List.range l.length).find? (fun i=>l[i]? == some c.toNat.toUInt8) with
 | some i=>(i:Int)
 | none=>-1
def Abr(l:List Ag)(c:Int):Int:=((l.count c.toNat.toUInt8:Nat):Int)
def B8(k:IntKind)(a b:Int):Int:=k.wrap ((BitVec.ofInt k.bits a &&& BitVec.ofInt k.bits b).toNat:Int)
def Vt(k:IntKind)(a b:Int):Int:=k.wrap ((BitVec.ofInt k.bits a ||| BitVec.ofInt k.bits b).toNat:Int)
def Up(k:IntKind)(a b:Int):Int:=k.wrap ((BitVec.ofInt k.bits a ^^^ BitVec.ofInt k.bits b).toNat:Int)
def Bu(k:IntKind)(a b:Int):Int:=a.fdiv (2 ^ (min b.toNat k.bits))
def LL(k:IntKind)(a b:Int):Int:=k.wrap (a*2 ^ (min b.toNat k.bits))
def Gj(a b:Int):Int:=if a<b then b else a
def Fq(a b:Int):Int:=if b<a then b else a
def jK0{R:Type}(rest:Ae R)(body:Ae R→Ae R):Ae R:=body rest
def Bf{A R:Type}(rest:A→Ae R)(body:(A→Ae R)→Ae R):Ae R:=body rest
def Fx{A B R:Type}(rest:A→B→Ae R)(body:(A→B→Ae R)→Ae R):Ae R:=body rest
def Sa{A B C R:Type}(rest:A→B→C→Ae R)(body:(A→B→C→Ae R)→Ae R):Ae R:=body rest
def YR{A B C D R:Type}(rest:A→B→C→D→Ae R)(body:(A→B→C→D→Ae R)→Ae R):Ae R:=body rest
def jK5{A B C D E R:Type}(rest:A→B→C→D→E→Ae R)(body:(A→B→C→D→E→Ae R)→Ae R):Ae R:=body rest
def Wl(x:Int):Prop:=0≤x∧x≤255
def Ab4{α:Type}(G:α→Prop)(l:List α):Prop:=l.length≤9223372036854775807∧∀ x ∈ l,G x
def Ajy{α:Type}(_:α):Prop:=True
def FU:Nat:=4611686018427387904
def P5{γ:Type}(l:List γ)(j:Nat)(u:γ):Ae (List γ):=if j<l.length then some (l.set j u) else none
end Go.Proofs.YtellehgihceicaaGreatDoor
namespace Go.Proofs.YtellehgihceicaaGreatDoor
open Go

abbrev EY:=List (Nat×Ac)
def Hg:EY→Nat→Ae Ac
 | [],_=>none
 | (k,v)::r,i=>bif Nat.beq k i then some v else Hg r i
structure St (n:Nat) (σ:EY) (a:Act):Prop where
 size:a.tmps.size=n
 defs:a.defers=[]
 get:∀ i v,Hg σ i=some v→a.tmps[i]? = some v
def B5(σ:EY):Operand→Ae Ac
 | .tmp t=>Hg σ t
 | .const v=>some v
 | .global g=>some (.pointer (some ⟨g,0,none⟩))
 | .func f=>some (.func (.func f) #[] #[])
theorem St.eval{n:Nat}{σ:EY}{a:Act}(h:St n σ a){x:Operand}{v:Ac}(e:B5 σ x=some v):a.eval x=v:=by
 cases x with
 | tmp t =>
  have:=h.get t v e
  simp [Act.eval,this]
 | const u=>exact Option.some.inj e
 | global g=>exact Option.some.inj e
 | func f=>exact Option.some.inj e
theorem St.put{n:Nat}{σ:EY}{a:Act}(h:St n σ a){d:Nat}(v:Ac)(g:Nat.blt d n=true):St n ((d,v)::σ) (a.put (some d) v):=by
 have m:d<n:=by simpa using g
 refine ⟨by simp [Act.put,h.size],h.defs,fun i u f=>?_⟩
 simp only [Act.put]
 rw [Hg] at f
 by_cases e:d=i
 subst e
 simp [cond] at f
 rw [Array.getElem?_setIfInBounds_self_of_lt (by rw [h.size]; exact m),f]
 have:Nat.beq d i=false:=by
  cases l:Nat.beq d i with
  | false=>rfl
  | true=>exact absurd (Nat.eq_of_beq_eq_true l) e
 simp [this] at f
 rw [Array.getElem?_setIfInBounds_ne e]
 exact h.get i u f
def Sub(σ:EY):EY→Prop
 | []=>True
 | (i,v)::r=>Hg σ i=some v∧Sub σ r
theorem Sub.get{σ:EY}:∀{τ:EY},Sub σ τ→∀ i v,Hg τ i=some v→Hg σ i=some v
 | [],_,i,v,h=>by simp [Hg] at h
 | (k,u)::r,hs,i,v,h=>by
  rw [Hg] at h
  cases f:Nat.beq k i with
  | true =>
   simp [f] at h
   have e:k=i:=Nat.eq_of_beq_eq_true f
   rw [← e,← h]
   exact hs.1
  | false =>
   simp [f] at h
   exact Sub.get hs.2 i v h
theorem St.sub{n:Nat}{σ τ:EY}{a:Act}(h:St n σ a)(f:Sub σ τ):St n τ a :=
 ⟨h.size,h.defs,fun i v e=>h.get i v (f.get i v e)⟩
theorem St.init{n:Nat}{f:List Ac}{σ:EY}(hn:f.length+(n-f.length)=n)(hσ:σ=f.zipIdx.map (fun p=>(p.2,p.1))) :
  St n σ { tmps:=f.toArray++Array.replicate (n-f.toArray.size) undef,defers:=[] }:=by
 subst hσ
 refine ⟨by simp; omega,rfl,fun i v h=>?_⟩
 have ac:∀(l:List Ac)(k:Nat),Hg ((l.zipIdx k).map (fun p=>(p.2,p.1))) i=some v→k≤i∧l[i-k]? = some v:=by
  intro l
  induction l with
  | nil=>intro k h; simp [Hg] at h
  | cons x r ih =>
   intro k m
   simp only [List.zipIdx_cons,List.map_cons,Hg] at m
   cases s:Nat.beq k i with
   | true =>
    simp only [s,cond_true,Option.some.injEq] at m
    have e:k=i:=Nat.eq_of_beq_eq_true s
    subst e
    simp [m]
   | false =>
    simp [s] at m
    obtain ⟨h1,g⟩:=ih (k+1) m
    refine ⟨by omega,?_⟩
    rw [show i-k=(i-(k+1))+1 by omega,List.getElem?_cons_succ]
    exact g
 have g:=(ac f 0 h).2
 simp only [Nat.sub_zero] at g
 have ab:i<f.length:=by
  rcases Nat.lt_or_ge i f.length with u|u
  exact u
  rw [List.getElem?_eq_none u] at g; cases g
 show (f.toArray++Array.replicate (n-f.toArray.size) undef)[i]? = some v
 rw [Array.getElem?_append_left (by simpa using ab)]
 simpa using g

def W5(ops:Array Oper):List (Ae Tmp):=ops.toList.map (·.dst)
def WL(P:Program)(n:Nat)(ds:List (Ae Tmp))(l:List Oper)(σ:EY)(w:Af)(Q:Exit→Act→Af→Prop):Prop :=
 ∀ ops,W5 ops=ds→∀ a,St n σ a→wpList P ops Q l a w
def W(P:Program)(n:Nat)(c:Code)(σ:EY)(w:Af)(Q:Exit→Act→Af→Prop):Prop :=
 ∀ a,St n σ a→c.wp P Q a w
section
variable {P:Program} {n:Nat} {σ:EY} {w:Af} {Q:Exit→Act→Af→Prop}

theorem RN{x y:Code}(h:∀ K:Act→Af→Prop,(∀ σ w,W P n y σ w Q→∀ a,St n σ a→K a w)→W P n x σ w (Exit.then K Q)):W P n (.seq x y) σ w Q :=
 fun a e=>wp_seq (h _ (fun _ _ f a e=>f a e) a e)
theorem Aq{id:Nat}{l:List Oper}(h:WL P n (l.map (·.dst)) l σ w Q):W P n (.region id l.toArray false) σ w Q :=
 fun a e=>wp_region_lit (h l.toArray (by simp [W5]) a e)
theorem SZ{c:Operand}{x y:Code}{t:Bool}(f:B5 σ c=some (.bool t))(g:t=true→W P n x σ w Q)(l:t=false→W P n y σ w Q) :
  W P n (.cond c x y) σ w Q :=
 fun a e=>wp_cond_split (e.eval f) (fun h=>g h a e) (fun h=>l h a e)
theorem Af0{c:Operand}{x y:Code}{t:Bool}(f:B5 σ c=some (.bool t))(g:t=false)(h:W P n y σ w Q):W P n (.cond c x y) σ w Q :=
 SZ f (fun e=>by rw [g] at e; cases e) (fun _=>h)
theorem A0{id:Nat}{c:Code}(h:W P n c σ w (Exit.inBlock id Q)):W P n (.block id c) σ w Q :=
 fun a e=>wp_block (h a e)
theorem Au(h:∀ a,St n σ a→Q .normal a w):W P n .skip σ w Q:=fun a e=>wp_skip (h a e)
theorem Bb{id:Nat}(h:∀ a,St n σ a→Q (.exit id) a w):W P n (.exit id) σ w Q:=fun a e=>wp_exit (h a e)
theorem Aw(h:∀ a,St n σ a→Q .ret a w):W P n .ret σ w Q:=fun a e=>wp_ret (h a e)
theorem Ai{ds:List (Ae Tmp)}(h:∀ a,St n σ a→Q .normal a w):WL P n ds [] σ w Q:=fun _ _ a e=>wpList_nil (h a e)

open Classical in
theorem Aiw{c:Code}(I:Nat→Act→Af→Prop)(m0:Nat)(h0:∀ a,St n σ a→I m0 a w)
  (hr:∀ m a w,I m a w→c.wp P (Exit.then (fun s w'=>∃ f,f<m∧I f s w') Q) a w):W P n (.loop c) σ w Q:=by
 intro a ha
 have v:∀ a w,(∃ m,I m a w)→∃ m,I m a w∧∀ k,I k a w→m≤k:=by
  intro a w ⟨m,hm⟩
  induction m using Nat.strongRecOn with
  | _ m ih =>
   by_cases hk:∃ k,k<m∧I k a w
   obtain ⟨k,l,g⟩:=hk
   exact ih k l g
   exact ⟨m,hm,fun k g=>Nat.le_of_not_lt fun l=>hk ⟨k,l,g⟩⟩
 refine wp_loop (fun a w=>∃ m,I m a w) (fun a w=>if h:∃ m,I m a w then Classical.choose (v a w h) else 0) ⟨m0,h0 a ha⟩ ?_
 intro a w g
 have hs:=Classical.choose_spec (v a w g)
 refine Code.wp_mono (fun e s w' hq=>?_) (hr _ a w hs.1)
 cases e with
 | normal =>
  obtain ⟨f,l,u⟩:=hq
  refine ⟨⟨f,u⟩,?_⟩
  rw [dif_pos g,dif_pos (⟨f,u⟩:∃ m,I m s w')]
  have aj:=Classical.choose_spec (v s w' ⟨f,u⟩)
  exact Nat.lt_of_le_of_lt (aj.2 f u) l
 | _=>exact hq

variable {ds:List (Ae Tmp)} {d:Nat} {T:TypeId} {pos:String} {af:Array Edge} {rest:List Oper} {x y z:Operand}
theorem C6{op:Op}{v:Ac}{w':Af}(g:Nat.blt d n=true)
  (l:∀ ρ:Operand→Ac,(∀ x v,B5 σ x=some v→ρ x=v)→(execOp ρ ⟨some d,op,T,pos,af,none⟩).run P w=.ok (.value v) w')
  (h:WL P n ds rest ((d,v)::σ) w' Q):WL P n ds (⟨some d,op,T,pos,af,none⟩::rest) σ w Q:=by
 intro ops s a e
 refine wpList_plain rfl fun K f=>?_
 unfold Oper.wp
 rw [l a.eval (fun x v m=>e.eval m)]
 exact f _ _ (h ops s _ (e.put v g))
theorem Ahf{op:Op}{w':Af}
  (g:∀ ρ:Operand→Ac,(∀ x v,B5 σ x=some v→ρ x=v)→(execOp ρ ⟨none,op,T,pos,af,none⟩).run P w=.ok .skip w')
  (h:WL P n ds rest σ w' Q):WL P n ds (⟨none,op,T,pos,af,none⟩::rest) σ w Q:=by
 intro ops m a e
 refine wpList_plain rfl fun K f=>?_
 unfold Oper.wp
 rw [g a.eval (fun x v l=>e.eval l)]
 exact f _ _ (h ops m _ e)
theorem LE{v:Ac}(f:Nat.blt d n=true)(g:B5 σ x=some v)(h:WL P n ds rest ((d,v)::σ) w Q) :
  WL P n ds (⟨some d,.move x,T,pos,af,none⟩::rest) σ w Q :=
 C6 f (fun ρ e=>by simp [execOp,e _ _ g]) h
theorem Qf{v:Ac}(f:Nat.blt d n=true)(g:B5 σ x=some v)(h:WL P n ds rest ((d,v)::σ) w Q) :
  WL P n ds (⟨some d,.assign x,T,pos,af,none⟩::rest) σ w Q :=
 C6 f (fun ρ e=>by simp [execOp,e _ _ g]) h
theorem A8{v:Ac}{b:Bool}(g:Nat.blt d n=true)(l:B5 σ x=some (.bool b))(m:b=true)(f:B5 σ y=some v)(h:WL P n ds rest ((d,v)::σ) w Q) :
  WL P n ds (⟨some d,.pick x y z,T,pos,af,none⟩::rest) σ w Q :=
 C6 g (fun ρ e=>by subst m; simp [execOp,e _ _ l,e _ _ f,asBool]) h
theorem Ak{v:Ac}{b:Bool}(g:Nat.blt d n=true)(l:B5 σ x=some (.bool b))(m:b=false)(f:B5 σ z=some v)(h:WL P n ds rest ((d,v)::σ) w Q) :
  WL P n ds (⟨some d,.pick x y z,T,pos,af,none⟩::rest) σ w Q :=
 C6 g (fun ρ e=>by subst m; simp [execOp,e _ _ l,e _ _ f,asBool]) h
theorem Ai0{g:Nat}{s:Tmp}{b want:Bool}{l:Ae Tmp}{op:Op}(f:ds[g]? = some (some s))(hv:Hg σ s=some (.bool b))(hb:b=want)
  (h:WL P n ds (⟨l,op,T,pos,af,none⟩::rest) σ w Q):WL P n ds (⟨l,op,T,pos,af,some (g,want)⟩::rest) σ w Q:=by
 intro ops v a m
 have hd:(ops[g]?).bind (·.dst)=some s:=by
  rw [← v] at f
  simp only [W5,List.getElem?_map,Array.getElem?_toList] at f
  cases u:ops[g]? with
  | none=>rw [u] at f; cases f
  | some o'=>rw [u] at f; simpa using f
 have hy:yielded ops a.tmps g=some want:=by
  unfold yielded
  rw [hd]
  simp [m.get s _ hv,hb]
 have e:=h ops v a m
 unfold wpList at e ⊢
 simp only [Region.wanted,hy,if_true,beq_self_eq_true] at e ⊢
 rcases e with e|e
 exact .inl e
 exact .inr e
theorem Ahg{g:Nat}{s:Tmp}{b want:Bool}{op:Op}(v:Nat.blt d n=true)(e:ds[g]? = some (some s))(hv:Hg σ s=some (.bool b))(hb:b=!want)
  (h:WL P n ds rest ((d,undef)::σ) w Q):WL P n ds (⟨some d,op,T,pos,af,some (g,want)⟩::rest) σ w Q:=by
 intro ops m a f
 have hd:(ops[g]?).bind (·.dst)=some s:=by
  rw [← m] at e
  simp only [W5,List.getElem?_map,Array.getElem?_toList] at e
  cases l:ops[g]? with
  | none=>rw [l] at e; cases e
  | some o'=>rw [l] at e; simpa using e
 have u:yielded ops a.tmps g=some (!want):=by
  unfold yielded
  rw [hd]
  simp [f.get s _ hv,hb]
 unfold wpList
 rw [if_neg (by simp [Region.wanted,u])]
 exact h ops m _ (f.put undef v)
theorem D5{g:Nat}{s:Tmp}{want:Bool}{op:Op}(v:Nat.blt d n=true)(e:ds[g]? = some (some s))(hv:Hg σ s=some undef)
  (h:WL P n ds rest ((d,undef)::σ) w Q):WL P n ds (⟨some d,op,T,pos,af,some (g,want)⟩::rest) σ w Q:=by
 intro ops m a f
 have hd:(ops[g]?).bind (·.dst)=some s:=by
  rw [← m] at e
  simp only [W5,List.getElem?_map,Array.getElem?_toList] at e
  cases l:ops[g]? with
  | none=>rw [l] at e; cases e
  | some o'=>rw [l] at e; simpa using e
 have u:yielded ops a.tmps g=none:=by
  unfold yielded
  rw [hd]
  simp [f.get s _ hv,undef]
 unfold wpList
 rw [if_neg (by simp [Region.wanted,u])]
 exact h ops m _ (f.put undef v)
variable {k:IntKind} {a b:Int} {U:TypeId}
theorem O0(g:Nat.blt d n=true)(l:B5 σ x=some (.int k a))(f:B5 σ y=some (.int k b))(m:b≠0)(h:WL P n ds rest ((d,.int k (k.wrap (a.tdiv b)))::σ) w Q) :
  WL P n ds (⟨some d,.binOp .quo T x y U,T,pos,af,none⟩::rest) σ w Q :=
 C6 g (fun ρ e=>by simp [execOp,e _ _ l,e _ _ f,eqGuard,binOp,Op.intDiv,m]) h
theorem QR(g:Nat.blt d n=true)(l:B5 σ x=some (.int k a))(f:B5 σ y=some (.int k b))(m:b≠0)(h:WL P n ds rest ((d,.int k (a.tmod b))::σ) w Q) :
  WL P n ds (⟨some d,.binOp .rem T x y U,T,pos,af,none⟩::rest) σ w Q :=
 C6 g (fun ρ e=>by simp [execOp,e _ _ l,e _ _ f,eqGuard,binOp,Op.intDiv,m]) h
variable {TB:TypeId}
variable {p q:Bool}
theorem Wg(e:P.underlying T=some .bool):(Op.equal T (.bool p) (.bool q)).run P w=.ok (p==q) w:=by
 unfold Op.equal Op.maxDepth
 rw [Op.equalIn]
 simp only [Sem.run_bind,run_underlying e,Result.andThen_ok,Sem.run_pure]
theorem ZS(m:P.underlying T=some .bool)(g:Nat.blt d n=true)(l:B5 σ x=some (.bool p))(f:B5 σ y=some (.bool q))(h:WL P n ds rest ((d,.bool (p != q))::σ) w Q) :
  WL P n ds (⟨some d,.binOp .neq T x y U,TB,pos,af,none⟩::rest) σ w Q :=
 C6 g (fun ρ e=>by simp only [execOp,e _ _ l,e _ _ f,eqGuard_at_bool,binOp,Sem.run_bind,Sem.run_pure,Wg m,Result.andThen_ok,bne]) h
theorem SW{f:List Operand}{vs:List Ac}(e:f.map (B5 σ)=vs.map some)(ρ:Operand→Ac)(h:∀ x v,B5 σ x=some v→ρ x=v):f.map ρ=vs:=by
 induction f generalizing vs with
 | nil=>cases vs <;> simp_all
 | cons x r g =>
  cases vs with
  | nil=>simp at e
  | cons v s =>
   simp only [List.map_cons,List.cons.injEq] at e ⊢
   exact ⟨h _ _ e.1,g e.2⟩
theorem A7{f:FuncId}{g:List Operand}{m:Array TypeId}{vs:List Ac}{R:Ending→Af→Prop}(hn:Nat.blt d n=true)
  (ac:∀ args w,(callFunc f args).run P w=.ok (.enter f args) w) (hc:Calls P f vs.toArray w R) (l:g.map (B5 σ)=vs.map some)
  (h:∀ e w',R e w'→∃ v,e=.returned v∧WL P n ds rest ((d,v)::σ) w' Q) :
  WL P n ds (⟨some d,.call ⟨.value (.func f),g.toArray,m⟩,T,pos,af,none⟩::rest) σ w Q:=by
 intro ops ho a s
 refine wpList_plain rfl fun K hK=>?_
 unfold Oper.wp
 have he:(execOp a.eval ⟨some d,.call ⟨.value (.func f),g.toArray,m⟩,T,pos,af,none⟩).run P w=.ok (.enter f vs.toArray) w:=by
  have u:=SW l a.eval (fun x v l=>s.eval l)
  simp [execOp,resolve,Deferred.ofValue,invoke,ac,u,Act.eval]
 rw [he]
 simp only [Oper.upon]
 refine hc.mono fun e w' hR=>?_
 obtain ⟨v,rfl,hv⟩:=h e w' hR
 exact hK _ _ (hv ops ho _ (s.put v hn))
end
theorem Zh{P:Program}{f:FuncId}{g:Func}{c:Code}{e:List Ac}{w:Af}{R:Ending→Af→Prop}{n:Nat}
  (v:P.funcs[f]? = some g) (s:g.body=some c) (l:g.ntmps=n) (u:e.length+(n-e.length)=n) {σ:EY} (m:σ=e.zipIdx.map (fun p=>(p.2,p.1)))
  (h:W P n c σ w (bodyPost P g R)):Calls P f e.toArray w R:=by
 subst l
 exact calls_of_wp v s (h _ (St.init u m))
end Go.Proofs.YtellehgihceicaaGreatDoor
namespace Go.Proofs.YtellehgihceicaaGreatDoor
open Go Go.RowKit

def Z3{A B C:Type}(R:A→B→C→Prop):List A→List B→List C→Prop
 | [],[],[]=>True
 | a::xs,b::ys,c::zs=>R a b c∧Z3 R xs ys zs
 | _,_,_=>False
section
variable {A B C:Type} {R R':A→B→C→Prop}
theorem Z3.mono(h:∀ a b c,R a b c→R' a b c):∀{e:List A}{f:List B}{zs:List C},Z3 R e f zs→Z3 R' e f zs
 | [],[],[],_=>trivial
 | _::_,_::_,_::_,hz=>⟨h _ _ _ hz.1,Z3.mono h hz.2⟩
 | [],[],_::_,hz=>hz.elim
 | [],_::_,_,hz=>hz.elim
 | _::_,[],_,hz=>hz.elim
 | _::_,_::_,[],hz=>hz.elim
theorem Z3.len:∀{e:List A}{f:List B}{zs:List C},Z3 R e f zs→e.length=zs.length∧f.length=zs.length
 | [],[],[],_=>⟨rfl,rfl⟩
 | _::_,_::_,_::_,hz=>by
  have:=Z3.len hz.2
  simp [this.1,this.2]
 | [],[],_::_,hz=>hz.elim
 | [],_::_,_,hz=>hz.elim
 | _::_,[],_,hz=>hz.elim
 | _::_,_::_,[],hz=>hz.elim
theorem Z3.get:∀{e:List A}{f:List B}{zs:List C},Z3 R e f zs→∀(i:Nat) c,zs[i]? = some c→∃ a b,e[i]? = some a∧f[i]? = some b∧R a b c
 | [],[],[],_,i,c,hc=>by simp at hc
 | a::e,b::f,c0::zs,hz,0,c,hc=>by
  simp at hc
  subst hc
  exact ⟨a,b,rfl,rfl,hz.1⟩
 | a::e,b::f,c0::zs,hz,i+1,c,hc=>by
  simp at hc
  obtain ⟨g,h,h1,l,m⟩:=Z3.get hz.2 i c hc
  exact ⟨g,h,by simpa using h1,by simpa using l,m⟩
 | [],[],_::_,hz,_,_,_=>hz.elim
 | [],_::_,_,hz,_,_,_=>hz.elim
 | _::_,[],_,hz,_,_,_=>hz.elim
 | _::_,_::_,[],hz,_,_,_=>hz.elim
theorem Z3.app:∀{e:List A}{m:List B}{zs:List C}{l:List A}{g:List B}{f:List C},Z3 R e m zs→Z3 R l g f→Z3 R (e++l) (m++g) (zs++f)
 | [],[],[],_,_,_,_,h=>h
 | _::_,_::_,_::_,_,_,_,hz,h=>⟨hz.1,Z3.app hz.2 h⟩
 | [],[],_::_,_,_,_,hz,_=>hz.elim
 | [],_::_,_,_,_,_,hz,_=>hz.elim
 | _::_,[],_,_,_,_,hz,_=>hz.elim
 | _::_,_::_,[],_,_,_,hz,_=>hz.elim
theorem Z3.set:∀{e:List A}{f:List B}{zs:List C},Z3 R e f zs→∀(i:Nat) a b c,i<zs.length→R a b c→Z3 R (e.set i a) (f.set i b) (zs.set i c)
 | [],[],[],_,i,_,_,_,hi,_=>by simp at hi
 | _::_,_::_,_::_,hz,0,_,_,_,_,h=>⟨h,hz.2⟩
 | _::_,_::_,_::_,hz,i+1,a,b,c,hi,h=>⟨hz.1,Z3.set hz.2 i a b c (by simpa using hi) h⟩
 | [],[],_::_,hz,_,_,_,_,_,_=>hz.elim
 | [],_::_,_,hz,_,_,_,_,_,_=>hz.elim
 | _::_,[],_,hz,_,_,_,_,_,_=>hz.elim
 | _::_,_::_,[],hz,_,_,_,_,_,_=>hz.elim
theorem Z3.of:∀{e:List A}{f:List B}{zs:List C},e.length=zs.length→f.length=zs.length→(∀(i:Nat) a b c,e[i]? = some a→f[i]? = some b→zs[i]? = some c→R a b c)→Z3 R e f zs
 | [],[],[],_,_,_=>trivial
 | a::e,b::f,c::zs,h1,h2,h=>⟨h 0 a b c rfl rfl rfl,Z3.of (by simpa using h1) (by simpa using h2) fun i a b c g l m=>h (i+1) a b c (by simpa using g) (by simpa using l) (by simpa using m)⟩
 | [],_,_::_,h1,_,_=>by simp at h1
 | _::_,_,[],h1,_,_=>by simp at h1
 | [],_::_,[],_,h2,_=>by simp at h2
 | _::_,[],_::_,_,h2,_=>by simp at h2
end

structure Sh (α:Type) where
 sz:Nat
 zero:List Ac
 dflt:α
 rd:(Nat→Prop)→Af→List Ac→α→Prop
 own:Ap→Af→List Ac→α→Prop
 rd_len:∀{S w cs x},rd S w cs x→cs.length=sz
 rd_one:∀{S w cs x},rd S w cs x→∀ c ∈ cs,c.oneCell'=true
 rd_keep:∀{S w w' cs x},rd S w cs x→(∀ b,S b→w'.heap[b]? = w.heap[b]?)→rd S w' cs x
 rd_mono:∀{S S' w cs x},rd S w cs x→(∀ b,S b→S' b)→rd S' w cs x
 own_keep:∀{F w w' cs x},own F w cs x→(∀ b ∈ F,w'.heap[b]? = w.heap[b]?)→own F w' cs x
 own_rd:∀{F w cs x},own F w cs x→rd (· ∈ F) w cs x
 own_lt:∀{F w cs x},own F w cs x→∀ b ∈ F,b<w.heap.size
 zero_own:∀ w,own [] w zero dflt
def Aig:TypeDesc→Bool
 | .struct _|.array _ _=>true
 | _=>false
structure Ty (P:Program) (α:Type) extends Sh α where
 tid:TypeId
 bts:Nat
 agg:Bool
 sz_pos:0<sz
 bts_le:bts≤65536
 info:∃ i z,P.info? tid=some i∧i.size=sz∧i.bytes=bts∧i.zero=some z∧z.cells=zero.toArray
 und:∃ d,P.underlying tid=some d∧Aig d=agg
 one1:agg=false→sz=1
def Sh.flat{α:Type}(f:α→List Ac)(sz:Nat)(dflt:α)(hl:∀ x,(f x).length=sz)(h1:∀ x,∀ c ∈ f x,c.oneCell'=true):Sh α where
 sz:=sz
 zero:=f dflt
 dflt:=dflt
 rd:=fun _ _ cs x=>cs=f x
 own:=fun F _ cs x=>F=[]∧cs=f x
 rd_len:=fun h=>by rw [h]; exact hl _
 rd_one:=fun h=>by rw [h]; exact h1 _
 rd_keep:=fun h _=>h
 rd_mono:=fun h _=>h
 own_keep:=fun h _=>h
 own_rd:=fun h=>h.2
 own_lt:=fun h b hb=>by rw [h.1] at hb; cases hb
 zero_own:=fun _=>⟨rfl,rfl⟩
def Sh.prod{α β:Type}(s:Sh α)(t:Sh β):Sh (α×β) where
 sz:=s.sz+t.sz
 zero:=s.zero++t.zero
 dflt:=(s.dflt,t.dflt)
 rd:=fun S w cs x=>∃ a b,cs=a++b∧s.rd S w a x.1∧t.rd S w b x.2
 own:=fun F w cs x=>∃ a b Fa Fb,cs=a++b∧F=Fa++Fb∧s.own Fa w a x.1∧t.own Fb w b x.2
 rd_len:=fun ⟨a,b,h,ha,hb⟩=>by rw [h,Cy,s.rd_len ha,t.rd_len hb]
 rd_one:=fun ⟨a,b,h,ha,hb⟩ c hc=>by
  rw [h] at hc
  rcases AV.1 hc with hc|hc
  exact s.rd_one ha c hc
  exact t.rd_one hb c hc
 rd_keep:=fun ⟨a,b,h,ha,hb⟩ hk=>⟨a,b,h,s.rd_keep ha hk,t.rd_keep hb hk⟩
 rd_mono:=fun ⟨a,b,h,ha,hb⟩ hk=>⟨a,b,h,s.rd_mono ha hk,t.rd_mono hb hk⟩
 own_keep:=fun ⟨a,b,Fa,Fb,h,hF,ha,hb⟩ hk=>⟨a,b,Fa,Fb,h,hF,s.own_keep ha fun x hx=>hk x (by rw [hF]; exact Ax _ hx),t.own_keep hb fun x hx=>hk x (by rw [hF]; exact Bm _ hx)⟩
 own_rd:=fun ⟨a,b,Fa,Fb,h,hF,ha,hb⟩=>⟨a,b,h,s.rd_mono (s.own_rd ha) fun x hx=>by rw [hF]; exact Ax _ hx,t.rd_mono (t.own_rd hb) fun x hx=>by rw [hF]; exact Bm _ hx⟩
 own_lt:=fun ⟨a,b,Fa,Fb,h,hF,ha,hb⟩ x hx=>by
  rw [hF] at hx
  rcases AV.1 hx with hx|hx
  exact s.own_lt ha x hx
  exact t.own_lt hb x hx
 zero_own:=fun w=>⟨_,_,[],[],rfl,rfl,s.zero_own w,t.zero_own w⟩
variable {P:Program}
def ElemAt{α:Type}(e:Ty P α)(S:Nat→Prop)(w:Af)(p:Addr)(x:α):Prop :=
 S p.block∧∃ cs,e.rd S w cs x∧∀(j:Nat) c,cs[j]? = some c→w.cell? (p.add j)=some c
def rdS{α:Type}(e:Ty P α)(S:Nat→Prop)(w:Af)(v:Ac)(l:List α):Prop :=
 ∃ a cap,v=.slice a l.length cap∧l.length≤cap∧(l=[]∨∃ ad:Addr,a=some ad∧∀(i:Nat) x,l[i]? = some x→ElemAt e S w (ad.add (i*e.sz)) x)
def ownS{α:Type}(e:Ty P α)(F:Ap)(w:Af)(v:Ac)(l:List α):Prop :=
 (v=.slice none 0 0∧l=[]∧F=[]) ∨
 ∃ g cap cur css Fs,v=.slice (some ⟨g,0,none⟩) l.length cap∧w.heap[g]? = some (.cells cur e.tid (0,0))∧l.length≤cap∧cap≤maxLen∧cur.size=cap*e.sz ∧
  cur.toList.take (l.length*e.sz)=css.flatten∧Z3 (fun F cs x=>e.own F w cs x) Fs css l∧F=g::Fs.flatten
theorem OC{w w':Af}{a:Addr}(h:w'.heap[a.block]? = w.heap[a.block]?):w'.cell? a=w.cell? a:=World.cell?_of_block h
theorem Jx(a:Addr)(n:Nat):(a.add n).block=a.block:=by unfold Addr.add; split <;> rfl
theorem Ro(a:Addr)(n m:Nat):(a.add n).add m=a.add (n+m):=by
 unfold Addr.add
 by_cases h1:n=0 <;> by_cases e:m=0 <;> simp [h1,e] <;> omega
theorem ElemAt.keep{α:Type}{e:Ty P α}{S:Nat→Prop}{w w':Af}{p:Addr}{x:α}(h:ElemAt e S w p x)(f:∀ b,S b→w'.heap[b]? = w.heap[b]?):ElemAt e S w' p x:=by
 obtain ⟨h1,cs,l,m⟩:=h
 refine ⟨h1,cs,e.rd_keep l f,fun j c g=>?_⟩
 exact (OC (w:=w) (w':=w') (a:=p.add j) (by rw [Jx]; exact f _ h1)).trans (m j c g)
theorem ElemAt.mono{α:Type}{e:Ty P α}{S S':Nat→Prop}{w:Af}{p:Addr}{x:α}(h:ElemAt e S w p x)(f:∀ b,S b→S' b):ElemAt e S' w p x:=by
 obtain ⟨h1,cs,l,g⟩:=h
 exact ⟨f _ h1,cs,e.rd_mono l f,g⟩
theorem QI{cs:List (List Ac)}{sz:Nat}(h:∀ c ∈ cs,c.length=sz):∀(i j:Nat) c,cs[i]? = some c→∀ u,c[j]? = some u→cs.flatten[i*sz+j]? = some u:=by
 induction cs with
 | nil=>intro i j c e; simp at e
 | cons d r l =>
  intro i j c e u f
  have g:d.length=sz:=h d (by simp)
  cases i with
  | zero =>
   simp at e
   subst e
   rw [List.flatten_cons,List.getElem?_append_left (by simp; exact (List.getElem?_eq_some_iff.1 f).1)]
   simpa using f
  | succ i =>
   simp at e
   rw [List.flatten_cons,List.getElem?_append_right (by rw [g,Nat.succ_mul]; omega),g,show (i+1)*sz+j-sz=i*sz+j by rw [Nat.succ_mul]; omega]
   exact l (fun c e=>h c (by simp [e])) i j c e u f
theorem Z3.sz{α:Type}{e:Ty P α}{w:Af}{Fs:List (Ap)}{css:List (List Ac)}{l:List α}(f:Z3 (fun F cs x=>e.own F w cs x) Fs css l):∀ c ∈ css,c.length=e.sz:=by
 intro c s
 obtain ⟨i,h⟩:=List.getElem?_of_mem s
 have m:i<l.length:=by rw [← f.len.2]; exact (List.getElem?_eq_some_iff.1 h).1
 obtain ⟨a,b,_,g,u⟩:=f.get i l[i] (by simp [m])
 rw [h] at g
 cases g
 exact e.rd_len (e.own_rd u)
theorem LH{cs:List (List Ac)}{sz:Nat}(h:∀ c ∈ cs,c.length=sz):cs.flatten.length=cs.length*sz:=by
 induction cs with
 | nil=>simp
 | cons d r f =>
  rw [List.flatten_cons,Cy,f (fun c e=>h c (by simp [e])),h d (by simp),List.length_cons,Nat.succ_mul,Nat.add_comm]
theorem ownS.rd{α:Type}{e:Ty P α}{F:Ap}{w:Af}{v:Ac}{l:List α}(h:ownS e F w v l):rdS e (· ∈ F) w v l:=by
 rcases h with ⟨rfl,rfl,rfl⟩|⟨g,cap,ae,css,Fs,rfl,hg,u,hm,hc,ht,m,rfl⟩
 exact ⟨none,0,rfl,Nat.le_refl _,.inl rfl⟩
 refine ⟨_,cap,rfl,u,.inr ⟨⟨g,0,none⟩,rfl,fun i x hx=>?_⟩⟩
 obtain ⟨a,b,h1,h2,h3⟩:=m.get i x hx
 refine ⟨by rw [Jx]; simp,b,e.rd_mono (e.own_rd h3) fun y s=>?_,fun j c hj=>?_⟩
 simp only [List.mem_cons,List.mem_flatten]
 exact .inr ⟨a,List.mem_of_getElem? h1,s⟩
 rw [Ro,Addr.add_lit,cell_of_row w g _ ae e.tid (0,0) hg]
 have f:=QI m.sz i j b h2 c hj
 rw [← ht,List.getElem?_take] at f
 split at f
 simpa using f
 cases f
theorem ownS.keep{α:Type}{e:Ty P α}{F:Ap}{w w':Af}{v:Ac}{l:List α}(h:ownS e F w v l)(s:∀ b ∈ F,w'.heap[b]? = w.heap[b]?):ownS e F w' v l:=by
 rcases h with h|⟨g,cap,ai,css,Fs,hv,hg,hn,hm,m,ht,f,rfl⟩
 exact .inl h
 refine .inr ⟨g,cap,ai,css,Fs,hv,by rw [s g (by simp)]; exact hg,hn,hm,m,ht,?_,rfl⟩
 refine Z3.of f.len.1 f.len.2 fun i a b c u hb m=>?_
 obtain ⟨a',b',h1,h2,h3⟩:=f.get i c m
 rw [u] at h1; rw [hb] at h2
 cases h1; cases h2
 exact e.own_keep h3 fun y hy=>s y (by simp only [List.mem_cons,List.mem_flatten]; exact .inr ⟨a,List.mem_of_getElem? u,hy⟩)
theorem ownS.lt{α:Type}{e:Ty P α}{F:Ap}{w:Af}{v:Ac}{l:List α}(h:ownS e F w v l):∀ b ∈ F,b<w.heap.size:=by
 rcases h with ⟨_,_,rfl⟩|⟨g,cap,ak,css,Fs,hv,hg,hn,hm,hc,ht,m,rfl⟩
 intro b f; cases f
 intro b f
 simp only [List.mem_cons,List.mem_flatten] at f
 rcases f with rfl|⟨a,u,f⟩
 exact (Array.getElem?_eq_some_iff.1 hg).1
 obtain ⟨i,s⟩:=List.getElem?_of_mem u
 have aa:i<l.length:=by rw [← m.len.1]; exact (List.getElem?_eq_some_iff.1 s).1
 obtain ⟨a',b',h1,_,h3⟩:=m.get i l[i] (by simp [aa])
 rw [s] at h1
 cases h1
 exact e.own_lt h3 b f
theorem rdS.keep{α:Type}{e:Ty P α}{S:Nat→Prop}{w w':Af}{v:Ac}{l:List α}(h:rdS e S w v l)(f:∀ b,S b→w'.heap[b]? = w.heap[b]?):rdS e S w' v l:=by
 obtain ⟨a,cap,hv,m,h⟩:=h
 refine ⟨a,cap,hv,m,h.imp id fun ⟨u,g,aa⟩=>⟨u,g,fun i x s=>(aa i x s).keep f⟩⟩
theorem rdS.mono{α:Type}{e:Ty P α}{S S':Nat→Prop}{w:Af}{v:Ac}{l:List α}(h:rdS e S w v l)(f:∀ b,S b→S' b):rdS e S' w v l:=by
 obtain ⟨a,cap,hv,m,h⟩:=h
 refine ⟨a,cap,hv,m,h.imp id fun ⟨u,g,aa⟩=>⟨u,g,fun i x s=>(aa i x s).mono f⟩⟩
def Sh.slice{α:Type}(e:Ty P α):Sh (List α) where
 sz:=1
 zero:=[.slice none 0 0]
 dflt:=[]
 rd:=fun S w cs l=>∃ v,cs=[v]∧rdS e S w v l
 own:=fun F w cs l=>∃ v,cs=[v]∧ownS e F w v l
 rd_len:=fun ⟨v,h,_⟩=>by rw [h]; rfl
 rd_one:=fun ⟨v,h,hv⟩ c hc=>by
  obtain ⟨a,cap,rfl,_⟩:=hv
  rw [h] at hc
  simp at hc
  rw [hc]
  rfl
 rd_keep:=fun ⟨v,h,hv⟩ hk=>⟨v,h,hv.keep hk⟩
 rd_mono:=fun ⟨v,h,hv⟩ hk=>⟨v,h,hv.mono hk⟩
 own_keep:=fun ⟨v,h,hv⟩ hk=>⟨v,h,hv.keep hk⟩
 own_rd:=fun ⟨v,h,hv⟩=>⟨v,h,hv.rd⟩
 own_lt:=fun ⟨v,h,hv⟩=>hv.lt
 zero_own:=fun _=>⟨_,rfl,.inl ⟨rfl,rfl,rfl⟩⟩

structure Res where
 fp:Ap
 ok:Af→Prop
def Res.good(base:Nat)(w:Af)(r:Res):Prop :=
 r.fp.Nodup∧(∀ b ∈ r.fp,base≤b∧b<w.heap.size)∧∀ w':Af,(∀ b ∈ r.fp,w'.heap[b]? = w.heap[b]?)→r.ok w'
def Sep(base:Nat)(w:Af)(L:List Res):Prop :=
 (∀ r ∈ L,r.good base w)∧L.Pairwise fun r s=>∀ b ∈ r.fp,b ∉ s.fp
def Av(b:Nat)(T:TypeId)(cs:List Ac):Res:=⟨[b],fun w=>w.heap[b]? = some (.cells cs.toArray T (0,0))⟩
def Ab{α:Type}(e:Ty P α)(F:Ap)(v:Ac)(l:List α):Res:=⟨F,fun w=>ownS e F w v l⟩
def Akf{α:Type}(e:Ty P α)(F:Ap)(v:Ac)(l:List α):Res:=⟨F,fun w=>rdS e (· ∈ F) w v l⟩
def Ey:List Res→Nat→Ae Res
 | [],_=>none
 | r::_,0=>some r
 | _::L,i+1=>Ey L i
def N2:List Res→Nat→Res→List Res
 | [],_,_=>[]
 | _::L,0,r'=>r'::L
 | r::L,i+1,r'=>r::N2 L i r'
theorem Pr:∀(L:List Res)(i:Nat),Ey L i=L[i]?
 | [],_=>by simp [Ey]
 | r::L,0=>by simp [Ey]
 | r::L,i+1=>by simp [Ey,Pr L i]
theorem Aaj:∀(L:List Res)(i:Nat)(r:Res),N2 L i r=L.set i r
 | [],_,_=>by simp [N2]
 | r::L,0,_=>by simp [N2]
 | r::L,i+1,r'=>by simp [N2,Aaj L i r']
section
variable {base:Nat} {w w':Af} {L:List Res} {r r':Res}
theorem Res.good.ok(h:r.good base w):r.ok w:=h.2.2 w fun _ _=>rfl
theorem Res.good.keep(h:r.good base w)(m:w.heap.size≤w'.heap.size)(l:∀ b ∈ r.fp,w'.heap[b]? = w.heap[b]?):r.good base w' :=
 ⟨h.1,fun b e=>⟨(h.2.1 b e).1,Nat.lt_of_lt_of_le (h.2.1 b e).2 m⟩,fun g f=>h.2.2 g fun b e=>(f b e).trans (l b e)⟩
theorem Sep.nil(base:Nat)(w:Af):Sep base w []:=⟨fun _ h=>(by cases h),.nil⟩
theorem Sep.get(h:Sep base w L){i:Nat}(e:Ey L i=some r):r.good base w:=h.1 r (List.mem_of_getElem? (by rw [← Pr]; exact e))
theorem Sep.ok(h:Sep base w L){i:Nat}(e:Ey L i=some r):r.ok w:=(h.get e).ok
theorem Sep.keep(h:Sep base w L)(l:w.heap.size≤w'.heap.size)(g:∀ b,base≤b→b<w.heap.size→w'.heap[b]? = w.heap[b]?):Sep base w' L :=
 ⟨fun r e=>(h.1 r e).keep l fun b f=>g b ((h.1 r e).2.1 b f).1 ((h.1 r e).2.1 b f).2,h.2⟩
theorem Sep.below(h:Sep base w L)(e:Below w.heap.size w w'):Sep base w' L:=h.keep e.size fun b _ f=>e.block b f
theorem Sep.push(h:Sep base w L)(e:Below w.heap.size w w')(aa:r.fp.Nodup)(g:∀ b ∈ r.fp,w.heap.size≤b∧b<w'.heap.size)(m:base≤w.heap.size)
  (u:∀ w'':Af,(∀ b ∈ r.fp,w''.heap[b]? = w'.heap[b]?)→r.ok w''):Sep base w' (r::L):=by
 have l:=h.below e
 refine ⟨fun s f=>?_,List.Pairwise.cons (fun s f b e v=>?_) l.2⟩
 cases f with
 | head=>exact ⟨aa,fun b e=>⟨Az m (g b e).1,(g b e).2⟩,u⟩
 | tail _ f=>exact l.1 s f
 have h1:=(h.1 s f).2.1 b v
 have h2:=g b e
 omega
theorem Sep.push0(h:Sep base w L)(l:r.fp=[])(m:∀ g:Af,r.ok g):Sep base w (r::L):=by
 refine ⟨fun s f=>?_,List.Pairwise.cons (fun s f b e u=>?_) h.2⟩
 cases f with
 | head=>exact ⟨(by rw [l]; exact List.nodup_nil),(fun b e=>by rw [l] at e; exact (by cases e)),fun g _=>m g⟩
 | tail _ f=>exact h.1 s f
 rw [l] at e; cases e
theorem Ny{R:Res→Res→Prop}(e:∀ a b,R a b→R b a):∀{L:List Res},L.Pairwise R→∀(i j:Nat) a b,i≠j→L[i]? = some a→L[j]? = some b→R a b
 | [],_,i,_,_,_,_,h,_=>by simp at h
 | c::L,.cons hc hL,0,0,_,_,hne,_,_=>absurd rfl hne
 | c::L,.cons hc hL,0,j+1,a,b,_,ha,hb=>by
  simp at ha hb
  subst ha
  exact hc b (List.mem_of_getElem? hb)
 | c::L,.cons hc hL,i+1,0,a,b,_,ha,hb=>by
  simp at ha hb
  subst hb
  exact e _ _ (hc a (List.mem_of_getElem? ha))
 | c::L,.cons hc hL,i+1,j+1,a,b,hne,ha,hb=>by
  simp at ha hb
  exact Ny e hL i j a b (by omega) ha hb
theorem Qv(a b:Res)(h:∀ x ∈ a.fp,x ∉ b.fp):∀ x ∈ b.fp,x ∉ a.fp:=fun x f e=>h x e f
theorem Sep.disj(h:Sep base w L){i j:Nat}(f:Nat.beq i j=false)(g:Ey L i=some r)(l:Ey L j=some r'):∀ b ∈ r.fp,b ∉ r'.fp :=
 Ny Qv h.2 i j r r' (fun e=>by rw [e,Nat.beq_refl] at f; cases f) (by rw [← Pr]; exact g) (by rw [← Pr]; exact l)
theorem Qo{R:Res→Res→Prop}:∀{L:List Res},(∀(i j:Nat) a b,i<j→L[i]? = some a→L[j]? = some b→R a b)→L.Pairwise R
 | [],_=>.nil
 | c::L,h=>.cons (fun b e=>by
   obtain ⟨j,f⟩:=List.getElem?_of_mem e
   exact h 0 (j+1) c b (by omega) rfl (by simpa using f)) (Qo fun i j a b l g e=>h (i+1) (j+1) a b (by omega) (by simpa using g) (by simpa using e))
def PJ:Ap→Bool
 | []=>true
 | i::r=>!(r.any fun j=>Nat.beq i j)&&PJ r
def Aj(L:List Res):Ap→List Res
 | []=>[]
 | i::r=>match Ey L i with
  | some x=>x::Aj L r
  | none=>Aj L r
theorem T1:∀{is:Ap}{r:Res},r ∈ Aj L is→∃ i ∈ is,Ey L i=some r
 | [],_,h=>by cases h
 | i::is,r,h=>by
  rw [Aj] at h
  cases e:Ey L i with
  | none =>
   rw [e] at h
   obtain ⟨j,g,f⟩:=T1 h
   exact ⟨j,by simp [g],f⟩
  | some x =>
   rw [e] at h
   cases h with
   | head=>exact ⟨i,by simp,e⟩
   | tail _ h =>
    obtain ⟨j,g,f⟩:=T1 h
    exact ⟨j,by simp [g],f⟩
theorem Sep.sel(h:Sep base w L)(is:Ap)(e:PJ is=true):Sep base w (Aj L is):=by
 refine ⟨fun r v=>?_,?_⟩
 obtain ⟨i,_,hi⟩:=T1 v
 exact h.get hi
 induction is with
 | nil=>exact .nil
 | cons i is g =>
  rw [PJ,Cq] at e
  have f:=g e.2
  rw [YtellehgihceicaaGreatDoor.Aj]
  cases u:Ey L i with
  | none=>exact f
  | some x =>
   refine .cons (fun s m=>?_) f
   obtain ⟨j,hj,l⟩:=T1 m
   have aa:Nat.beq i j=false:=by
    have:=e.1
    simp only [Bool.not_eq_true',List.any_eq_false] at this
    cases hb:Nat.beq i j with
    | false=>rfl
    | true=>exact absurd (Nat.eq_of_beq_eq_true hb) (by simpa using this j hj)
   exact h.disj aa u l
theorem Sep.upd(h:Sep base w L){i:Nat}(m:Ey L i=some r)(hs:w.heap.size≤w'.heap.size)
  (hk:∀ b,base≤b→b<w.heap.size→b ∉ r.fp→w'.heap[b]? = w.heap[b]?) (ao:r'.fp.Nodup) (hf:∀ b ∈ r'.fp,b ∈ r.fp∨(w.heap.size≤b∧b<w'.heap.size)) (ai:base≤w.heap.size)
  (am:∀ w'':Af,(∀ b ∈ r'.fp,w''.heap[b]? = w'.heap[b]?)→r'.ok w''):Sep base w' (N2 L i r'):=by
 have u:i<L.length:=by
  rw [Pr] at m
  exact (List.getElem?_eq_some_iff.1 m).1
 have an:L[i]? = some r:=by rw [← Pr]; exact m
 have ab:∀(j:Nat) s,j≠i→L[j]? = some s→∀ b ∈ s.fp,b ∉ r.fp:=fun j s aa g=>Ny Qv h.2 j i s r aa g an
 have aj:r'.good base w':=⟨ao,fun b f=>by
  rcases hf b f with h1|h1
  have:=(h.get m).2.1 b h1
  exact ⟨this.1,Nat.lt_of_lt_of_le this.2 hs⟩
  exact ⟨Az ai h1.1,h1.2⟩,am⟩
 have ac:∀(j:Nat) s,j≠i→L[j]? = some s→∀ b ∈ s.fp,b ∉ r'.fp:=fun j s aa g b f ak=>by
  rcases hf b ak with h1|h1
  exact ab j s aa g b f h1
  have:=(h.1 s (List.mem_of_getElem? g)).2.1 b f
  omega
 rw [Aaj]
 refine ⟨fun s ap=>?_,Qo fun j k a b aq l f=>?_⟩
 obtain ⟨j,g⟩:=List.getElem?_of_mem ap
 by_cases e:j=i
 subst e
 rw [List.getElem?_set_self u] at g
 cases g
 exact aj
 rw [List.getElem?_set_ne (Ne.symm e)] at g
 have v:=h.1 s (List.mem_of_getElem? g)
 exact v.keep hs fun b f=>hk b (v.2.1 b f).1 (v.2.1 b f).2 (ab j s e g b f)
 by_cases e1:j=i
 subst e1
 rw [List.getElem?_set_self u] at l
 cases l
 rw [List.getElem?_set_ne (by omega)] at f
 exact Qv _ _ (ac k b (by omega) f)
 rw [List.getElem?_set_ne (Ne.symm e1)] at l
 by_cases e2:k=i
 subst e2
 rw [List.getElem?_set_self u] at f
 cases f
 exact ac j a (by omega) l
 rw [List.getElem?_set_ne (Ne.symm e2)] at f
 exact Ny Qv h.2 j k a b (by omega) l f
end
theorem rdS.ro{α:Type}{e:Ty P α}{w0 w:Af}{v:Ac}{l:List α}(h:rdS e (·<w0.heap.size) w0 v l)(g:Below w0.heap.size w0 w):rdS e (·<w.heap.size) w v l :=
 (h.keep fun b f=>g.block b f).mono fun b f=>Nat.lt_of_lt_of_le f g.size
theorem Sh.ro{α:Type}{e:Sh α}{w0 w:Af}{cs:List Ac}{l:α}(h:e.rd (·<w0.heap.size) w0 cs l)(g:Below w0.heap.size w0 w):e.rd (·<w.heap.size) w cs l :=
 e.rd_mono (e.rd_keep h fun b f=>g.block b f) fun b f=>Nat.lt_of_lt_of_le f g.size
theorem Sep.own_ro{α:Type}{e:Ty P α}{base:Nat}{w:Af}{L:List Res}{F:Ap}{v:Ac}{l:List α}(h:Sep base w L){i:Nat}(f:Ey L i=some (Ab e F v l)):rdS e (·<w.heap.size) w v l :=
 (h.ok f:ownS e F w v l).rd.mono fun b g=>((h.get f).2.1 b g).2
end Go.Proofs.YtellehgihceicaaGreatDoor
namespace Go.Proofs.YtellehgihceicaaGreatDoor
open Go Go.RowKit
structure TF (P:Program) (T:TypeId) (sz:Nat) (agg:Bool) (z:Ac):Prop where
 hsize:∀ w,(sizeOf T).run P w=.ok sz w
 hagg:∀ w,(isAgg T).run P w=.ok agg w
 hzero:∀ w,(zeroValue T).run P w=.ok z w
 pos:0<sz
 one:agg=false→sz=1
def pk:Bool→List Ac→Ac
 | true,vs=>.agg vs.toArray
 | false,[v]=>v
 | false,_=>undef
def LY(cs:List Ac)(off sz:Nat):Ae (List Ac):=bif Nat.ble (off+sz) cs.length then some ((cs.drop off).take sz) else none
def D8(cs:List Ac)(off:Nat)(vs:List Ac):List Ac:=cs.take off++(vs++cs.drop (off+vs.length))
def Ones:List Ac→Prop
 | []=>True
 | v::r=>v.oneCell'=true∧Ones r
theorem Ones.all:∀{vs:List Ac},Ones vs→∀ v ∈ vs,v.oneCell'=true
 | _::_,h,_,.head _=>h.1
 | _::_,h,_,.tail _ hv=>Ones.all h.2 _ hv
theorem Ones.of:∀{vs:List Ac},(∀ v ∈ vs,v.oneCell'=true)→Ones vs
 | [],_=>trivial
 | v::r,h=>⟨h v (by simp),Ones.of fun u e=>h u (by simp [e])⟩
variable {P:Program} {α:Type}
theorem rdS.one{e:Ty P α}{S:Nat→Prop}{w:Af}{v:Ac}{l:List α}(h:rdS e S w v l):v.oneCell'=true:=by
 obtain ⟨a,cap,rfl,_⟩:=h
 rfl
theorem ownS.one{e:Ty P α}{F:Ap}{w:Af}{v:Ac}{l:List α}(h:ownS e F w v l):v.oneCell'=true:=h.rd.one
def EAt(S:Nat→Prop)(w:Af)(p:Addr)(cs:List Ac):Prop:=S p.block∧∀(j:Nat) c,cs[j]? = some c→w.cell? (p.add j)=some c
theorem EAt.add{S:Nat→Prop}{w:Af}{p:Addr}{cs:List Ac}(h:EAt S w p cs)(o:Nat):EAt S w (p.add o) (cs.drop o) :=
 ⟨by rw [Jx]; exact h.1,fun j c e=>by
  rw [Ro]
  exact h.2 (o+j) c (by rwa [List.getElem?_drop] at e)⟩
theorem EAt.ro{w0 w:Af}{p:Addr}{cs:List Ac}(h:EAt (·<w0.heap.size) w0 p cs)(e:Below w0.heap.size w0 w):EAt (·<w.heap.size) w p cs :=
 ⟨Nat.lt_of_lt_of_le h.1 e.size,fun j c f=>by rw [e.cell (p:=p.add j) (by rw [Jx]; exact h.1)]; exact h.2 j c f⟩
theorem Bk(w:Af):Below w.heap.size w w:=Below.refl _ _
theorem FC(w:Af)(o:Obj):Below w.heap.size w (w.alloc o):=⟨rfl,rfl,rfl,by simp,fun k e=>Below.heap_alloc w o k e⟩
theorem SC(w:Af)(g:Nat)(cs:Array Ac){B:Nat}(e:B≤g):Below B w (w.setRow g cs) :=
 ⟨rfl,rfl,rfl,by simp,fun k f=>setRow_other w g k cs (by omega)⟩
theorem O4(w:Af)(g o:Nat)(t U:TypeId)(cs vs:List Ac)(v:Ac)(f:v.cells=vs.toArray)(m:∀ w,(sizeOf U).run P w=.ok vs.length w)
  (e:w.heap[g]? = some (.cells cs.toArray t (0,0))) (l:o+vs.length≤cs.length) (h1:Ones vs) :
  (storeVar U ⟨g,o,none⟩ v).run P w=.ok () (w.setRow g (D8 cs o vs).toArray):=by
 have h:=run_storeCells_at P g o t vs 0 cs.toArray w e (by simpa using l) h1.all
 unfold storeVar
 simp only [Sem.run_bind,m,Result.andThen_ok,f,List.size_toArray,ne_eq,not_true_eq_false,if_false]
 rw [h]
 simp [D8]
section
variable {n:Nat} {σ:EY} {w w0:Af} {Q:Exit→Act→Af→Prop} {L:List Res}
variable {ds:List (Ae Tmp)} {d:Nat} {T U:TypeId} {pos:String} {af:Array Edge} {rest:List Oper} {x y z:Operand} {sz:Nat} {agg:Bool} {zv:Ac}
theorem Xj{b:Nat}(h:Sep w0.heap.size w L)(l:Below w0.heap.size w0 w)(cs:List Ac)(U:TypeId)(e:b=w.heap.size) :
  Sep w0.heap.size (w.alloc (.cells cs.toArray U)) (Av b U cs::L):=by
 subst e
 refine h.push (FC w _) (by simp [Av]) (fun b e=>?_) l.size (fun f g=>?_)
 simp [Av] at e
 subst e
 simp
 have:=g w.heap.size (by simp [Av])
 show f.heap[w.heap.size]? = _
 rw [this,heap_alloc_new]
theorem Ahj{v:Ac}{cs:List Ac}(l:Nat.blt d n=true)(m:B5 σ x=some v)(s:v.cells=cs.toArray)(e:Below w0.heap.size w0 w)(f:Sep w0.heap.size w L)
  (h:∀ b w',Below w.heap.size w w'→Below w0.heap.size w0 w'→Sep w0.heap.size w' (Av b U cs::L)→WL P n ds rest ((d,.pointer (some ⟨b,0,none⟩))::σ) w' Q) :
  WL P n ds (⟨some d,.box U x,T,pos,af,none⟩::rest) σ w Q:=by
 refine C6 (w':=w.alloc (.cells cs.toArray U)) (v:=.pointer (some ⟨w.heap.size,0,none⟩)) l (fun ρ g=>?_)
  (h _ _ (FC w _) (e.trans ((FC w _).mono e.size)) (Xj f e cs U rfl))
 simp [execOp,g _ _ m,Instr.box,newVar,newRow,s]
theorem Ye{cs:List Ac}(f:TF P U sz agg zv)(l:Nat.blt d n=true)(m:zv.cells=cs.toArray)(e:Below w0.heap.size w0 w)(g:Sep w0.heap.size w L)
  (h:∀ b w',Below w.heap.size w w'→Below w0.heap.size w0 w'→Sep w0.heap.size w' (Av b U cs::L)→WL P n ds rest ((d,.pointer (some ⟨b,0,none⟩))::σ) w' Q) :
  WL P n ds (⟨some d,.alloc U,T,pos,af,none⟩::rest) σ w Q:=by
 refine C6 (w':=w.alloc (.cells cs.toArray U)) (v:=.pointer (some ⟨w.heap.size,0,none⟩)) l (fun ρ s=>?_)
  (h _ _ (FC w _) (e.trans ((FC w _).mono e.size)) (Xj g e cs U rfl))
 simp [execOp,Instr.alloc,newVar,newRow,m,f.hzero]
def Fo(P:Program)(U:TypeId)(f o:Nat):Bool :=
 match P.underlying U with
 | some (.struct fs)=>match fs[f]? with
  | some fd=>Nat.beq fd.offset o&&(match P.info? fd.type with
   | some i=>!(Nat.beq i.size 0)
   | none=>false)
  | none=>false
 | _=>false
theorem Ov{f o:Nat}(g:Fo P U f o=true)(p:Addr):(Instr.fieldAt U (.pointer (some p)) f).run P w=.ok (.pointer (some (p.add o))) w:=by
 unfold Fo at g
 split at g
 rename_i fs hu
 split at g
 rename_i l s
 rw [Cq] at g
 obtain ⟨h1,h⟩:=g
 split at h
 rename_i i m
 have u:l.offset=o:=Nat.eq_of_beq_eq_true h1
 have v:i.size≠0:=fun e=>by rw [e] at h; simp at h
 simp [Instr.fieldAt,run_underlying hu,s,Instr.sureAddr,fieldPlace,sizeOf,typeInfo,m,v,u]
 cases h
 cases g
 cases g
theorem NW{f o b off off':Nat}(m:Fo P U f o=true)(g:Nat.blt d n=true)(l:B5 σ x=some (.pointer (some ⟨b,off,none⟩)))(s:off+o=off')
  (h:WL P n ds rest ((d,.pointer (some ⟨b,off',none⟩))::σ) w Q):WL P n ds (⟨some d,.fieldAddr U x f,T,pos,af,none⟩::rest) σ w Q :=
 C6 g (fun ρ e=>by simp [execOp,e _ _ l,Ov m,Addr.add_lit,s]) h
theorem Lm{f o:Nat}{p:Addr}(m:Fo P U f o=true)(g:Nat.blt d n=true)(l:B5 σ x=some (.pointer (some p)))
  (h:WL P n ds rest ((d,.pointer (some (p.add o)))::σ) w Q):WL P n ds (⟨some d,.fieldAddr U x f,T,pos,af,none⟩::rest) σ w Q :=
 C6 g (fun ρ e=>by simp [execOp,e _ _ l,Ov m]) h
theorem Jf(m:TF P U sz agg zv)(p:Addr)(cs vs:List Ac)(u:∀(j:Nat) c,cs[j]? = some c→w.cell? (p.add j)=some c)(e:LY cs 0 sz=some vs)(h1:agg=false→sz=1) :
  (loadVar U p).run P w=.ok (pk agg vs) w:=by
 have h:sz≤cs.length:=by
  unfold LY at e
  cases s:Nat.ble (0+sz) cs.length with
  | true=>simpa using Nat.le_of_ble_eq_true s
  | false=>rw [s] at e; cases e
 have f:vs=cs.take sz:=by
  unfold LY at e
  have:Nat.ble (0+sz) cs.length=true:=by simpa using h
  rw [this] at e
  simpa using e.symm
 unfold loadVar
 rw [Sem.run_bind,m.hagg]
 simp only [Result.andThen_ok]
 cases agg with
 | true =>
  have hl:(loadCells p sz).run P w=.ok vs.toArray w:=by
   have:=run_loadCells_list (P:=P) w p vs (fun j v g=>u j v (by
    rw [f,List.getElem?_take] at g
    split at g
    exact g
    cases g))
   rwa [f,List.length_take,Nat.min_eq_left h,← f] at this
  simp [m.hsize,hl,pk]
 | false =>
  have hs:=h1 rfl
  subst hs
  cases cs with
  | nil=>simp at h
  | cons c r =>
   have l:=u 0 c rfl
   rw [Addr.add_zero'] at l
   simp [load,Sem.run,l,f,pk]
theorem Qw{b o:Nat}{cs:List Ac}{V:TypeId}(f:w.heap[b]? = some (.cells cs.toArray V (0,0))):∀(j:Nat) c,(cs.drop o)[j]? = some c→w.cell? ((⟨b,o,none⟩:Addr).add j)=some c:=by
 intro j c e
 rw [Addr.add_lit,cell_of_row w b _ cs.toArray V (0,0) f]
 rw [List.getElem?_drop] at e
 simpa using e
theorem Yx{cs vs:List Ac}{o s:Nat}(e:LY cs o s=some vs)(h:0<s):LY (cs.drop o) 0 s=some vs:=by
 unfold LY at e ⊢
 cases f:Nat.ble (o+s) cs.length with
 | false=>rw [f] at e; cases e
 | true =>
  rw [f] at e
  have g:=Nat.le_of_ble_eq_true f
  have:Nat.ble (0+s) (cs.drop o).length=true:=by
   rw [Nat.ble_eq,List.length_drop]; omega
  rw [this]
  simpa using e
theorem KI{i b off:Nat}{V:TypeId}{cs vs:List Ac}{v:Ac}(e:TF P U sz agg zv)(m:Nat.blt d n=true)
  (u:B5 σ x=some (.pointer (some ⟨b,off,none⟩))) (g:Sep w0.heap.size w L) (s:Ey L i=some (Av b V cs)) (hv:LY cs off sz=some vs) (hp:pk agg vs=v)
  (h:WL P n ds rest ((d,v)::σ) w Q):WL P n ds (⟨some d,.load U x,T,pos,af,none⟩::rest) σ w Q:=by
 refine C6 m (fun ρ l=>?_) h
 have f:w.heap[b]? = some (.cells cs.toArray V (0,0)):=g.ok s
 have hl:=Jf (w:=w) e ⟨b,off,none⟩ (cs.drop off) vs (Qw f) (Yx hv e.pos) e.one
 rw [← hp]
 simp [execOp,l _ _ u,Instr.loadAt,Instr.sureAddr,hl]
theorem Ab6{S:Nat→Prop}{p:Addr}{cs vs:List Ac}{v:Ac}(e:TF P U sz agg zv)(g:Nat.blt d n=true)
  (l:B5 σ x=some (.pointer (some p))) (u:EAt S w p cs) (hv:LY cs 0 sz=some vs) (m:pk agg vs=v)
  (h:WL P n ds rest ((d,v)::σ) w Q):WL P n ds (⟨some d,.load U x,T,pos,af,none⟩::rest) σ w Q:=by
 refine C6 g (fun ρ f=>?_) h
 have s:=Jf (w:=w) e p cs vs u.2 hv e.one
 rw [← m]
 simp [execOp,f _ _ l,Instr.loadAt,Instr.sureAddr,s]
theorem Aa5{cs vs:List Ac}{off:Nat}(h:off+vs.length≤cs.length):(D8 cs off vs).length=cs.length:=by
 unfold D8
 simp
 omega
theorem BG{i b off:Nat}{V:TypeId}{cs cs' vs:List Ac}{v:Ac}(tf:TF P U sz agg zv)
  (hx:B5 σ x=some (.pointer (some ⟨b,off,none⟩))) (hy:B5 σ y=some v) (hv:v.cells=vs.toArray) (al:vs.length=sz) (u:Below w0.heap.size w0 w) (g:Sep w0.heap.size w L)
  (l:Ey L i=some (Av b V cs)) (hl:Nat.ble (off+vs.length) cs.length=true) (h1:Ones vs) (hc:D8 cs off vs=cs')
  (h:∀ w',(w.heap.size≤w'.heap.size∧(∀ k,k<w.heap.size→k ∉ [b]→w'.heap[k]? = w.heap[k]?)∧∀ k ∈ [b],k ∈ [b]∨w.heap.size≤k)→Below w0.heap.size w0 w'→Sep w0.heap.size w' (N2 L i (Av b V cs'))→WL P n ds rest σ w' Q) :
  WL P n ds (⟨none,.store U x y,T,pos,af,none⟩::rest) σ w Q:=by
 have m:w.heap[b]? = some (.cells cs.toArray V (0,0)):=g.ok l
 have ad:=Nat.le_of_ble_eq_true hl
 have ag:=(g.get l).2.1 b (by simp [Av])
 subst hc
 refine Ahf (w':=w.setRow b (D8 cs off vs).toArray) (fun ρ s=>?_) (h _ ⟨by simp,fun k _ f=>setRow_other w b k _ (by simpa using f),fun k f=>.inl f⟩ (u.trans (SC w b _ ag.1)) ?_)
 have hs:=O4 (P:=P) w b off V U cs vs v hv (fun w=>by rw [al]; exact tf.hsize w) m ad h1
 simp [execOp,s _ _ hx,s _ _ hy,Instr.storeAt,Instr.sureAddr,hs]
 refine g.upd l (by simp) (fun k _ _ f=>setRow_other w b k _ (by intro e; exact f (by simp [Av,e]))) (by simp [Av]) (fun k f=>.inl f) u.size (fun ac f=>?_)
 have:=f b (by simp [Av])
 show ac.heap[b]? = _
 rw [this,setRow_heap w b _ _ V (0,0) m]
theorem Of{l:List α}{i:Int}{u:α}(h:AG l i=some u):0≤i∧l[i.toNat]? = some u∧i.toNat<l.length:=by
 unfold AG at h
 split at h
 rename_i e
 exact ⟨e,h,(List.getElem?_eq_some_iff.1 h).1⟩
 cases h
theorem P6{e:Ty P α}{S:Nat→Prop}{g:Af}{v:Ac}{l:List α}{k:IntKind}{f:Int}{u:α}(hu:P.underlying U=some (.slice e.tid))(hr:rdS e S g v l)(s:AG l f=some u) :
  ∃ p,(∀ w,(Instr.indexAt U v (.int k f)).run P w=.ok (.pointer (some p)) w)∧ElemAt e S g p u:=by
 obtain ⟨a,cap,rfl,al,h⟩:=hr
 obtain ⟨m,hl,aa⟩:=Of s
 rcases h with rfl|⟨ad,rfl,aj⟩
 simp at aa
 obtain ⟨i,z,ae,ak,_⟩:=e.info
 refine ⟨ad.add (f.toNat*e.sz),fun w=>?_,aj _ _ hl⟩
 have hc:0≤f∧f<(l.length:Int):=⟨m,by omega⟩
 simp [Instr.indexAt,asIntOf,run_underlying hu,sizeOf,typeInfo,ae,ak,hc]
theorem BT{e:Ty P α}{S:Nat→Prop}{f:Af}{v:Ac}{l:List α}{k:IntKind}{m:Int}{u:α}(hu:P.underlying U=some (.slice e.tid))(hn:Nat.blt d n=true)
  (hx:B5 σ x=some v) (s:B5 σ y=some (.int k m)) (hr:rdS e S f v l) (hi:AG l m=some u)
  (h:∀ p cs,e.rd S f cs u→EAt S f p cs→WL P n ds rest ((d,.pointer (some p))::σ) w Q):WL P n ds (⟨some d,.indexAddr U x y,T,pos,af,none⟩::rest) σ w Q:=by
 obtain ⟨p,ab,hS,cs,ac,hc⟩:=P6 (k:=k) hu hr hi
 exact C6 hn (fun ρ g=>by simp [execOp,g _ _ hx,g _ _ s,ab]) (h p cs ac ⟨hS,hc⟩)
theorem Ahh{v:Ac}{a:Ae Addr}{l c:Nat}{f:TypeId}{e:TypeId}(hu:P.underlying f=some (.slice e))(m:Nat.blt d n=true)(s:B5 σ x=some v)(u:v=.slice a l c)
  (h:WL P n ds rest ((d,.int .i64 (l:Int))::σ) w Q):WL P n ds (⟨some d,.call ⟨.builtin .len,#[x],#[f]⟩,T,pos,af,none⟩::rest) σ w Q:=by
 subst u
 exact C6 m (fun ρ g=>by simp [execOp,resolve,invoke,builtin,g _ _ s,Builtin.len_,run_underlying hu,goInt]) h
theorem Agg{e:Ty P α}{S:Nat→Prop}{g:Af}{v:Ac}{l:List α}{f:TypeId}(hu:P.underlying f=some (.slice e.tid))(m:Nat.blt d n=true)(u:B5 σ x=some v)(s:rdS e S g v l)
  (h:WL P n ds rest ((d,.int .i64 (l.length:Int))::σ) w Q):WL P n ds (⟨some d,.call ⟨.builtin .len,#[x],#[f]⟩,T,pos,af,none⟩::rest) σ w Q:=by
 obtain ⟨a,cap,hv,_⟩:=s
 exact Ahh hu m u hv h
theorem Nv{e:Ty P α}{S:Nat→Prop}{w1:Af}{v:Ac}{l m:List α}{f g:Int}(hu:P.underlying U=some (.slice e.tid))(hr:rdS e S w1 v l)(s:sl l f g=some m) :
  ∃ v',(∀(vlo vhi:Ae Ac) w,((vlo=none∧f=0)∨∃ k,vlo=some (.int k f))→((vhi=none∧g=l.length)∨∃ k,vhi=some (.int k g))→(Instr.sliceAt U v vlo vhi none).run P w=.ok v' w)∧rdS e S w1 v' m:=by
 obtain ⟨a,cap,rfl,au,h⟩:=hr
 unfold sl at s
 split at s
 case isFalse=>cases s
 rename_i hb
 obtain ⟨h0,h1,h2⟩:=hb
 cases s
 obtain ⟨i,z,ak,ar,_⟩:=e.info
 have ab:((l.take g.toNat).drop f.toNat).length=g.toNat-f.toNat:=by simp; omega
 refine ⟨.slice (if cap=f.toNat then a else a.map (·.add (f.toNat*e.sz))) (g.toNat-f.toNat) (cap-f.toNat),fun vlo vhi w ai aj=>?_,?_⟩
 ·have am:(Instr.sliceBounds true l.length cap vlo vhi none).run P w=.ok (f.toNat,g.toNat,cap) w:=by
   have hh:0≤g∧g≤(cap:Int):=⟨by omega,by omega⟩
   rcases aj with ⟨rfl,rfl⟩|⟨k,rfl⟩
   ·rcases ai with ⟨rfl,rfl⟩|⟨k',rfl⟩
    ·simp [Instr.sliceBounds]
    ·have aa:0≤f∧f≤(l.length:Int):=⟨h0,h1⟩
     simp [Instr.sliceBounds,Instr.sliceBound,asIntOf,aa]
   ·rcases ai with ⟨rfl,rfl⟩|⟨k',rfl⟩
    ·simp [Instr.sliceBounds,Instr.sliceBound,asIntOf,hh]
    ·have e1:((g.toNat:Nat):Int)=g:=by omega
     have aa:0≤f∧f≤((g.toNat:Nat):Int):=⟨h0,by omega⟩
     simp only [Instr.sliceBounds,Instr.sliceBound,asIntOf,Sem.run_bind,Sem.run_pure,Result.andThen_ok,hh,and_self,if_true,aa,Option.isSome_none]
  simp [Instr.sliceAt,Instr.slice,run_underlying hu,am,sizeOf,typeInfo,ak,ar]
 ·refine ⟨_,cap-f.toNat,by rw [ab],by rw [ab]; omega,?_⟩
  by_cases ac:(l.take g.toNat).drop f.toNat=[]
  ·exact .inl ac
  ·rcases h with rfl|⟨ad,rfl,aq⟩
   ·simp at ac
   ·have av:f.toNat<g.toNat:=by
     rcases Nat.lt_or_ge f.toNat g.toNat with h|h
     ·exact h
     ·exact absurd (List.eq_nil_of_length_eq_zero (by rw [ab]; omega)) ac
    refine .inr ⟨ad.add (f.toNat*e.sz),by rw [if_neg (by omega)]; rfl,fun j x u=>?_⟩
    rw [Ro,← Nat.add_mul]
    refine aq _ x ?_
    rw [List.getElem?_drop,List.getElem?_take] at u
    split at u
    ·exact u
    ·cases u
theorem R1{e:Ty P α}{S:Nat→Prop}{w1:Af}{v:Ac}{l m:List α}{lo hi:Int}{u g:Ae Operand}(hu:P.underlying U=some (.slice e.tid))(hn:Nat.blt d n=true)
  (hx:B5 σ x=some v) (hr:rdS e S w1 v l) (hm:sl l lo hi=some m)
  (al:(u=none∧lo=0)∨∃ o k,u=some o∧B5 σ o=some (.int k lo)) (an:(g=none∧hi=l.length)∨∃ o k,g=some o∧B5 σ o=some (.int k hi))
  (h:∀ s,rdS e S w1 s m→WL P n ds rest ((d,s)::σ) w Q):WL P n ds (⟨some d,.slice U x u g none,T,pos,af,none⟩::rest) σ w Q:=by
 obtain ⟨s,ah,ae⟩:=Nv hu hr hm
 refine C6 hn (fun ρ hρ=>?_) (h s ae)
 have:=ah (u.map ρ) (g.map ρ) w (al.imp (fun ⟨h,f⟩=>⟨by rw [h]; rfl,f⟩) fun ⟨o,k,h,f⟩=>⟨k,by rw [h]; simp [hρ _ _ f]⟩)
  (an.imp (fun ⟨h,f⟩=>⟨by rw [h]; rfl,f⟩) fun ⟨o,k,h,f⟩=>⟨k,by rw [h]; simp [hρ _ _ f]⟩)
 simp [execOp,hρ _ _ hx,this]
end
end Go.Proofs.YtellehgihceicaaGreatDoor
namespace Go.Proofs.YtellehgihceicaaGreatDoor
open Go Go.RowKit
variable {P:Program} {α:Type}
structure Flat (e:Ty P α) (f:α→List Ac):Prop where
 rd:∀{S w cs x},e.rd S w cs x→cs=f x
 own:∀ w x,e.own [] w (f x) x
 none:∀{F w cs x},e.own F w cs x→F=[]
theorem Flat.len{e:Ty P α}{f:α→List Ac}(g:Flat e f)(w:Af)(x:α):(f x).length=e.sz:=e.rd_len (e.own_rd (g.own w x))
theorem Flat.ones{e:Ty P α}{f:α→List Ac}(g:Flat e f)(w:Af)(x:α):∀ c ∈ f x,c.oneCell'=true:=e.rd_one (e.own_rd (g.own w x))
theorem Flat.z3{e:Ty P α}{f:α→List Ac}(g:Flat e f)(w:Af):∀ l:List α,Z3 (fun F cs x=>e.own F w cs x) (l.map fun _=>[]) (l.map f) l
 | []=>trivial
 | x::l=>⟨g.own w x,Flat.z3 g w l⟩
theorem Flat.of_z3{e:Ty P α}{f:α→List Ac}(g:Flat e f){w:Af}:∀{Fs:List (Ap)}{css:List (List Ac)}{l:List α},Z3 (fun F cs x=>e.own F w cs x) Fs css l→Fs.flatten=[]∧css=l.map f
 | [],[],[],_=>⟨rfl,rfl⟩
 | F::Fs,cs::css,x::l,h=>by
  obtain ⟨h1,s⟩:=Flat.of_z3 g h.2
  have m:=g.none h.1
  subst m
  exact ⟨by simpa using h1,by rw [s,g.rd (e.own_rd h.1)]; rfl⟩
 | [],[],_::_,h=>h.elim
 | [],_::_,_,h=>h.elim
 | _::_,[],_,h=>h.elim
 | _::_,_::_,[],h=>h.elim
theorem QH(l:List α):(l.map fun _=>([]:Ap)).flatten=[]:=by induction l <;> simp_all
theorem Og(f:α→List Ac)(sz:Nat)(h:∀ x,(f x).length=sz)(l:List α):(l.map f).flatten.length=l.length*sz:=by
 rw [LH (sz:=sz) (fun c e=>by obtain ⟨x,_,rfl⟩:=List.mem_map.1 e; exact h x),List.length_map]
theorem HU{e:Ty P α}{f:α→List Ac}(m:Flat e f){F:Ap}{w:Af}{v:Ac}{l:List α} :
  ownS e F w v l↔(v=.slice none 0 0∧l=[]∧F=[])∨∃ g cap cur,v=.slice (some ⟨g,0,none⟩) l.length cap∧w.heap[g]? = some (.cells cur e.tid (0,0))∧l.length≤cap∧cap≤maxLen ∧
   cur.size=cap*e.sz∧cur.toList.take (l.length*e.sz)=(l.map f).flatten∧F=[g]:=by
 constructor
 rintro (h|⟨g,cap,cur,css,Fs,h1,h2,h3,h4,h5,h6,h7,h8⟩)
 exact .inl h
 obtain ⟨u,s⟩:=m.of_z3 h7
 exact .inr ⟨g,cap,cur,h1,h2,h3,h4,h5,by rw [h6,s],by rw [h8,u]⟩
 rintro (h|⟨g,cap,cur,h1,h2,h3,h4,h5,h6,h7⟩)
 exact .inl h
 exact .inr ⟨g,cap,cur,l.map f,l.map fun _=>[],h1,h2,h3,h4,h5,h6,m.z3 w l,by rw [h7,QH]⟩
theorem Aev{e:Ty P α}{f:α→List Ac}(hf:Flat e f){S:Nat→Prop}{w:Af}{l:List α}{h:Addr}(aj:∀(i:Nat) x,l[i]? = some x→ElemAt e S w (h.add (i*e.sz)) x) :
  ∀(j:Nat) u,(l.map f).flatten[j]? = some u→w.cell? (h.add j)=some u:=by
 have h2:∀(m:List α)(k:Nat),(∀(i:Nat) x,m[i]? = some x→ElemAt e S w (h.add ((k+i)*e.sz)) x)→∀(j:Nat) u,(m.map f).flatten[j]? = some u→w.cell? (h.add (k*e.sz+j))=some u:=by
  intro m
  induction m with
  | nil=>intro k _ j u g; simp at g
  | cons x m ih =>
   intro k s j u g
   have v:=hf.len w x
   rw [List.map_cons,List.flatten_cons,List.getElem?_append] at g
   split at g
   obtain ⟨_,cs,ag,hc⟩:=s 0 x rfl
   rw [hf.rd ag] at hc
   have:=hc j u g
   rwa [Ro] at this
   rename_i hj
   have:=ih (k+1) (fun i y hy=>by
    have:=s (i+1) y (by simpa using hy)
    rwa [show k+1+i=k+(i+1) by omega]) (j-(f x).length) u g
   rw [v] at this
   rwa [show (k+1)*e.sz+(j-e.sz)=k*e.sz+j by rw [Nat.succ_mul]; rw [v] at hj; omega] at this
 intro j u g
 have:=h2 l 0 (fun i x hx=>by simpa using aj i x hx) j u g
 simpa using this
theorem Zp{l m r:List α}(h:BB l m=some r):r=l++m∧l.length+m.length≤1073741824:=by
 unfold BB at h
 split at h
 rename_i e
 exact ⟨(Option.some.inj h).symm,e⟩
 cases h
theorem Zi{k b:Nat}(h:k≤1073741824)(e:b≤65536):k*b≤140737488355328 :=
 Az (Nat.mul_le_mul h e) (by decide)

theorem Qm{P:Program}(w:Af)(base:Nat)(t ty e:TypeId)(i:TypeInfo)(z:Ac)(f al:Nat)(ht:P.underlying t=some (.slice e))(hi:P.info? e=some i)(hz:i.zero=some z)
  (az:i.size=f) (a6:i.bytes=al) (a0:z.cells.size=f)
  (v:Ac) (n:Nat) (l:List Ac) (ac:w.ownsRow base e f v n l)
  (a:Addr) (m c:Nat) (h:List Ac) (hl:h.length=m*f) (ak:∀(j:Nat) u,h[j]? = some u→w.cell? (a.add j)=some u) (h1:∀ u ∈ h,u.oneCell'=true)
  (aw:n+m≤maxLen) (au:(n+m)*al≤140737488355328) (ay:base≤w.heap.size) :
  ∃ v' w',(Builtin.append_ #[t,t] ty #[v,.slice (some a) m c]).run P w=.ok v' w'∧w'.ownsRow base e f v' (n+m) (l++h)∧w.grownBy w' v.ownBlock ∧
   (v'.ownBlock=v.ownBlock∨v'.ownBlock=some w.heap.size):=by
 subst az
 subst a6
 have bc:n+m≤9223372036854775807:=by simp only [maxLen] at aw; omega
 have ag:(l++h).length=(n+m)*i.size:=by rw [Cy,ac.1,hl,Nat.add_mul]
 have ap:∀(s:Nat),s<n+m→∀(ar:Ae Nat),
   (w.drew.alloc (.cells (l.toArray++h.toArray++Builtin.zeroCells z.cells (grownCap w (n+m) s e-(n+m))) e)).ownsRow base e i.size
    (.slice (some ⟨w.heap.size,0,none⟩) (n+m) (grownCap w (n+m) s e)) (n+m) (l++h) ∧
   w.grownBy (w.drew.alloc (.cells (l.toArray++h.toArray++Builtin.zeroCells z.cells (grownCap w (n+m) s e-(n+m))) e)) ar:=by
  intro s ho ar
  have ba:=grownCap_ge w (n+m) s e
  have ao:grownCap w (n+m) s e≤maxLen:=grownCap_le_maxLen w (n+m) s e aw
  refine ⟨⟨ag,.inr ⟨w.heap.size,_,_,rfl,ay,heap_alloc_new w.drew _,ba,ao,?_,?_⟩⟩,⟨rfl,rfl,rfl,by simp,fun k hk _=>Below.heap_alloc w.drew _ k hk⟩⟩
  simp only [Array.size_append,List.size_toArray,size_zeroCells,a0,ac.1,hl,← Nat.add_mul]
  congr 1
  omega
  simp only [Array.toList_append,List.append_assoc]
  rw [← List.append_assoc,← ag]
  exact List.take_left
 rcases ac.2 with ⟨rfl,rfl⟩|⟨g,cap,am,rfl,a7,hg,bb,ao,a5,a4⟩
 have hx:l=[]:=List.eq_nil_of_length_eq_zero (by simpa using ac.1)
 subst hx
 by_cases hm:m=0
 subst hm
 have hn:h=[]:=List.eq_nil_of_length_eq_zero (by simpa using hl)
 subst hn
 refine ⟨.slice none 0 0,w,?_,World.ownsRow_nil w base e i.size,⟨rfl,rfl,rfl,Nat.le_refl _,fun _ _ _=>rfl⟩,.inl rfl⟩
 simp [Builtin.append_,run_underlying ht,sizeOf,typeInfo,hi,Builtin.lenOf,Builtin.firstCells,loadCells,loadCellsFrom]
 have hr:=run_append_nil (P:=P) w t ty e i z ht hi hz a m c h hl ak (by omega) (by omega) (by have hb:=au; simp only [Nat.zero_add] at hb; omega)
 have ab:=ap 0 (by omega) (Value.ownBlock (.slice none 0 0))
 simp only [Nat.zero_add,List.nil_append,Array.empty_append] at ab ⊢
 exact ⟨_,_,hr,ab.1,ab.2,.inr rfl⟩
 by_cases aj:n+m≤cap
 have ax:n*i.size+h.length≤am.size:=by rw [hl,a5,← Nat.add_mul]; exact Nat.mul_le_mul_right _ aj
 have hr:=run_append_room (P:=P) w t ty e i ht hi g n cap am hg a m c h hl ak h1 aj ax
 refine ⟨_,_,hr,⟨ag,.inr ⟨g,cap,_,rfl,a7,setRow_heap w g am _ e _ hg,aj,ao,?_,?_⟩⟩,⟨rfl,rfl,rfl,by simp,fun k _ hk=>setRow_other w g k _ (fun e=>hk (by simp [Value.ownBlock,e]))⟩,.inl rfl⟩
 simp only [List.size_toArray,Cy,List.length_take,List.length_drop,Array.length_toList]
 omega
 rw [a4,← ag]
 exact List.take_left
 have a2:∀(j:Nat) u,l[j]? = some u→w.cell? ((⟨g,0,none⟩:Addr).add j)=some u:=ac.cells (g:=g) rfl
 have hr:=run_append_grow (P:=P) w t ty e i z ht hi hz ⟨g,0,none⟩ n cap l ac.1 a2 a m c h hl ak (by omega) (by omega) (growslice_fits (by omega) au)
 have ab:=ap cap (by omega) (Value.ownBlock (.slice (some ⟨g,0,none⟩) n cap))
 exact ⟨_,_,hr,ab.1,ab.2,.inr rfl⟩
section
variable {n:Nat} {σ:EY} {w w0:Af} {Q:Exit→Act→Af→Prop} {L:List Res}
variable {ds:List (Ae Tmp)} {d:Nat} {T U:TypeId} {pos:String} {af:Array Edge} {rest:List Oper} {x y z:Operand} {sz:Nat} {agg:Bool} {zv:Ac}
theorem Vm{e:Ty P α}{f:α→List Ac}(hf:Flat e f)(s:P.underlying U=some (.slice e.tid)){base:Nat}{F:Ap}{v v2:Ac}{l m r:List α}{S:Nat→Prop}
  (ho:ownS e F w v l) (hF:∀ b ∈ F,base≤b) (hm:rdS e S w v2 m) (a8:BB l m=some r) (a7:base≤w.heap.size) :
  ∃ v' w' F',(Builtin.append_ #[U,U] T #[v,v2]).run P w=.ok v' w'∧ownS e F' w' v' r∧w.grownBy w' v.ownBlock∧F'.Nodup∧(∀ b ∈ F',b ∈ F∨(w.heap.size≤b∧b<w'.heap.size))∧(∀ k,v.ownBlock=some k→k ∈ F):=by
 obtain ⟨rfl,be⟩:=Zp a8
 obtain ⟨i,zz,ah,bn,bh,hz,ba⟩:=e.info
 have a2:=fun x=>hf.len w x
 have aw:w.ownsRow base e.tid e.sz v l.length (l.map f).flatten:=by
  refine ⟨Og f e.sz a2 l,?_⟩
  rcases (HU hf).1 ho with ⟨h1,h2,h3⟩|⟨g,cap,ai,h1,h2,h3,h4,h5,h6,h7⟩
  exact .inl ⟨h1,by rw [h2]; rfl⟩
  exact .inr ⟨g,cap,ai,h1,hF g (by rw [h7]; simp),h2,h3,h4,h5,h6⟩
 have am:∀ k,v.ownBlock=some k→k ∈ F:=by
  intro k hk
  rcases (HU hf).1 ho with ⟨h1,h2,h3⟩|⟨g,cap,ai,h1,h2,h3,h4,h5,h6,h7⟩
  rw [h1] at hk; cases hk
  rw [h1] at hk
  simp [Value.ownBlock] at hk
  rw [h7,← hk]; simp
 have bm:zz.cells.size=e.sz:=by rw [ba]; simp; exact e.rd_len (e.own_rd (e.zero_own w))
 obtain ⟨a,cap,rfl,bo,hm⟩:=hm
 rcases hm with rfl|⟨ad,rfl,bl⟩
 -- nothing is appended
 have bd:∃ w',(Builtin.append_ #[U,U] T #[v,.slice a ([]:List α).length cap]).run P w=.ok v w'∧w'=w:=by
  have hs:∀ xs,w.ownsRow base e.tid e.sz v l.length xs→(Builtin.append_ #[U,U] T #[v,.slice a 0 cap]).run P w=.ok v w:=by
   intro xs hx
   rcases hx.2 with ⟨rfl,hn⟩|⟨g,c,ai,rfl,hb,hg,hn,hm,hc,ht⟩
   cases a with
   | none=>simp [Builtin.append_,run_underlying s,sizeOf,typeInfo,ah,Builtin.lenOf,Builtin.firstCells,loadCells,loadCellsFrom]
   | some a=>simp [Builtin.append_,run_underlying s,sizeOf,typeInfo,ah,Builtin.lenOf,Builtin.firstCells,loadCells,loadCellsFrom]
   cases a with
   | none=>simp [Builtin.append_,run_underlying s,sizeOf,typeInfo,ah,Builtin.lenOf,Builtin.firstCells,loadCells,loadCellsFrom,hn,storeCells]
   | some a=>simp [Builtin.append_,run_underlying s,sizeOf,typeInfo,ah,Builtin.lenOf,Builtin.firstCells,loadCells,loadCellsFrom,hn,storeCells]
  exact ⟨w,hs _ aw,rfl⟩
 obtain ⟨w',a6,rfl⟩:=bd
 refine ⟨v,w',F,a6,by simpa using ho,⟨rfl,rfl,rfl,Nat.le_refl _,fun _ _ _=>rfl⟩,?_,fun b hb=>.inl hb,am⟩
 rcases (HU hf).1 ho with ⟨_,_,rfl⟩|⟨g,_,_,_,_,_,_,_,_,rfl⟩ <;> simp
 have a5:=Aev hf bl
 have bi:(l.length+m.length)*e.bts≤140737488355328:=Zi be e.bts_le
 obtain ⟨v',w',hr,h2,h3,a4⟩:=Qm (P:=P) w base U T e.tid i zz e.sz e.bts s ah hz bn bh bm v l.length _ aw ad m.length cap (m.map f).flatten
  (Og f e.sz a2 m) a5 (fun u s=>by
   obtain ⟨c,hc,s⟩:=List.mem_flatten.1 s
   obtain ⟨x,_,rfl⟩:=List.mem_map.1 hc
   exact hf.ones w x u s) (by simp only [maxLen]; omega) bi a7
 rcases h2.2 with ⟨rfl,hn⟩|⟨g,c,ai,rfl,hb,hg,hn,hm,hc,ht⟩
 have e1:l=[]:=List.eq_nil_of_length_eq_zero (by omega)
 have e2:m=[]:=List.eq_nil_of_length_eq_zero (by omega)
 subst e1; subst e2
 exact ⟨_,w',[],hr,.inl ⟨rfl,rfl,rfl⟩,h3,.nil,fun b hb=>(by cases hb),am⟩
 refine ⟨_,w',[g],hr,(HU hf).2 (.inr ⟨g,c,ai,by simp,hg,by simpa using hn,hm,hc,by simpa using ht,rfl⟩),h3,by simp,fun b ay=>?_,am⟩
 simp at ay
 subst ay
 rcases a4 with h|h
 exact .inl (am b (by rw [← h]; rfl))
 simp [Value.ownBlock] at h
 exact .inr ⟨by omega,(Array.getElem?_eq_some_iff.1 hg).1⟩
theorem Xi{i:Nat}{e:Ty P α}{F F':Ap}{v m:Ac}{l r:List α}{w':Af}(s:Sep w0.heap.size w L)(u:Ey L i=some (Ab e F v l))(h:Below w0.heap.size w0 w)
  (ho:ownS e F' w' m r) (g:w.grownBy w' v.ownBlock) (ah:F'.Nodup) (hF:∀ b ∈ F',b ∈ F∨(w.heap.size≤b∧b<w'.heap.size)) (aa:∀ k,v.ownBlock=some k→k ∈ F) :
  Below w0.heap.size w0 w'∧Sep w0.heap.size w' (N2 L i (Ab e F' m r)):=by
 have ag:=(s.get u).2.1
 refine ⟨h.grown g h.size fun k f=>(ag k (aa k f)).1,s.upd u g.size (fun b _ ab hb=>g.block b ab fun e=>hb (aa b e.symm)) ah hF h.size fun ai f=>?_⟩
 exact ho.keep f
theorem AE{e:Ty P α}{f:α→List Ac}(hf:Flat e f){F:Ap}{v v2:Ac}{l m r:List α}{S:Nat→Prop}{i:Nat}(hu:P.underlying U=some (.slice e.tid))(hn:Nat.blt d n=true)
  (hx:B5 σ x=some v) (hy:B5 σ y=some v2) (hB:Below w0.heap.size w0 w) (hS:Sep w0.heap.size w L) (hg:Ey L i=some (Ab e F v l)) (hm:rdS e S w v2 m) (am:BB l m=some r)
  (h:∀ s F' w',(w.heap.size≤w'.heap.size∧(∀ b,b<w.heap.size→b ∉ F→w'.heap[b]? = w.heap[b]?)∧∀ b ∈ F',b ∈ F∨w.heap.size≤b)→Below w0.heap.size w0 w'→Sep w0.heap.size w' (N2 L i (Ab e F' s r))→WL P n ds rest ((d,s)::σ) w' Q) :
  WL P n ds (⟨some d,.call ⟨.builtin .append,#[x,y],#[U,U]⟩,T,pos,af,none⟩::rest) σ w Q:=by
 obtain ⟨s,w',F',ak,ho,u,aw,hF,ag⟩:=Vm (T:=T) hf hu (hS.ok hg:ownS e F w v l) (fun b g=>((hS.get hg).2.1 b g).1) hm am hB.size
 obtain ⟨av,aj⟩:=Xi hS hg hB ho u aw hF ag
 exact C6 hn (fun ρ hρ=>by simp [execOp,resolve,invoke,builtin,hρ _ _ hx,hρ _ _ hy,ak]) (h s F' w' ⟨u.size,fun b ai g=>u.block b ai fun e=>g (ag b e.symm),fun b g=>(hF b g).imp id fun h=>h.1⟩ av aj)
theorem ZM(vs:List Ac):∀(cs:List Ac)(off k:Nat),off+k+vs.length≤cs.length →
  (vs.zipIdx k).foldl (fun (cs:Array Ac) (p:Ac×Nat)=>cs.setIfInBounds (off+p.2) p.1) cs.toArray=(D8 cs (off+k) vs).toArray:=by
 induction vs with
 | nil=>intro cs off k _; simp [D8]
 | cons v r e =>
  intro cs off k h
  simp only [List.length_cons] at h
  rw [List.zipIdx_cons,List.foldl_cons]
  have f:=e (cs.set (off+k) v) off (k+1) (by simp; omega)
  simp only [List.setIfInBounds_toArray]
  rw [f]
  congr 1
  unfold D8
  have h1:(cs.set (off+k) v).take (off+(k+1))=cs.take (off+k)++[v]:=by
   rw [show off+(k+1)=off+k+1 by omega,List.take_succ_eq_append_getElem (by simp; omega),List.take_set,List.set_eq_of_length_le (by simp; omega)]
   simp
  rw [h1]
  simp only [List.append_assoc,List.singleton_append,List.cons_append,List.nil_append,List.length_cons]
  rw [List.drop_set_of_lt (by omega),show off+(k+1)+r.length=off+k+(r.length+1) by omega]
def Ox(places:List (Nat×Nat)):List Ac→List (Nat×List Ac)→Ae (List Ac)
 | cells,[]=>some cells
 | cells,(i,vs)::rest =>
  match places[i]? with
  | none=>none
  | some (off,size)=>bif Nat.beq vs.length size&&Nat.ble (off+vs.length) cells.length then Ox places (D8 cells off vs) rest else none
theorem Wu(l:Nat→Ae (Nat×Nat))(m:List (Nat×Nat))(hp:∀ i o s,m[i]? = some (o,s)→l i=some (o,s)):∀(parts:List (Nat×Ac))(ps:List (Nat×List Ac))(e out:List Ac),
  (parts.map fun p=>(p.1,p.2.cells))=(ps.map fun p=>(p.1,p.2.toArray))→Ox m e ps=some out→Instr.fill l e.toArray parts=some out.toArray
 | [],[],e,out,_,h=>by
  rw [Ox] at h
  rw [Instr.fill,Option.some.inj h]
 | [],_::_,_,_,h,_=>by simp at h
 | _::_,[],_,_,h,_=>by simp at h
 | (i,v)::parts,(j,vs)::ps,e,out,g,h=>by
  simp only [List.map_cons,List.cons.injEq,Prod.mk.injEq] at g
  obtain ⟨⟨rfl,hv⟩,g⟩:=g
  rw [Ox] at h
  cases aa:m[i]? with
  | none=>rw [aa] at h; cases h
  | some q =>
   obtain ⟨off,u⟩:=q
   rw [aa] at h
   simp only at h
   cases f:(Nat.beq vs.length u&&Nat.ble (off+vs.length) e.length) with
   | false=>rw [f] at h; cases h
   | true =>
    rw [f] at h
    rw [Cq] at f
    have e1:=Nat.eq_of_beq_eq_true f.1
    have e2:=Nat.le_of_ble_eq_true f.2
    rw [Instr.fill,hp i off u aa]
    have ah:v.cells.size=vs.length:=by rw [hv]; simp
    simp only [ah]
    rw [if_neg (by simp [e1]; omega)]
    have hf:=ZM vs e off 0 (by omega)
    simp only [Nat.add_zero] at hf
    have e3:v.cells.zipIdx.foldl (fun (cs:Array Ac) (p:Ac×Nat)=>cs.setIfInBounds (off+p.2) p.1) e.toArray=(D8 e off vs).toArray:=by
     rw [← hf,← Array.foldl_toList,hv]
     simp
    exact (congrArg (fun c=>Instr.fill l c parts) e3).trans (Wu l m hp parts ps _ out g h)
end
end Go.Proofs.YtellehgihceicaaGreatDoor
namespace Go.Proofs.YtellehgihceicaaGreatDoor
open Go Go.RowKit
variable {P:Program} {α:Type}
section
variable {n:Nat} {σ:EY} {w w0:Af} {Q:Exit→Act→Af→Prop} {L:List Res}
variable {ds:List (Ae Tmp)} {d:Nat} {T U:TypeId} {pos:String} {af:Array Edge} {rest:List Oper} {x y z:Operand} {sz:Nat} {agg:Bool} {zv:Ac}
def Ik(P:Program)(U:TypeId)(places:List (Nat×Nat)):Bool :=
 match P.underlying U with
 | some (.struct fs)=>Nat.beq fs.size places.length&&(places.zipIdx.all fun p=>match fs[p.2]? with
  | some f=>Nat.beq f.offset p.1.1&&(match P.info? f.type with
   | some i=>Nat.beq i.size p.1.2
   | none=>false)
  | none=>false)
 | _=>false
theorem Xl{e:List (Nat×Nat)}(hp:Ik P U e=true)(hz:∀ w,(zeroValue U).run P w=.ok zv w){zs out:List Ac}(ao:zv.cells=zs.toArray)
  {parts:List (Nat×Ac)} {ps:List (Nat×List Ac)} (au:(parts.map fun p=>(p.1,p.2.cells))=(ps.map fun p=>(p.1,p.2.toArray))) (m:Ox e zs ps=some out) (w:Af) :
  (Instr.build U parts.toArray).run P w=.ok (.agg out.toArray) w:=by
 unfold Ik at hp
 split at hp
 case h_2=>cases hp
 rename_i u hu
 rw [Cq] at hp
 obtain ⟨h1,h2⟩:=hp
 have aj:=Nat.eq_of_beq_eq_true h1
 have ax:∀(i o s:Nat),e[i]? = some (o,s)→∃(f:Field)(ab:TypeInfo),u[i]? = some f∧f.offset=o∧P.info? f.type=some ab∧ab.size=s:=by
  intro i o s hi
  rw [List.all_eq_true] at h2
  have al:((o,s),i) ∈ e.zipIdx:=by
   rw [List.mem_zipIdx_iff_getElem?]
   exact hi
  have:=h2 _ al
  simp only at this
  cases m:u[i]? with
  | none=>rw [m] at this; cases this
  | some f =>
   rw [m] at this
   simp only [Cq] at this
   cases v:P.info? f.type with
   | none=>rw [v] at this; exact absurd this.2 (by simp)
   | some ab =>
    rw [v] at this
    exact ⟨f,ab,rfl,Nat.eq_of_beq_eq_true this.1,v,Nat.eq_of_beq_eq_true this.2⟩
 have aw:∀(l:List Field)(k:Nat),(∀ i f,l[i]? = some f→u[k+i]? = some f)→(l.mapM fun (f:Field)=>(do pure (f.offset,← sizeOf f.type):Sem (Nat×Nat))).run P w=.ok ((e.drop k).take l.length) w:=by
  intro l
  induction l with
  | nil=>intro k _; simp
  | cons f l ih =>
   intro k hk
   have h0:=hk 0 f rfl
   simp only [Nat.add_zero] at h0
   have ad:k<e.length:=by rw [← aj]; exact (Array.getElem?_eq_some_iff.1 h0).1
   obtain ⟨f',ab,ae,ho,v,hs⟩:=ax k e[k].1 e[k].2 (by simp [ad])
   rw [h0] at ae
   cases ae
   have ag:=ih (k+1) (fun i g hg=>by have:=hk (i+1) g (by simpa using hg); rwa [show k+1+i=k+(i+1) by omega])
   rw [List.mapM_cons]
   simp only [Sem.run_bind,sizeOf,typeInfo,run_program,Result.andThen_ok,v,Sem.run_pure] at ag ⊢
   rw [ag]
   simp only [Result.andThen_ok,Sem.run_pure]
   congr 1
   rw [List.drop_eq_getElem_cons ad,List.length_cons,List.take_succ_cons]
   simp [ho,hs]
 have ak:(u.mapM fun (f:Field)=>(do pure (f.offset,← sizeOf f.type):Sem (Nat×Nat))).run P w=.ok e.toArray w:=by
  have h:=aw u.toList 0 (fun i f m=>by simpa using m)
  rw [Array.mapM_eq_mapM_toList]
  simp only [Sem.run_map,h,Result.andThen_ok]
  congr 1
  simp [aj]
 have az:=Wu (e.toArray[·]?) e (fun i o s h=>by simpa using h) parts ps zs out au m
 unfold Instr.build
 simp only [Sem.run_bind,hz,Result.andThen_ok,Sem.run_pure,run_underlying hu,ak,ao,az]
theorem Um{ρ:Operand→Ac}(h:∀ x v,B5 σ x=some v→ρ x=v):∀(parts:List (Nat×Operand))(vs:List Ac)(css:List (List Ac)),(parts.map fun p=>B5 σ p.2)=vs.map some→vs.map (·.cells)=css.map (·.toArray) →
  ((parts.map fun p=>(p.1,ρ p.2)).map fun p=>(p.1,p.2.cells))=(((parts.map (·.1)).zip css).map fun p=>(p.1,p.2.toArray)):=by
 intro parts
 induction parts with
 | nil=>intro vs css _ _; simp
 | cons p parts g =>
  intro vs css e f
  cases vs with
  | nil=>simp at e
  | cons v vs =>
   cases css with
   | nil=>simp at f
   | cons cs css =>
    simp only [List.map_cons,List.cons.injEq,List.zip_cons_cons,Prod.mk.injEq,true_and] at e f ⊢
    exact ⟨by rw [h _ _ e.1]; exact f.1,g vs css e.2 f.2⟩
theorem DS{e:List (Nat×Nat)}{zs out:List Ac}{parts:List (Nat×Operand)}{vs:List Ac}{css:List (List Ac)}(f:TF P U sz agg zv)(u:Ik P U e=true)(l:Nat.blt d n=true)
  (m:(parts.map fun p=>B5 σ p.2)=vs.map some) (s:vs.map (·.cells)=css.map (·.toArray)) (aa:zv.cells=zs.toArray) (v:Ox e zs ((parts.map (·.1)).zip css)=some out)
  (h:WL P n ds rest ((d,.agg out.toArray)::σ) w Q):WL P n ds (⟨some d,.build U parts.toArray,T,pos,af,none⟩::rest) σ w Q:=by
 refine C6 l (fun ρ g=>?_) h
 have:=Xl (zv:=zv) u f.hzero aa (parts:=parts.map fun p=>(p.1,ρ p.2)) (ps:=(parts.map (·.1)).zip css) (Um g parts vs css m s) v w
 simp only [execOp,List.map_toArray,Sem.run_bind,this,Result.andThen_ok,Sem.run_pure]
theorem Ch{v:Ac}(h:v.oneCell'=true):v.cells=#[v]:=by
 cases v <;> first|rfl|cases h
theorem QY(zs:List Ac)(n:Nat):(madeCells zs.toArray (n*zs.length)).toList=(List.replicate n zs).flatten:=by
 apply List.ext_getElem?
 intro j
 simp only [madeCells,Array.toList_map,Array.toList_range,List.getElem?_map,List.size_toArray]
 by_cases e:j<n*zs.length
 have l:0<zs.length:=by
  rcases Nat.eq_zero_or_pos zs.length with h|h
  rw [h] at e; simp at e
  exact h
 have s:j / zs.length<n:=(Nat.div_lt_iff_lt_mul l).2 e
 have g:j%zs.length<zs.length:=Nat.mod_lt _ l
 have:=QI (cs:=List.replicate n zs) (sz:=zs.length) (fun c f=>by rw [List.eq_of_mem_replicate f]) (j / zs.length) (j%zs.length) zs (by simp [List.getElem?_replicate,s]) (zs[j%zs.length]) (by simp [g])
 rw [show j / zs.length*zs.length+j%zs.length=j by rw [Nat.mul_comm]; exact Nat.div_add_mod j zs.length] at this
 rw [this]
 simp [e,g,List.getElem?_range]
 have m:((List.replicate n zs).flatten).length=n*zs.length:=by rw [LH (sz:=zs.length) (fun c f=>by rw [List.eq_of_mem_replicate f])]; simp
 rw [show ((List.replicate n zs).flatten)[j]? = none from List.getElem?_eq_none (by rw [m]; omega)]
 simp [List.getElem?_range,e]
theorem Afg{sz:Nat}:∀(css:List (List Ac))(k m:Nat)(done e:List Ac),(∀ c ∈ css,c.length=sz)→done.length=k*sz→e.length=css.length*sz→k+css.length≤m →
  Ox ((List.range m).map fun i=>(i*sz,sz)) (done++e) ((List.range' k css.length).zip css)=some (done++css.flatten):=by
 intro css
 induction css with
 | nil=>intro k m done e _ _ f _; simp at f; subst f; simp [Ox]
 | cons c css u =>
  intro k m done e s l f v
  simp only [List.length_cons] at f v
  have g:=s c (by simp)
  have ae:sz≤e.length:=by rw [f,Nat.succ_mul]; omega
  rw [List.length_cons,List.range'_succ,List.zip_cons_cons,Ox]
  have hp:((List.range m).map fun i=>(i*sz,sz))[k]? = some (k*sz,sz):=by simp [List.getElem?_range (show k<m by omega)]
  rw [hp]
  have e1:Nat.beq c.length sz=true:=by rw [g]; exact Nat.beq_refl sz
  have e2:Nat.ble (k*sz+c.length) (done++e).length=true:=by rw [Nat.ble_eq,Cy,l,g]; omega
  simp only [e1,e2,Bool.and_self,cond_true]
  have e3:D8 (done++e) (k*sz) c=(done++c)++e.drop sz:=by
   unfold D8
   rw [← l,List.take_left,List.drop_append,g]
   simp
  rw [e3,u (k+1) m (done++c) (e.drop sz) (fun c' h=>s c' (by simp [h])) (by rw [Cy,l,g,Nat.succ_mul]) (by rw [List.length_drop,f,Nat.succ_mul]; omega) (by omega)]
  simp
theorem Ob{e:Ty P α}(hu:P.underlying U=some (.slice e.tid)){parts:List (Nat×Ac)}{css:List (List Ac)}(ac:(parts.map fun p=>(p.1,p.2.cells))=((List.range css.length).zip css).map fun p=>(p.1,p.2.toArray))
  (f:∀ c ∈ css,c.length=e.sz) (ah:css.length*e.sz≤16777216) (w:Af) :
  (Instr.buildSlice U css.length parts.toArray).run P w=.ok (.slice (some ⟨w.heap.size,0,none⟩) css.length css.length) (w.alloc (.cells css.flatten.toArray e.tid)):=by
 obtain ⟨i,zz,g,u,am,hz,aj⟩:=e.info
 have ad:e.zero.length=e.sz:=e.rd_len (e.own_rd (e.zero_own w))
 have ai:Instr.fill (fun i=>some (i*e.sz,e.sz)) (madeCells zz.cells (css.length*e.sz)) parts=some css.flatten.toArray:=by
  have e0:madeCells zz.cells (css.length*e.sz)=((List.replicate css.length e.zero).flatten).toArray:=by
   apply Array.toList_inj.1
   rw [aj,← ad,QY]
  rw [e0]
  refine Wu _ ((List.range css.length).map fun i=>(i*e.sz,e.sz)) (fun i o s h=>?_) parts ((List.range css.length).zip css) _ _ ac ?_
  rw [List.getElem?_map] at h
  rcases Nat.lt_or_ge i css.length with l|l
  rw [List.getElem?_range l] at h
  simpa using h
  rw [List.getElem?_eq_none (by simpa using l)] at h
  cases h
  have h:=Afg (sz:=e.sz) css 0 css.length [] ((List.replicate css.length e.zero).flatten) f (by simp) (by rw [LH (sz:=e.sz) (fun c f=>by rw [List.eq_of_mem_replicate f]; exact ad)]; simp) (by omega)
  simpa [List.range_eq_range'] using h
 unfold Instr.buildSlice
 by_cases m:css.length*e.sz=0
 have al:css=[]:=by
  rcases Nat.mul_eq_zero.1 m with h|h
  exact List.eq_nil_of_length_eq_zero h
  exact absurd h (Nat.ne_of_gt e.sz_pos)
 subst al
 have ak:parts=[]:=by simpa using ac
 subst ak
 simp [run_underlying hu,sizeOf,typeInfo,g,u,Instr.fill,newRow,Array.range_zero']
 simp only [Sem.run_bind,run_underlying hu,Result.andThen_ok,sizeOf,typeInfo,run_program,g,Sem.run_pure,u]
 rw [if_neg (by simpa using ah)]
 simp only [m,if_false,Sem.run_bind,zeroValue,typeInfo,run_program,Result.andThen_ok,g,hz,Sem.run_pure]
 have v:=ai
 unfold madeCells at v
 rw [v]
 simp [newRow]
theorem AZ{e:Ty P α}{f:α→List Ac}(hf:Flat e f){parts:List (Nat×Operand)}{vs:List Ac}{l:List α}{k:Nat}(hu:P.underlying U=some (.slice e.tid))(hn:Nat.blt d n=true)
  (hk:l.length=k) (aj:parts.map (·.1)=List.range k) (hx:(parts.map fun p=>B5 σ p.2)=vs.map some) (hc:vs.map (·.cells)=l.map fun u=>(f u).toArray) (ar:Nat.ble (k*e.sz) 65536=true)
  (hB:Below w0.heap.size w0 w) (hS:Sep w0.heap.size w L)
  (h:∀ v F w',Below w.heap.size w w'→Below w0.heap.size w0 w'→Sep w0.heap.size w' (Ab e F v l::L)→WL P n ds rest ((d,v)::σ) w' Q) :
  WL P n ds (⟨some d,.buildSlice U k parts.toArray,T,pos,af,none⟩::rest) σ w Q:=by
 have ad:=fun x=>hf.len w x
 have av:=Nat.le_of_ble_eq_true ar
 refine C6 (w':=w.alloc (.cells (l.map f).flatten.toArray e.tid)) (v:=.slice (some ⟨w.heap.size,0,none⟩) l.length l.length) hn (fun ρ hρ=>?_)
  (h _ [w.heap.size] _ (FC w _) (hB.trans ((FC w _).mono hB.size)) (hS.push (FC w _) (by simp [Ab]) (fun b s=>by simp [Ab] at s; subst s; simp) hB.size fun au ao=>?_))
 have am:∀(parts:List (Nat×Operand))(vs:List Ac)(l:List α)(m:Nat),parts.map (·.1)=List.range' m l.length→(parts.map fun p=>B5 σ p.2)=vs.map some→vs.map (·.cells)=l.map (fun u=>(f u).toArray) →
   ((parts.map fun p=>(p.1,ρ p.2)).map fun p=>(p.1,p.2.cells))=(((List.range' m l.length).zip (l.map f)).map fun p=>(p.1,p.2.toArray)):=by
  intro parts
  induction parts with
  | nil =>
   intro vs l m h1 _ _
   cases l with
   | nil=>rfl
   | cons _ _=>simp [List.range'_succ] at h1
  | cons p parts ih =>
   intro vs l m h1 g h3
   cases l with
   | nil=>simp at h1
   | cons u l =>
    cases vs with
    | nil=>simp at g
    | cons v vs =>
     simp only [List.map_cons,List.cons.injEq,List.length_cons,List.range'_succ,List.zip_cons_cons,Prod.mk.injEq] at h1 g h3 ⊢
     exact ⟨⟨h1.1,by rw [hρ _ _ g.1]; exact h3.1⟩,ih vs l (m+1) h1.2 g.2 h3.2⟩
 have s:=Ob (P:=P) hu (parts:=parts.map fun p=>(p.1,ρ p.2)) (css:=l.map f) (by
   have:=am parts vs l 0 (by rw [aj,hk,List.range_eq_range']) hx hc
   simpa [List.range_eq_range'] using this) (fun c hc=>by obtain ⟨u,_,rfl⟩:=List.mem_map.1 hc; exact ad u) (by simp [hk]; omega) w
 simp only [List.length_map,hk] at s
 simp only [execOp,List.map_toArray,Sem.run_bind,s,Result.andThen_ok,Sem.run_pure,hk]
 have hh:=ao w.heap.size (by simp [Ab])
 refine (HU hf).2 (.inr ⟨w.heap.size,l.length,_,rfl,by rw [hh,heap_alloc_new],Nat.le_refl _,?_,?_,?_,rfl⟩)
 simp only [maxLen]
 have:=e.sz_pos
 have g:k≤k*e.sz:=Nat.le_mul_of_pos_right k this
 omega
 simp [Og f e.sz ad l]
 rw [List.toList_toArray,List.take_of_length_le (by rw [Og f e.sz ad l]; exact Nat.le_refl _)]
theorem Sy{A B C:Type}{R:A→B→C→Prop}{a:A}{b:B}{c:C}(h:R a b c):∀ n,Z3 R (List.replicate n a) (List.replicate n b) (List.replicate n c)
 | 0=>trivial
 | n+1=>⟨h,Sy h n⟩
theorem Pm{e:Ty P α}{k:IntKind}{m:Int}{l:List α}(hu:P.underlying U=some (.slice e.tid))(hn:Nat.blt d n=true)(hx:B5 σ x=some (.int k m))(f:Uh m e.dflt=some l)
  (g:Below w0.heap.size w0 w) (hS:Sep w0.heap.size w L)
  (h:∀ v F w',Below w.heap.size w w'→Below w0.heap.size w0 w'→Sep w0.heap.size w' (Ab e F v l::L)→WL P n ds rest ((d,v)::σ) w' Q) :
  WL P n ds (⟨some d,.makeSlice U x x,T,pos,af,none⟩::rest) σ w Q:=by
 unfold Uh at f
 split at f
 case isFalse=>cases f
 rename_i s
 have ac:=(Option.some.inj f).symm
 subst ac
 obtain ⟨i,zz,ag,au,ap,hz,ai⟩:=e.info
 have ad:e.zero.length=e.sz:=e.rd_len (e.own_rd (e.zero_own w))
 have u:=run_make (P:=P) w U e.tid i zz hu ag hz k k m m s.1 (Int.le_refl _) (by
  rw [ap]
  have h1:(e.bts:Int)≤65536:=by have:=e.bts_le; omega
  have h2:(e.bts:Int)*m≤65536*1073741824:=Int.mul_le_mul h1 s.2 s.1 (by omega)
  omega) (by omega)
 rw [au,ai] at u
 refine C6 (w':=w.alloc (.cells (madeCells e.zero.toArray (m.toNat*e.sz)) e.tid)) (v:=.slice (some ⟨w.heap.size,0,none⟩) m.toNat m.toNat) hn (fun ρ hρ=>by simp [execOp,hρ _ _ hx,u])
  (h _ [w.heap.size] _ (FC w _) (g.trans ((FC w _).mono g.size)) (hS.push (FC w _) (by simp [Ab]) (fun b hb=>by simp [Ab] at hb; subst hb; simp) g.size fun aa am=>?_))
 have hh:=am w.heap.size (by simp [Ab])
 refine .inr ⟨w.heap.size,m.toNat,_,List.replicate m.toNat e.zero,List.replicate m.toNat [],by simp,by rw [hh,heap_alloc_new],by simp,by simp only [maxLen]; omega,by simp [madeCells],?_,Sy (R:=fun F cs x=>e.own F aa cs x) (a:=[]) (e.zero_own aa) _,?_⟩
 ·rw [← ad,QY,List.length_replicate,List.take_of_length_le]
  rw [LH (sz:=e.zero.length) (fun c hc=>by rw [List.eq_of_mem_replicate hc])]
  simp
 ·have:(List.replicate m.toNat ([]:Ap)).flatten=[]:=by induction m.toNat <;> simp_all [List.replicate_succ]
  rw [this]
def OPtr(sz:Nat)(v:Ac)(p:Addr)(k o:Nat):Prop:=∃ g c m,v=.slice (some ⟨g,0,none⟩) c m∧p=⟨g,k*sz+o,none⟩
theorem OPtr.add{sz:Nat}{v:Ac}{p:Addr}{k o:Nat}(h:OPtr sz v p k o)(j:Nat):OPtr sz v (p.add j) k (o+j):=by
 obtain ⟨g,c,m,h1,rfl⟩:=h
 exact ⟨g,c,m,h1,by rw [Addr.add_lit,Nat.add_assoc]⟩
theorem Co{e:Ty P α}{F:Ap}{v:Ac}{l:List α}{k:IntKind}{f:Int}{u:α}{i:Nat}(hu:P.underlying U=some (.slice e.tid))(hn:Nat.blt d n=true)
  (hx:B5 σ x=some v) (hy:B5 σ y=some (.int k f)) (hS:Sep w0.heap.size w L) (hg:Ey L i=some (Ab e F v l)) (hi:AG l f=some u)
  (h:∀ p cs,e.rd (·<w.heap.size) w cs u→EAt (·<w.heap.size) w p cs→OPtr e.sz v p f.toNat 0→WL P n ds rest ((d,.pointer (some p))::σ) w Q):WL P n ds (⟨some d,.indexAddr U x y,T,pos,af,none⟩::rest) σ w Q:=by
 have ho:ownS e F w v l:=hS.ok hg
 have hr:=hS.own_ro hg
 obtain ⟨h0,hl,aa⟩:=Of hi
 rcases ho with ⟨_,rfl,_⟩|⟨g,cap,a6,css,Fs,hv,ba,a1,hm,hc,ht,hz,hF⟩
 simp at aa
 subst hv
 obtain ⟨a,a7,he,az,s⟩:=hr
 injection he with m a0 a8
 rcases s with rfl|⟨ad,rfl,s⟩
 simp at aa
 injection m with m
 subst m
 obtain ⟨ii,zz,aj,ay,_⟩:=e.info
 obtain ⟨hb,cs,aq,av⟩:=s _ _ hl
 have ai:0≤f∧f<(l.length:Int):=⟨h0,by omega⟩
 refine C6 hn (fun ρ hρ=>?_) (h _ cs aq ⟨hb,av⟩ ⟨g,_,_,rfl,by rw [Addr.add_lit,Nat.zero_add,Nat.add_zero]⟩)
 simp [execOp,hρ _ _ hx,hρ _ _ hy,Instr.indexAt,asIntOf,run_underlying hu,sizeOf,typeInfo,aj,ay,ai]
theorem Wt{sz:Nat}{css:List (List Ac)}(f:∀ c ∈ css,c.length=sz):∀(k o:Nat)(vs c:List Ac),css[k]? = some c→o+vs.length≤sz →
  D8 css.flatten (k*sz+o) vs=(css.set k (D8 c o vs)).flatten:=by
 induction css with
 | nil=>intro k o vs c h _; simp at h
 | cons d r g =>
  intro k o vs c e s
  have m:d.length=sz:=f d (by simp)
  cases k with
  | zero =>
   simp at e
   subst e
   simp only [Nat.zero_mul,Nat.zero_add,List.set_cons_zero,List.flatten_cons,D8]
   rw [List.take_append_of_le_length (by omega),List.drop_append_of_le_length (by omega)]
   simp
  | succ k =>
   simp at e
   have:=g (fun c l=>f c (by simp [l])) k o vs c e s
   simp only [List.set_cons_succ,List.flatten_cons]
   rw [← this]
   unfold D8
   rw [show (k+1)*sz+o=d.length+(k*sz+o) by rw [m,Nat.succ_mul]; omega,List.take_length_add_append,show d.length+(k*sz+o)+vs.length=d.length+(k*sz+o+vs.length) by omega,List.drop_length_add_append]
   simp
theorem Cf{e:Ty P α}{f:α→List Ac}(hf:Flat e f){F:Ap}{v vx:Ac}{l:List α}{u u':α}{i o:Nat}{m:Int}{p:Addr}{vs:List Ac}(tf:TF P U sz agg zv)
  (hx:B5 σ x=some (.pointer (some p))) (hy:B5 σ y=some vx) (hv:vx.cells=vs.toArray) (be:vs.length=sz) (hp:OPtr e.sz v p m.toNat o) (hi:AG l m=some u)
  (hB:Below w0.heap.size w0 w) (hS:Sep w0.heap.size w L) (hg:Ey L i=some (Ab e F v l)) (az:Nat.ble (o+vs.length) e.sz=true) (h1:Ones vs) (a8:D8 (f u) o vs=f u')
  (h:∀ w',(w.heap.size≤w'.heap.size∧(∀ b,b<w.heap.size→b ∉ F→w'.heap[b]? = w.heap[b]?)∧∀ b ∈ F,b ∈ F∨w.heap.size≤b)→Below w0.heap.size w0 w'→Sep w0.heap.size w' (N2 L i (Ab e F v (BL l m u')))→WL P n ds rest σ w' Q) :
  WL P n ds (⟨none,.store U x y,T,pos,af,none⟩::rest) σ w Q:=by
 have ho:ownS e F w v l:=hS.ok hg
 have av:=(hS.get hg).2.1
 obtain ⟨h0,hl,aj⟩:=Of hi
 have ax:=Nat.le_of_ble_eq_true az
 rcases (HU hf).1 ho with ⟨_,rfl,_⟩|⟨g,cap,aa,ak,aq,al,hm,hc,ht,hF⟩
 simp at aj
 obtain ⟨g',c',m',an,rfl⟩:=hp
 rw [ak] at an
 injection an with ha _ _
 injection ha with ha
 injection ha with ha _ _
 subst ha
 have bd:=fun x=>hf.len w x
 have a6:(m.toNat+1)*e.sz≤aa.size:=by rw [hc]; exact Nat.mul_le_mul_right _ (by omega)
 rw [Nat.succ_mul] at a6
 have a4:=(av g (by rw [hF]; simp [Ab])).1
 have aw:=O4 (P:=P) w g (m.toNat*e.sz+o) e.tid U aa.toList vs vx hv (fun w=>by rw [be]; exact tf.hsize w) (by simpa using aq) (by simp; omega) h1
 have ar:∀ b,b≠g→(w.setRow g (D8 aa.toList (m.toNat*e.sz+o) vs).toArray).heap[b]? = w.heap[b]?:=fun b s=>setRow_other w g b _ s
 refine Ahf (w':=w.setRow g (D8 aa.toList (m.toNat*e.sz+o) vs).toArray) (fun ρ hρ=>?_)
  (h _ ⟨by simp,fun b _ s=>ar b fun e=>s (by rw [hF,e]; simp),fun b s=>.inl s⟩ (hB.trans (SC w g _ a4)) (hS.upd hg (by simp) (fun b _ _ s=>ar b fun e=>s (by rw [hF,e]; simp [Ab])) (by rw [hF]; simp [Ab]) (fun b s=>.inl s) hB.size fun bg hk=>?_))
 simp [execOp,hρ _ _ hx,hρ _ _ hy,Instr.storeAt,Instr.sureAddr,aw]
 have hh:=hk g (by rw [hF]; simp [Ab])
 refine (HU hf).2 (.inr ⟨g,cap,_,by simpa [BL] using ak,by rw [hh,setRow_heap w g aa _ e.tid _ aq],by simpa [BL] using al,hm,?_,?_,hF⟩)
 rw [List.size_toArray,Aa5 (by simp; omega)]
 simpa using hc
 have ap:=Wt (sz:=e.sz) (css:=l.map f) (fun c hc=>by obtain ⟨x,_,rfl⟩:=List.mem_map.1 hc; exact bd x) m.toNat o vs (f u) (by simp [hl]) ax
 rw [a8,← List.map_set] at ap
 simp only [BL]
 rw [← ap,← ht,List.toList_toArray,List.length_set]
 have bh:m.toNat*e.sz+o+vs.length≤l.length*e.sz:=by
  have:(m.toNat+1)*e.sz≤l.length*e.sz:=Nat.mul_le_mul_right _ aj
  rw [Nat.succ_mul] at this
  omega
 unfold D8
 rw [List.take_append,List.take_append,List.length_take,List.take_take,List.drop_take]
 have bk:l.length*e.sz≤aa.toList.length:=by simp [hc]; exact Nat.mul_le_mul_right _ al
 rw [Nat.min_eq_left (by omega:m.toNat*e.sz+o≤aa.toList.length),List.take_take,List.take_of_length_le (l:=vs) (by omega)]
 rw [Nat.min_eq_right (by omega),Nat.min_eq_left (by omega)]
 congr 2
 congr 1
 omega
theorem Ahi{e g:Array Ac}{b:Bool}{TB:TypeId}(m:P.eqGuardType P.depth U=false)(v:∀ w,(Op.equalIn 10000 U (.agg e) (.agg g)).run P w=.ok b w)(s:Nat.blt d n=true)
  (u:B5 σ x=some (.agg e)) (l:B5 σ y=some (.agg g)) (h:WL P n ds rest ((d,.bool b)::σ) w Q):WL P n ds (⟨some d,.binOp .eql U x y TB,T,pos,af,none⟩::rest) σ w Q :=
 C6 s (fun ρ f=>by simp [execOp,f _ _ u,f _ _ l,run_eqGuard_agg w _ _ _ _ _ _ m,run_eql_struct,v]) h
def YV(tmps:Array Ac):ResultVar→Sem Ac
 | .tmp t=>pure (tmps.getD t undef)
 | .cell ad T=>do loadVar T (← asAddr (tmps.getD ad undef))
def RV(P:Program)(n:Nat)(σ:EY)(w:Af)(rv:ResultVar)(v:Ac):Prop :=
 ∀ a,St n σ a→(YV a.tmps rv).run P w=.ok v w
theorem Kr{t:Tmp}{v:Ac}(h:Hg σ t=some v):RV P n σ w (.tmp t) v:=fun a e=>by
 simp [YV,e.get t v h]
theorem HL{t:Tmp}{v:Ac}{b i:Nat}{V:TypeId}{cs vs:List Ac}(e:TF P U sz agg zv)(h:Hg σ t=some (.pointer (some ⟨b,0,none⟩)))(g:Sep w0.heap.size w L)(m:Ey L i=some (Av b V cs))(hv:LY cs 0 sz=some vs)(u:pk agg vs=v) :
  RV P n σ w (.cell t U) v:=fun a l=>by
 have f:w.heap[b]? = some (.cells cs.toArray V (0,0)):=g.ok m
 have s:=Jf (w:=w) e ⟨b,0,none⟩ cs vs (by simpa using Qw (o:=0) f) hv e.one
 rw [← u]
 simp [YV,l.get t _ h,asAddr,s]
theorem Acr{f:Func}(e:Array Ac)(w:Af):(results f e).run P w=((f.results.mapM (YV e)).run P w).andThen fun vs w'=>.ok (if h:vs.size=1 then vs[0] else .tuple vs) w':=by
 unfold results
 rw [Sem.run_bind]
 rfl
theorem Ade(e:Array Ac)(w:Af):∀(rs:List ResultVar)(vs:List Ac),rs.length=vs.length→(∀(i:Nat) r v,rs[i]? = some r→vs[i]? = some v→(YV e r).run P w=.ok v w)→(rs.mapM (YV e)).run P w=.ok vs w
 | [],[],_,_=>by simp
 | r::rs,v::vs,hl,h=>by
  rw [List.mapM_cons]
  have f:=h 0 r v rfl rfl
  have g:=Ade e w rs vs (by simpa using hl) fun i r v l m=>h (i+1) r v (by simpa using l) (by simpa using m)
  simp only [Sem.run_bind,f,g,Result.andThen_ok,Sem.run_pure]
 | [],_::_,hl,_=>by simp at hl
 | _::_,[],hl,_=>by simp at hl
def R4:List Ac→Ac
 | [v]=>v
 | vs=>.tuple vs.toArray
def RVs(P:Program)(n:Nat)(σ:EY)(w:Af):List ResultVar→List Ac→Prop
 | [],[]=>True
 | r::rs,v::vs=>RV P n σ w r v∧RVs P n σ w rs vs
 | _,_=>False
theorem RVs.get:∀{rs:List ResultVar}{vs:List Ac},RVs P n σ w rs vs→rs.length=vs.length∧∀(i:Nat) r v,rs[i]? = some r→vs[i]? = some v→RV P n σ w r v
 | [],[],_=>⟨rfl,fun i r v h=>by simp at h⟩
 | r::rs,v::vs,h=>by
  obtain ⟨h1,l⟩:=RVs.get h.2
  refine ⟨by simp [h1],fun i r' g f e=>?_⟩
  cases i with
  | zero =>
   simp at f e
   subst f; subst e
   exact h.1
  | succ i=>exact l i r' g (by simpa using f) (by simpa using e)
 | [],_::_,h=>h.elim
 | _::_,[],h=>h.elim
theorem JU{g:Func}{R:Ending→Af→Prop}{rs:List ResultVar}{vs:List Ac}{Q:Exit→Act→Af→Prop}(hQ:∀ a w,bodyPost P g R .ret a w→Q .ret a w)(e:g.results=rs.toArray)(l:RVs P n σ w rs vs)(h:R (.returned (R4 vs)) w) :
  ∀ a,St n σ a→Q .ret a w:=fun a f=>hQ _ _ (by
 refine ⟨f.defs,R4 vs,?_,h⟩
 obtain ⟨h1,s⟩:=l.get
 have m:=Ade (P:=P) a.tmps w rs vs h1 fun i r v e hv=>s i r v e hv a f
 rw [Acr,e]
 have:(rs.toArray.mapM (YV a.tmps)).run P w=.ok vs.toArray w:=by
  rw [Array.mapM_eq_mapM_toList]
  simp only [Sem.run_map,List.toList_toArray,m,Result.andThen_ok]
 rw [this,Result.andThen_ok]
 congr 1
 cases vs with
 | nil=>simp [R4]
 | cons v r =>
  cases r with
  | nil=>simp [R4]
  | cons u r=>simp [R4])
end
def Kb(Q:Exit→Act→Af→Prop):Prop:=∀ c a (d:Ae Tmp) v w,Q (.panic c) (Act.put a d v) w→Q (.panic c) a w
theorem Ek{f:FuncId}{g:Func}{c:Code}{e:List Ac}{w:Af}{R:Ending→Af→Prop}{n:Nat}
  (hf:P.funcs[f]? = some g) (s:g.body=some c) (l:g.ntmps=n) (u:e.length+(n-e.length)=n) {σ:EY} (m:σ=e.zipIdx.map (fun p=>(p.2,p.1)))
  (h:∀ Q:Exit→Act→Af→Prop,(∀ a w,bodyPost P g R .ret a w→Q .ret a w)→Kb Q→W P n c σ w Q):Calls P f e.toArray w R :=
 Zh hf s l u m (h _ (fun _ _ h=>h) fun c a d v w h=>by cases d <;> exact h)
theorem AN{n:Nat}{σ:EY}{w:Af}{Q:Exit→Act→Af→Prop}{c:Code}(I:Nat→Act→Af→Prop)(f:Nat)(g:∀ a,St n σ a→I f a w)
  (s:∀ m a w,I m a w→∀ KL:Act→Af→Prop,(∀ a' w' e,e<m→I e a' w'→KL a' w')→c.wp P (Exit.then KL Q) a w):W P n (.loop c) σ w Q :=
 Aiw I f g fun m a w h=>s m a w h _ fun _ _ e l u=>⟨e,l,u⟩
theorem BC{n:Nat}{σ:EY}{w:Af}{Q:Exit→Act→Af→Prop}{c:Code}{a:Act}(h:W P n c σ w Q)(e:St n σ a):c.wp P Q a w:=h a e
theorem Sep.join{base:Nat}{w w':Af}{L M:List Res}(h:Sep base w L)(f:Below w.heap.size w w')(g:Sep w.heap.size w' M)(m:base≤w.heap.size):Sep base w' (M++L):=by
 have l:=h.below f
 refine ⟨fun r e=>?_,List.pairwise_append.2 ⟨g.2,l.2,fun r e s u b f v=>?_⟩⟩
 rcases AV.1 e with e|e
 have:=g.1 r e
 exact ⟨this.1,fun b f=>⟨Az m (this.2.1 b f).1,(this.2.1 b f).2⟩,this.2.2⟩
 exact l.1 r e
 have h1:=((g.1 r e).2.1 b f).1
 have h2:=((h.1 s u).2.1 b v).2
 omega
theorem VE{α β:Type}{o:Ae α}{f:α→Ae β}{r:β}(h:Option.bind o f=some r):∃ a,o=some a∧f a=some r:=by
 cases o with
 | none=>cases h
 | some a=>exact ⟨a,rfl,h⟩
theorem Be{α:Type}{r:α}{C:Prop}(h:none=some r):C:=by cases h
theorem jE0{R:Type}{rest:Ae R}{e:Ae R→Ae R}{r:R}(h:jK0 rest e=some r):∃ k,k=rest∧e k=some r:=⟨_,rfl,h⟩
theorem Cb{A R:Type}{rest:A→Ae R}{e:(A→Ae R)→Ae R}{r:R}(h:Bf rest e=some r):∃ k,k=rest∧e k=some r:=⟨_,rfl,h⟩
theorem Np{A B R:Type}{rest:A→B→Ae R}{e:(A→B→Ae R)→Ae R}{r:R}(h:Fx rest e=some r):∃ k,k=rest∧e k=some r:=⟨_,rfl,h⟩
theorem jE3{A B C R:Type}{rest:A→B→C→Ae R}{e:(A→B→C→Ae R)→Ae R}{r:R}(h:Sa rest e=some r):∃ k,k=rest∧e k=some r:=⟨_,rfl,h⟩
theorem jE4{A B C D R:Type}{rest:A→B→C→D→Ae R}{e:(A→B→C→D→Ae R)→Ae R}{r:R}(h:YR rest e=some r):∃ k,k=rest∧e k=some r:=⟨_,rfl,h⟩
theorem jE5{A B C D E R:Type}{rest:A→B→C→D→E→Ae R}{e:(A→B→C→D→E→Ae R)→Ae R}{r:R}(h:jK5 rest e=some r):∃ k,k=rest∧e k=some r:=⟨_,rfl,h⟩
theorem Bw{c:Prop}[Decidable c]{α:Type}{A B:Ae α}{r:α}(h:c)(e:(if c then A else B)=some r):A=some r:=by rwa [if_pos h] at e
theorem Md{c:Prop}[Decidable c]{α:Type}{A B:Ae α}{r:α}(h:¬ c)(e:(if c then A else B)=some r):B=some r:=by rwa [if_neg h] at e
theorem BI{b:Bool}{α:Type}{A B:Ae α}{r:α}(h:b=false)(e:(if b=true then A else B)=some r):B=some r:=by rw [h] at e; exact e
theorem bE(b:Bool):b=true∨b=false:=by cases b <;> simp
def AL(l:List Ag):ByteArray:=⟨l.toArray⟩
theorem Agt{α:Type}{e:Ty P α}{S:Nat→Prop}{w:Af}:rdS e S w (.slice none 0 0) ([]:List α):=⟨none,0,rfl,Nat.le_refl _,.inl rfl⟩
end Go.Proofs.YtellehgihceicaaGreatDoor
namespace Go.Proofs.YtellehgihceicaaGreatDoor
open Go Go.RowKit
variable {P:Program} {α:Type}
structure KeepX (wS:Af) (X:Ap) (w:Af):Prop where
 lt:∀ b,b<wS.heap.size→b ∉ X→b<w.heap.size
 blk:∀ b,b<wS.heap.size→b ∉ X→w.heap[b]? = wS.heap[b]?
theorem KeepX.refl(w:Af)(X:Ap):KeepX w X w:=⟨fun _ h _=>h,fun _ _ _=>rfl⟩
theorem KeepX.ext{wS w w':Af}{X:Ap}(h:KeepX wS X w)(f:Below w.heap.size w w'):KeepX wS X w' :=
 ⟨fun b h1 l=>Nat.lt_of_lt_of_le (h.lt b h1 l) f.size,fun b g e=>(f.block b (h.lt b g e)).trans (h.blk b g e)⟩
def PR(P:Program)(n:Nat)(σ:EY)(S:Af→Prop)(d:Nat)(op:Op)(T:TypeId)(v:Ac):Prop :=
 Nat.blt d n=true∧∀ ρ:Operand→Ac,(∀ x v,B5 σ x=some v→ρ x=v)→∀ w,S w→∀ dst pos af gd,(execOp ρ ⟨dst,op,T,pos,af,gd⟩).run P w=.ok (.value v) w
section
variable {n:Nat} {σ:EY} {S:Af→Prop} {G:Ac→Prop} {d:Nat} {T TB U:TypeId} {x y z:Operand} {k:IntKind} {a b:Int} {p q:Bool} {sz:Nat} {agg:Bool} {zv:Ac} {wS w0:Af} {X:Ap} {L:List Res}
theorem Dq{v:Ac}(f:Nat.blt d n=true)(g:B5 σ x=some v)(h:G (v)):∃ v,PR P n σ S d (.move x) T v∧G v :=
 ⟨_,⟨f,fun ρ e w _ m pos af l=>by simp [execOp,e _ _ g]⟩,h⟩
theorem AD{v:Ac}(f:Nat.blt d n=true)(g:B5 σ x=some v)(h:G (v)):∃ v,PR P n σ S d (.assign x) T v∧G v :=
 ⟨_,⟨f,fun ρ e w _ m pos af l=>by simp [execOp,e _ _ g]⟩,h⟩
theorem EK{v:Ac}{b:Bool}(g:Nat.blt d n=true)(l:B5 σ x=some (.bool b))(m:b=true)(f:B5 σ y=some v)(h:G (v)):∃ v,PR P n σ S d (.pick x y z) T v∧G v :=
 ⟨_,⟨g,fun ρ e w _ u pos af s=>by subst m; simp [execOp,e _ _ l,e _ _ f,asBool]⟩,h⟩
theorem GI{v:Ac}{b:Bool}(g:Nat.blt d n=true)(l:B5 σ x=some (.bool b))(m:b=false)(f:B5 σ z=some v)(h:G (v)):∃ v,PR P n σ S d (.pick x y z) T v∧G v :=
 ⟨_,⟨g,fun ρ e w _ u pos af s=>by subst m; simp [execOp,e _ _ l,e _ _ f,asBool]⟩,h⟩
theorem Fj(g:Nat.blt d n=true)(l:B5 σ x=some (.int k a))(f:B5 σ y=some (.int k b))(h:G (.int k (k.wrap (a+b)))):∃ v,PR P n σ S d (.binOp .add T x y U) T v∧G v :=
 ⟨_,⟨g,fun ρ e w _ s pos af m=>by simp [execOp,e _ _ l,e _ _ f,eqGuard,binOp,Op.intArith]⟩,h⟩
theorem H6(g:Nat.blt d n=true)(l:B5 σ x=some (.int k a))(f:B5 σ y=some (.int k b))(h:G (.int k (k.wrap (a-b)))):∃ v,PR P n σ S d (.binOp .sub T x y U) T v∧G v :=
 ⟨_,⟨g,fun ρ e w _ s pos af m=>by simp [execOp,e _ _ l,e _ _ f,eqGuard,binOp,Op.intArith]⟩,h⟩
theorem Ks(g:Nat.blt d n=true)(l:B5 σ x=some (.int k a))(f:B5 σ y=some (.int k b))(h:G (.int k (k.wrap (a*b)))):∃ v,PR P n σ S d (.binOp .mul T x y U) T v∧G v :=
 ⟨_,⟨g,fun ρ e w _ s pos af m=>by simp [execOp,e _ _ l,e _ _ f,eqGuard,binOp,Op.intArith]⟩,h⟩
theorem Nx(g:Nat.blt d n=true)(l:B5 σ x=some (.int k a))(f:B5 σ y=some (.int k b))(m:b≠0)(h:G (.int k (k.wrap (a.tdiv b)))):∃ v,PR P n σ S d (.binOp .quo T x y U) T v∧G v :=
 ⟨_,⟨g,fun ρ e w _ u pos af s=>by simp [execOp,e _ _ l,e _ _ f,eqGuard,binOp,Op.intDiv,m]⟩,h⟩
theorem Vo(g:Nat.blt d n=true)(l:B5 σ x=some (.int k a))(f:B5 σ y=some (.int k b))(m:b≠0)(h:G (.int k (a.tmod b))):∃ v,PR P n σ S d (.binOp .rem T x y U) T v∧G v :=
 ⟨_,⟨g,fun ρ e w _ u pos af s=>by simp [execOp,e _ _ l,e _ _ f,eqGuard,binOp,Op.intDiv,m]⟩,h⟩
theorem MB(g:Nat.blt d n=true)(l:B5 σ x=some (.int k a))(f:B5 σ y=some (.int k b))(h:G (.bool (decide (a<b)))):∃ v,PR P n σ S d (.binOp .lss T x y U) TB v∧G v :=
 ⟨_,⟨g,fun ρ e w _ s pos af m=>by simp [execOp,e _ _ l,e _ _ f,eqGuard,binOp,Op.intCmp]⟩,h⟩
theorem Ahx(g:Nat.blt d n=true)(l:B5 σ x=some (.int k a))(f:B5 σ y=some (.int k b))(h:G (.bool (decide (a≤b)))):∃ v,PR P n σ S d (.binOp .leq T x y U) TB v∧G v :=
 ⟨_,⟨g,fun ρ e w _ s pos af m=>by simp [execOp,e _ _ l,e _ _ f,eqGuard,binOp,Op.intCmp]⟩,h⟩
theorem Vq(g:Nat.blt d n=true)(l:B5 σ x=some (.int k a))(f:B5 σ y=some (.int k b))(h:G (.bool (decide (b<a)))):∃ v,PR P n σ S d (.binOp .gtr T x y U) TB v∧G v :=
 ⟨_,⟨g,fun ρ e w _ s pos af m=>by simp [execOp,e _ _ l,e _ _ f,eqGuard,binOp,Op.intCmp]⟩,h⟩
theorem YA(g:Nat.blt d n=true)(l:B5 σ x=some (.int k a))(f:B5 σ y=some (.int k b))(h:G (.bool (decide (b≤a)))):∃ v,PR P n σ S d (.binOp .geq T x y U) TB v∧G v :=
 ⟨_,⟨g,fun ρ e w _ s pos af m=>by simp [execOp,e _ _ l,e _ _ f,eqGuard,binOp,Op.intCmp]⟩,h⟩
theorem Rb(g:Nat.blt d n=true)(l:B5 σ x=some (.int k a))(f:B5 σ y=some (.int k b))(h:G (.bool (a==b))):∃ v,PR P n σ S d (.binOp .eql T x y U) TB v∧G v :=
 ⟨_,⟨g,fun ρ e w _ s pos af m=>by simp [execOp,e _ _ l,e _ _ f,eqGuard,binOp,Op.intCmp]⟩,h⟩
theorem Acw(g:Nat.blt d n=true)(l:B5 σ x=some (.int k a))(f:B5 σ y=some (.int k b))(h:G (.bool (a != b))):∃ v,PR P n σ S d (.binOp .neq T x y U) TB v∧G v :=
 ⟨_,⟨g,fun ρ e w _ s pos af m=>by simp [execOp,e _ _ l,e _ _ f,eqGuard,binOp,Op.intCmp]⟩,h⟩
theorem LZ(f:Nat.blt d n=true)(g:B5 σ x=some (.bool p))(h:G (.bool (!p))):∃ v,PR P n σ S d (.unOp .not T x) TB v∧G v :=
 ⟨_,⟨f,fun ρ e w _ m pos af l=>by simp [execOp,e _ _ g,Op.unary]⟩,h⟩
theorem Ba{vs:Array Ac}{i:Nat}{v:Ac}(f:Nat.blt d n=true)(g:B5 σ x=some (.tuple vs))(l:vs[i]? = some v)(h:G (v)):∃ v,PR P n σ S d (.extract x i) T v∧G v :=
 ⟨_,⟨f,fun ρ e w _ s pos af m=>by simp [execOp,e _ _ g,Instr.extract,l]⟩,h⟩
theorem Aey{f o b off off':Nat}(m:Fo P U f o=true)(g:Nat.blt d n=true)(l:B5 σ x=some (.pointer (some ⟨b,off,none⟩)))(s:off+o=off')
  (h:G (.pointer (some ⟨b,off',none⟩))):∃ v,PR P n σ S d (.fieldAddr U x f) T v∧G v :=
 ⟨_,⟨g,fun ρ e w _ aa pos af u=>by simp [execOp,e _ _ l,Ov m,Addr.add_lit,s]⟩,h⟩
theorem CI{f o:Nat}{p:Addr}(m:Fo P U f o=true)(g:Nat.blt d n=true)(l:B5 σ x=some (.pointer (some p)))
  (h:G (.pointer (some (p.add o)))):∃ v,PR P n σ S d (.fieldAddr U x f) T v∧G v :=
 ⟨_,⟨g,fun ρ e w _ u pos af s=>by simp [execOp,e _ _ l,Ov m]⟩,h⟩
theorem Q9{i b off:Nat}{V:TypeId}{cs vs:List Ac}{v:Ac}(e:TF P U sz agg zv)(s:Nat.blt d n=true)
  (u:B5 σ x=some (.pointer (some ⟨b,off,none⟩))) (f:Sep w0.heap.size wS L) (g:Ey L i=some (Av b V cs)) (hv:LY cs off sz=some vs) (hp:pk agg vs=v) (hX:b ∉ X)
  (h:G v):∃ v,PR P n σ (KeepX wS X) d (.load U x) T v∧G v:=by
 refine ⟨_,⟨s,fun ρ m w hw ai pos af gd=>?_⟩,h⟩
 have l:wS.heap[b]? = some (.cells cs.toArray V (0,0)):=f.ok g
 have hb:=((f.get g).2.1 b (by simp [Av])).2
 have hl:=Jf (w:=w) e ⟨b,off,none⟩ (cs.drop off) vs (Qw ((hw.blk b hb hX).trans l)) (Yx hv e.pos) e.one
 rw [← hp]
 simp [execOp,m _ _ u,Instr.loadAt,Instr.sureAddr,hl]
theorem Acx{S':Nat→Prop}{p:Addr}{cs vs:List Ac}{v:Ac}(e:TF P U sz agg zv)(g:Nat.blt d n=true)
  (l:B5 σ x=some (.pointer (some p))) (s:∀ w,S w→EAt S' w p cs) (hv:LY cs 0 sz=some vs) (m:pk agg vs=v)
  (h:G v):∃ v,PR P n σ S d (.load U x) T v∧G v:=by
 refine ⟨_,⟨g,fun ρ f w hw ad pos af gd=>?_⟩,h⟩
 have u:=Jf (w:=w) e p cs vs (s w hw).2 hv e.one
 rw [← m]
 simp [execOp,f _ _ l,Instr.loadAt,Instr.sureAddr,u]
theorem EAt.kx{p:Addr}{cs:List Ac}(h:EAt (·<w0.heap.size) w0 p cs)(e:Below w0.heap.size w0 wS)(s:∀ b ∈ X,w0.heap.size≤b):∀ w,KeepX wS X w→EAt (·<w0.heap.size) w p cs:=fun w m =>
 ⟨h.1,fun j c l=>by
  have f:p.block<w0.heap.size:=h.1
  rw [OC (w:=w0) (w':=w) (a:=p.add j) (by rw [Jx,m.blk _ (Nat.lt_of_lt_of_le f e.size) (fun g=>by have:=s _ g; omega),e.block _ f])]
  exact h.2 j c l⟩
theorem EAt.kx0{p:Addr}{cs:List Ac}(h:EAt (·<wS.heap.size) wS p cs):∀ w,KeepX wS [] w→EAt (·<wS.heap.size) w p cs:=fun w f =>
 ⟨h.1,fun j c e=>by
  have g:p.block<wS.heap.size:=h.1
  rw [OC (w:=wS) (w':=w) (a:=p.add j) (by rw [Jx,f.blk _ g (by simp)])]
  exact h.2 j c e⟩
theorem EAt.addk{S':Nat→Prop}{p:Addr}{cs:List Ac}(h:∀ w,S w→EAt S' w p cs)(o:Nat):∀ w,S w→EAt S' w (p.add o) (cs.drop o):=fun w e=>(h w e).add o
theorem B7{e:Ty P α}{S1:Nat→Prop}{f:Af}{v:Ac}{l:List α}{k:IntKind}{m:Int}{u:α}(hu:P.underlying U=some (.slice e.tid))(hn:Nat.blt d n=true)
  (hx:B5 σ x=some v) (s:B5 σ y=some (.int k m)) (hr:rdS e S1 f v l) (hi:AG l m=some u)
  (h:∀ p cs,e.rd S1 f cs u→EAt S1 f p cs→G (.pointer (some p))):∃ v,PR P n σ S d (.indexAddr U x y) T v∧G v:=by
 obtain ⟨p,ab,hS,cs,ac,hc⟩:=P6 (k:=k) hu hr hi
 exact ⟨_,⟨hn,fun ρ g w _ al pos af gd=>by simp [execOp,g _ _ hx,g _ _ s,ab]⟩,h p cs ac ⟨hS,hc⟩⟩
theorem Bx{e:Ty P α}{F:Ap}{v:Ac}{l:List α}{k:IntKind}{f:Int}{u:α}{i:Nat}{w:Af}(hu:P.underlying U=some (.slice e.tid))(hn:Nat.blt d n=true)
  (hx:B5 σ x=some v) (hy:B5 σ y=some (.int k f)) (hS:Sep w0.heap.size w L) (hg:Ey L i=some (Ab e F v l)) (hi:AG l f=some u)
  (h:∀ p cs,e.rd (·<w.heap.size) w cs u→EAt (·<w.heap.size) w p cs→OPtr e.sz v p f.toNat 0→G (.pointer (some p))):∃ v,PR P n σ S d (.indexAddr U x y) T v∧G v:=by
 have ho:ownS e F w v l:=hS.ok hg
 have hr:=hS.own_ro hg
 obtain ⟨h0,hl,aa⟩:=Of hi
 rcases ho with ⟨_,rfl,_⟩|⟨g,cap,a8,css,Fs,hv,bc,a3,hm,hc,ht,hz,hF⟩
 simp at aa
 subst hv
 obtain ⟨a,a9,he,az,s⟩:=hr
 injection he with m a2 ba
 rcases s with rfl|⟨ad,rfl,s⟩
 simp at aa
 injection m with m
 subst m
 obtain ⟨ii,zz,aj,ay,_⟩:=e.info
 obtain ⟨hb,cs,aq,av⟩:=s _ _ hl
 have ai:0≤f∧f<(l.length:Int):=⟨h0,by omega⟩
 refine ⟨_,⟨hn,fun ρ hρ w _ a1 pos af gd=>?_⟩,h _ cs aq ⟨hb,av⟩ ⟨g,_,_,rfl,by rw [Addr.add_lit,Nat.zero_add,Nat.add_zero]⟩⟩
 simp [execOp,hρ _ _ hx,hρ _ _ hy,Instr.indexAt,asIntOf,run_underlying hu,sizeOf,typeInfo,aj,ay,ai]
theorem Ahy{v:Ac}{a:Ae Addr}{l c:Nat}{f:TypeId}{e:TypeId}(hu:P.underlying f=some (.slice e))(m:Nat.blt d n=true)(s:B5 σ x=some v)(u:v=.slice a l c)
  (h:G (.int .i64 (l:Int))):∃ v,PR P n σ S d (.call ⟨.builtin .len,#[x],#[f]⟩) T v∧G v:=by
 subst u
 exact ⟨_,⟨m,fun ρ g w _ ac pos af gd=>by simp [execOp,resolve,invoke,builtin,g _ _ s,Builtin.len_,run_underlying hu,goInt]⟩,h⟩
theorem LF{e:Ty P α}{S1:Nat→Prop}{g:Af}{v:Ac}{l:List α}{f:TypeId}(hu:P.underlying f=some (.slice e.tid))(m:Nat.blt d n=true)(u:B5 σ x=some v)(s:rdS e S1 g v l)
  (h:G (.int .i64 (l.length:Int))):∃ v,PR P n σ S d (.call ⟨.builtin .len,#[x],#[f]⟩) T v∧G v:=by
 obtain ⟨a,cap,hv,_⟩:=s
 exact Ahy hu m u hv h
theorem Aex{e:Ty P α}{S1:Nat→Prop}{w1:Af}{v:Ac}{l m:List α}{lo hi:Int}{g s:Ae Operand}(hu:P.underlying U=some (.slice e.tid))(hn:Nat.blt d n=true)
  (hx:B5 σ x=some v) (hr:rdS e S1 w1 v l) (hm:sl l lo hi=some m)
  (ak:(g=none∧lo=0)∨∃ o k,g=some o∧B5 σ o=some (.int k lo)) (ag:(s=none∧hi=l.length)∨∃ o k,s=some o∧B5 σ o=some (.int k hi))
  (h:∀ u,rdS e S1 w1 u m→G u):∃ v,PR P n σ S d (.slice U x g s none) T v∧G v:=by
 obtain ⟨u,ae,al⟩:=Nv hu hr hm
 refine ⟨_,⟨hn,fun ρ hρ w _ ap pos af gd=>?_⟩,h u al⟩
 have:=ae (g.map ρ) (s.map ρ) w (ak.imp (fun ⟨h,f⟩=>⟨by rw [h]; rfl,f⟩) fun ⟨o,k,h,f⟩=>⟨k,by rw [h]; simp [hρ _ _ f]⟩)
  (ag.imp (fun ⟨h,f⟩=>⟨by rw [h]; rfl,f⟩) fun ⟨o,k,h,f⟩=>⟨k,by rw [h]; simp [hρ _ _ f]⟩)
 simp [execOp,hρ _ _ hx,this]
theorem Ahz{e g:Array Ac}{b:Bool}(m:P.eqGuardType P.depth U=false)(hq:∀ w,(Op.equalIn 10000 U (.agg e) (.agg g)).run P w=.ok b w)(s:Nat.blt d n=true)
  (u:B5 σ x=some (.agg e)) (l:B5 σ y=some (.agg g)) (h:G (.bool b)):∃ v,PR P n σ S d (.binOp .eql U x y TB) T v∧G v :=
 ⟨_,⟨s,fun ρ f w _ ac pos af gd=>by simp [execOp,f _ _ u,f _ _ l,run_eqGuard_agg w _ _ _ _ _ _ m,run_eql_struct,hq]⟩,h⟩
theorem Y8{e g:Array Ac}{b:Bool}(m:P.eqGuardType P.depth U=false)(hq:∀ w,(Op.equalIn 10000 U (.agg e) (.agg g)).run P w=.ok b w)(s:Nat.blt d n=true)
  (u:B5 σ x=some (.agg e)) (l:B5 σ y=some (.agg g)) (h:G (.bool (!b))):∃ v,PR P n σ S d (.binOp .neq U x y TB) T v∧G v :=
 ⟨_,⟨s,fun ρ f w _ ac pos af gd=>by simp [execOp,f _ _ u,f _ _ l,run_eqGuard_agg w _ _ _ _ _ _ m,run_neq_struct,hq]⟩,h⟩
theorem IU{e:List (Nat×Nat)}{zs out:List Ac}{parts:List (Nat×Operand)}{vs:List Ac}{css:List (List Ac)}(f:TF P U sz agg zv)(hp:Ik P U e=true)(l:Nat.blt d n=true)
  (m:(parts.map fun p=>B5 σ p.2)=vs.map some) (s:vs.map (·.cells)=css.map (·.toArray)) (u:zv.cells=zs.toArray) (hf:Ox e zs ((parts.map (·.1)).zip css)=some out)
  (h:G (.agg out.toArray)):∃ v,PR P n σ S d (.build U parts.toArray) T v∧G v:=by
 refine ⟨_,⟨l,fun ρ g w _ ad pos af gd=>?_⟩,h⟩
 have:=Xl (zv:=zv) hp f.hzero u (parts:=parts.map fun p=>(p.1,ρ p.2)) (ps:=(parts.map (·.1)).zip css) (Um g parts vs css m s) hf w
 simp only [execOp,List.map_toArray,Sem.run_bind,this,Result.andThen_ok,Sem.run_pure]
end
def WH(P:Program)(n:Nat)(ops:List Oper)(S:Af→Prop)(fuel:Nat)(li:List Bool)(σ:EY)(w:Af)(Q:Exit→Act→Af→Prop):Prop :=
 ∀ a,St n σ a→wpAnyH P .any ops.toArray Q S fuel li.toArray a w
section
variable {n:Nat} {σ:EY} {S:Af→Prop} {Q:Exit→Act→Af→Prop} {w w0:Af} {ops:List Oper} {fuel:Nat} {li:List Bool} {L:List Res} {X:Ap}
theorem Abo(w:Af):Below w.heap.size w w.drew:=⟨rfl,rfl,rfl,Nat.le_refl _,fun _ _=>rfl⟩
theorem AQ{id:Nat}(g:P.follows .mixedOrders=true)(X:Ap)(f:Below w0.heap.size w0 w)(l:Sep w0.heap.size w L)
  (h:∀ w',Below w.heap.size w w'→Below w0.heap.size w0 w'→Sep w0.heap.size w' L→WH P n ops (KeepX w' X) ops.length (List.replicate ops.length false) σ w' Q):W P n (.region id ops.toArray true) σ w Q:=by
 intro a m
 refine wp_region_held (S:=KeepX w.drew X) g ?_
 have e:=Abo w
 have:=h w.drew e (f.trans (e.mono f.size)) (l.below e) a m
 simpa using this
theorem Yg{g:Nat}{s:Tmp}{b want:Bool}{a:Act}(l:St n σ a)(e:(ops.map (·.dst))[g]? = some (some s))(f:Hg σ s=some (.bool b)):yielded ops.toArray a.tmps g=some b:=by
 unfold yielded
 have:(ops.toArray[g]?).bind (·.dst)=some s:=by
  simp only [List.getElem?_map] at e
  cases h:ops[g]? with
  | none=>rw [h] at e; cases e
  | some o=>rw [h] at e; simp [h]; simpa using e
 rw [this]
 simp [l.get s _ f]
variable {d:Nat} {op:Op} {T:TypeId} {pos:String} {af:Array Edge}
theorem Afz{i:Nat}(hi:ops[i]? = some ⟨some d,op,T,pos,af,none⟩)(g:Region.noSelect ops.toArray=true)(hf:Region.free .any ops.toArray li.toArray i=true)(s:(Region.ready .any ops.toArray li.toArray).contains i=true)
  (hQ:Kb Q) (e:S w) (h:∃ v,PR P n σ S d op T v∧WH P n ops S fuel (li.set i true) ((d,v)::σ) w Q):WH P n ops S (fuel+1) li σ w Q:=by
 intro a f
 obtain ⟨v,⟨m,l⟩,h⟩:=h
 refine wpAnyH_take (i:=i) (oi:=⟨some d,op,T,pos,af,none⟩) (v:=v) (by simpa using hi) g hf s (fun c a w=>hQ c a _ _ w) (.inl ⟨by simp [Region.wanted],fun w e=>l a.eval (fun x v u=>f.eval u) w e _ _ _ _⟩) e ?_
 have:=h _ (f.put v m)
 simpa using this
theorem Ad7{i g:Nat}{s:Tmp}{b want:Bool}(hi:ops[i]? = some ⟨some d,op,T,pos,af,some (g,want)⟩)(m:Region.noSelect ops.toArray=true)(hf:Region.free .any ops.toArray li.toArray i=true)(hr:(Region.ready .any ops.toArray li.toArray).contains i=true)
  (hQ:Kb Q) (l:(ops.map (·.dst))[g]? = some (some s)) (ae:Hg σ s=some (.bool b)) (ad:b=want) (f:S w) (h:∃ v,PR P n σ S d op T v∧WH P n ops S fuel (li.set i true) ((d,v)::σ) w Q):WH P n ops S (fuel+1) li σ w Q:=by
 intro a e
 obtain ⟨v,⟨hn,u⟩,h⟩:=h
 refine wpAnyH_take (i:=i) (oi:=⟨some d,op,T,pos,af,some (g,want)⟩) (v:=v) (by simpa using hi) m hf hr (fun c a w=>hQ c a _ _ w) (.inl ⟨by simp [Region.wanted,Yg (want:=want) e l ae,ad],fun w f=>u a.eval (fun x v hx=>e.eval hx) w f _ _ _ _⟩) f ?_
 have:=h _ (e.put v hn)
 simpa using this
theorem Aiv{i g:Nat}{s:Tmp}{b want:Bool}(hi:ops[i]? = some ⟨some d,op,T,pos,af,some (g,want)⟩)(l:Region.noSelect ops.toArray=true)(hf:Region.free .any ops.toArray li.toArray i=true)(u:(Region.ready .any ops.toArray li.toArray).contains i=true)
  (hQ:Kb Q) (f:(ops.map (·.dst))[g]? = some (some s)) (ab:Hg σ s=some (.bool b)) (aa:b=!want) (m:Nat.blt d n=true) (hw:S w) (h:WH P n ops S fuel (li.set i true) ((d,undef)::σ) w Q):WH P n ops S (fuel+1) li σ w Q:=by
 intro a e
 refine wpAnyH_take (i:=i) (oi:=⟨some d,op,T,pos,af,some (g,want)⟩) (v:=undef) (by simpa using hi) l hf u (fun c a w=>hQ c a _ _ w) (.inr ⟨by simp [Region.wanted,Yg (want:=want) e f ab,aa],rfl⟩) hw ?_
 have:=h _ (e.put undef m)
 simpa using this
theorem Ahd{i g:Nat}{s:Tmp}{want:Bool}(hi:ops[i]? = some ⟨some d,op,T,pos,af,some (g,want)⟩)(m:Region.noSelect ops.toArray=true)(hf:Region.free .any ops.toArray li.toArray i=true)(hr:(Region.ready .any ops.toArray li.toArray).contains i=true)
  (hQ:Kb Q) (e:(ops.map (·.dst))[g]? = some (some s)) (ab:Hg σ s=some undef) (u:Nat.blt d n=true) (hw:S w) (h:WH P n ops S fuel (li.set i true) ((d,undef)::σ) w Q):WH P n ops S (fuel+1) li σ w Q:=by
 intro a f
 have l:yielded ops.toArray a.tmps g=none:=by
  unfold yielded
  have:(ops.toArray[g]?).bind (·.dst)=some s:=by
   simp only [List.getElem?_map] at e
   cases h:ops[g]? with
   | none=>rw [h] at e; cases e
   | some o=>rw [h] at e; simp [h]; simpa using e
  rw [this]
  simp [f.get s _ ab,undef]
 refine wpAnyH_take (i:=i) (oi:=⟨some d,op,T,pos,af,some (g,want)⟩) (v:=undef) (by simpa using hi) m hf hr (fun c a w=>hQ c a _ _ w) (.inr ⟨by simp [Region.wanted,l],rfl⟩) hw ?_
 have:=h _ (f.put undef u)
 simpa using this
theorem OY{i:Nat}{o:Oper}{K:Act→Af→Prop}{a:Act}(u:ops[i]? = some o)(h:WL P n (ops.map (·.dst)) [o] σ w (Exit.then K Q))(l:St n σ a):wpOp P ops.toArray Q i K a w:=by
 have e:=h ops.toArray (by simp [W5]) a l
 unfold wpOp
 have m:ops.toArray[i]? = some o:=by simpa using u
 simp only [m]
 unfold wpList at e
 split
 rename_i f
 rw [if_pos f] at e
 rcases e with e|⟨h1,g,w',s⟩
 left
 unfold Oper.wp Oper.upon at e ⊢
 generalize (execOp a.eval o).run P w=r at e
 cases r with
 | ok x w'=>cases x <;> exact e
 | halt x w'=>cases x <;> exact e
 exact .inr ⟨h1,g,w',s⟩
 rename_i f
 rw [if_neg f] at e
 exact e
theorem Aiu{i:Nat}{o:Oper}(f:Region.ready .any ops.toArray li.toArray=[i])(g:ops[i]? = some o)
  (h:WL P n (ops.map (·.dst)) [o] σ w (Exit.then (fun a w=>S w∧wpAnyH P .any ops.toArray Q S fuel (li.set i true).toArray a w) Q)):WH P n ops S (fuel+1) li σ w Q:=by
 intro a l
 refine wpAnyH_all f (by simp) fun j e=>?_
 simp at e
 subst e
 have:=OY g h l
 simpa using this
theorem Akd{i j:Nat}{o e:Oper}(l:Region.ready .any ops.toArray li.toArray=[i,j])(s:ops[i]? = some o)(u:ops[j]? = some e)
  (h:WL P n (ops.map (·.dst)) [o] σ w (Exit.then (fun a w=>S w∧wpAnyH P .any ops.toArray Q S fuel (li.set i true).toArray a w) Q))
  (m:WL P n (ops.map (·.dst)) [e] σ w (Exit.then (fun a w=>S w∧wpAnyH P .any ops.toArray Q S fuel (li.set j true).toArray a w) Q)):WH P n ops S (fuel+1) li σ w Q:=by
 intro a g
 refine wpAnyH_all l (by simp) fun k f=>?_
 simp at f
 rcases f with rfl|rfl
 have:=OY s h g
 simpa using this
 have:=OY u m g
 simpa using this
theorem Ar(e:S w)(h:WH P n ops S fuel li σ w Q):∀ a,St n σ a→Exit.then (fun a w=>S w∧wpAnyH P .any ops.toArray Q S fuel li.toArray a w) Q .normal a w :=
 fun a f=>⟨e,h a f⟩
theorem Ahe(e:Region.ready .any ops.toArray li.toArray=[])(h:∀ a,St n σ a→Q .normal a w):WH P n ops S fuel li σ w Q :=
 fun a f=>wpAnyH_done e (h a f) fuel
end
end Go.Proofs.YtellehgihceicaaGreatDoor
namespace Go.Proofs.YtellehgihceicaaGreatDoor
open Go Go.RowKit
variable {P:Program} {α β:Type}
def RP(e:Ty P α)(F:Ap)(cs:List Ac)(x:α):Res:=⟨F,fun w=>e.own F w cs x⟩
section
variable {base:Nat} {w w':Af} {M L:List Res} {r r1 r2 r':Res}
theorem Sep.head(h:Sep base w (r::M))(g:r'.fp=r.fp)(m:∀ w,r.ok w→r'.ok w):Sep base w (r'::M):=by
 obtain ⟨h1,h2⟩:=h
 cases h2 with
 | cons v u =>
  refine ⟨fun s e=>?_,.cons (fun s e b f=>v s e b (by rw [← g]; exact f)) u⟩
  cases e with
  | head =>
   have l:=h1 r (by simp)
   exact ⟨by rw [g]; exact l.1,fun b f=>l.2.1 b (by rw [← g]; exact f),fun w' hw=>m _ (l.2.2 w' fun b f=>hw b (by rw [g]; exact f))⟩
  | tail _ e=>exact h1 s (.tail _ e)
theorem Sep.merge(h:Sep base w (r1::r2::M))(l:r.fp=r1.fp++r2.fp)(hk:∀ w,r1.ok w→r2.ok w→r.ok w):Sep base w (r::M):=by
 obtain ⟨h1,h2⟩:=h
 have v:=h1 r1 (by simp)
 have m:=h1 r2 (by simp)
 cases h2 with
 | cons hd u =>
  cases u with
  | cons ae u =>
   refine ⟨fun s g=>?_,.cons (fun s g b f=>?_) u⟩
   cases g with
   | head =>
    refine ⟨?_,fun b f=>?_,fun w' hw=>hk _ (v.2.2 w' fun b f=>hw b (by rw [l]; exact Ax _ f)) (m.2.2 w' fun b f=>hw b (by rw [l]; exact Bm _ f))⟩
    rw [l,List.nodup_append]
    exact ⟨v.1,m.1,fun a ha b f e=>hd r2 (by simp) a ha (by rw [e]; exact f)⟩
    rw [l] at f
    rcases AV.1 f with f|f
    exact v.2.1 b f
    exact m.2.1 b f
   | tail _ g=>exact h1 s (.tail _ (.tail _ g))
   rw [l] at f
   rcases AV.1 f with f|f
   exact hd s (by simp [g]) b f
   exact ae s g b f
end
section
variable {n:Nat} {σ:EY} {w w0:Af} {Q:Exit→Act→Af→Prop} {L M:List Res}
variable {ds:List (Ae Tmp)} {d:Nat} {T U:TypeId} {pos:String} {af:Array Edge} {rest:List Oper} {x y z:Operand} {sz:Nat} {agg:Bool} {zv:Ac}
end
end Go.Proofs.YtellehgihceicaaGreatDoor
namespace Go.Proofs.YtellehgihceicaaGreatDoor
open Go Go.RowKit
variable {P:Program} {n:Nat} {ds:List (Ae Tmp)} {d:Nat} {T TB U:TypeId} {pos:String} {af:Array Edge} {rest:List Oper} {x y z:Operand} {σ:EY} {w:Af} {Q:Exit→Act→Af→Prop}
variable {a b c:List Ag} {k:IntKind} {i j:Int} {S:Af→Prop} {G:Ac→Prop}
theorem YI(a:List Ag):(AL a).toList=a:=ByteArray.toList_mk a
theorem PL(a:List Ag):(AL a).size=a.length:=by simp [AL,ByteArray.size]
theorem YJ{s:ByteArray}{l:List Ag}(h:s.data.toList=l):s=AL l:=by
 subst h
 simp [AL]
theorem AR(g:Nat.blt d n=true)(l:B5 σ x=some (.string (AL a)))(f:B5 σ y=some (.string (AL b)))(h:WL P n ds rest ((d,.bool (a==b))::σ) w Q) :
  WL P n ds (⟨some d,.binOp .eql T x y U,TB,pos,af,none⟩::rest) σ w Q :=
 C6 g (fun ρ e=>by simp only [execOp,e _ _ l,e _ _ f,eqGuard_at_string,binOp_string_eql,YI,Sem.run_bind,Sem.run_pure,Result.andThen_ok]) h
theorem Qe(g:Nat.blt d n=true)(l:B5 σ x=some (.string (AL a)))(f:B5 σ y=some (.string (AL b)))(h:WL P n ds rest ((d,.bool (a != b))::σ) w Q) :
  WL P n ds (⟨some d,.binOp .neq T x y U,TB,pos,af,none⟩::rest) σ w Q :=
 C6 g (fun ρ e=>by simp only [execOp,e _ _ l,e _ _ f,eqGuard_at_string,binOp_string_neq,YI,Sem.run_bind,Sem.run_pure,Result.andThen_ok,bne]) h
theorem Vl(h:BB a b=some c)(w:Af):(binOp .add U (.string (AL a)) (.string (AL b))).run P w=.ok (.string (AL c)) w:=by
 unfold BB at h
 split at h
 rename_i g
 cases h
 have e:(AL a)++(AL b)=AL (a++b):=YJ (by rw [ByteArray.data_append]; simp [AL])
 have f:¬ ((((AL a).size+(AL b).size:Nat):Int) > IntKind.i64.max):=by
  rw [PL,PL]
  simp [IntKind.max,IntKind.signed,IntKind.bits]
  omega
 simp only [binOp,Op.stringOp,if_neg f,Sem.run_pure,e]
 cases h
theorem BA(g:Nat.blt d n=true)(l:B5 σ x=some (.string (AL a)))(f:B5 σ y=some (.string (AL b)))(m:BB a b=some c)(h:WL P n ds rest ((d,.string (AL c))::σ) w Q) :
  WL P n ds (⟨some d,.binOp .add T x y U,TB,pos,af,none⟩::rest) σ w Q :=
 C6 g (fun ρ e=>by simp only [execOp,e _ _ l,e _ _ f,eqGuard_at_string,Vl m,Sem.run_bind,Sem.run_pure,Result.andThen_ok]) h
theorem Dl{e:TypeId}(m:P.underlying e=some .string)(g:Nat.blt d n=true)(l:B5 σ x=some (.string (AL a)))
  (h:WL P n ds rest ((d,.int .i64 (a.length:Int))::σ) w Q):WL P n ds (⟨some d,.call ⟨.builtin .len,#[x],#[e]⟩,T,pos,af,none⟩::rest) σ w Q :=
 C6 g (fun ρ f=>by simp [execOp,resolve,invoke,builtin,f _ _ l,Builtin.len_,run_underlying m,goInt,PL]) h
theorem Y1{g f:Int}{vlo vhi:Ae Ac}(s:P.underlying U=some .string)(h:sl a g f=some c)
  (l:(vlo=none∧g=0)∨∃ k,vlo=some (.int k g)) (u:(vhi=none∧f=a.length)∨∃ k,vhi=some (.int k f)) (w:Af) :
  (Instr.slice U (.string (AL a)) vlo vhi none).run P w=.ok (.string (AL c)) w:=by
 unfold sl at h
 split at h
 rename_i m
 cases h
 obtain ⟨v,h1,h2⟩:=m
 have e:(AL a).extract g.toNat f.toNat=AL ((a.take f.toNat).drop g.toNat):=YJ (by
  rw [ByteArray.data_extract]
  simp [AL,List.extract_eq_take_drop,List.drop_take])
 have hz:=PL a
 have c1:0≤f∧f≤((AL a).size:Int):=⟨by omega,by omega⟩
 have c2:0≤g∧g≤((f.toNat:Nat):Int):=⟨by omega,by omega⟩
 rcases u with ⟨rfl,rfl⟩|⟨k,rfl⟩ <;> rcases l with ⟨rfl,rfl⟩|⟨k',rfl⟩ <;>
  simp_all [Instr.slice,Instr.sliceBounds,Instr.sliceBound,asIntOf,run_underlying s]
 cases h
theorem I2{s l:Int}{g f:Ae Operand}(u:P.underlying U=some .string)(hn:Nat.blt d n=true)(hx:B5 σ x=some (.string (AL a)))(v:sl a s l=some c)
  (ac:(g=none∧s=0)∨∃ o k,g=some o∧B5 σ o=some (.int k s)) (ad:(f=none∧l=a.length)∨∃ o k,f=some o∧B5 σ o=some (.int k l))
  (h:WL P n ds rest ((d,.string (AL c))::σ) w Q):WL P n ds (⟨some d,.slice U x g f none,T,pos,af,none⟩::rest) σ w Q :=
 C6 hn (fun ρ m=>by
  have:=Y1 (P:=P) (U:=U) (vlo:=g.map ρ) (vhi:=f.map ρ) u v (ac.imp (fun ⟨h,e⟩=>⟨by rw [h]; rfl,e⟩) fun ⟨o,k,h,e⟩=>⟨k,by rw [h]; simp [m _ _ e]⟩)
   (ad.imp (fun ⟨h,e⟩=>⟨by rw [h]; rfl,e⟩) fun ⟨o,k,h,e⟩=>⟨k,by rw [h]; simp [m _ _ e]⟩) w
  simp [execOp,m _ _ hx,Instr.sliceAt,run_underlying u,this]) h
theorem Y3{u:Ag}(h:P.underlying U=some .string)(e:AG a i=some u)(w:Af):(Instr.index U (.string (AL a)) (.int k i)).run P w=.ok (.int .u8 (u.toNat:Int)) w:=by
 unfold AG at e
 split at e
 rename_i f
 obtain ⟨l,g⟩:=List.getElem?_eq_some_iff.1 e
 have m:=PL a
 rw [run_index_string _ _ _ _ _ h,dif_pos ⟨f,by omega⟩]
 have:(AL a)[i.toNat]'(by omega)=u:=by rw [← g]; rfl
 rw [this]
 cases e
theorem Fd{u:Ag}(m:P.underlying U=some .string)(g:Nat.blt d n=true)(l:B5 σ x=some (.string (AL a)))(f:B5 σ y=some (.int k i))(s:AG a i=some u)
  (h:WL P n ds rest ((d,.int .u8 (u.toNat:Int))::σ) w Q):WL P n ds (⟨some d,.index U x y,T,pos,af,none⟩::rest) σ w Q :=
 C6 g (fun ρ e=>by simp [execOp,e _ _ l,e _ _ f,Y3 m s]) h
theorem QS{g:Array TypeId}(l:Nat.blt d n=true)(m:B5 σ x=some (.int k i))(f:B5 σ y=some (.int k j))
  (h:WL P n ds rest ((d,.int k (Gj i j))::σ) w Q):WL P n ds (⟨some d,.call ⟨.builtin .max,#[x,y],g⟩,T,pos,af,none⟩::rest) σ w Q :=
 C6 l (fun ρ e=>by simp [execOp,resolve,invoke,builtin,e _ _ m,e _ _ f,Builtin.max_,Builtin.max2,Gj]) h
theorem UU{g:Array TypeId}(l:Nat.blt d n=true)(m:B5 σ x=some (.int k i))(f:B5 σ y=some (.int k j))
  (h:WL P n ds rest ((d,.int k (Fq i j))::σ) w Q):WL P n ds (⟨some d,.call ⟨.builtin .min,#[x,y],g⟩,T,pos,af,none⟩::rest) σ w Q :=
 C6 l (fun ρ e=>by simp [execOp,resolve,invoke,builtin,e _ _ m,e _ _ f,Builtin.min_,Builtin.min2,Fq]) h
end Go.Proofs.YtellehgihceicaaGreatDoor
namespace Go.Proofs.YtellehgihceicaaGreatDoor
open Go Go.RowKit
variable {P:Program} {α β:Type}
def wE(w:Af):Af:={ w with heap:=#[] }
theorem Dp(w:Af):Below (wE w).heap.size (wE w) w:=⟨rfl,rfl,rfl,Nat.zero_le _,fun k e=>absurd e (Nat.not_lt_zero _)⟩
def AP(L:List Res):Ap:=L.flatMap fun r=>r.fp
theorem J1{L:List Res}{b:Nat}:b ∈ AP L↔∃ r ∈ L,b ∈ r.fp:=by simp [AP]
def A5(w0:Af)(X:Ap):Res:=⟨(List.range w0.heap.size).filter (fun b=>!X.contains b),fun w=>∀ b,b<w0.heap.size→b ∉ X→w.heap[b]? = w0.heap[b]?⟩
theorem Ij{w0:Af}{X:Ap}{b:Nat}:b ∈ (A5 w0 X).fp↔b<w0.heap.size∧b ∉ X:=by simp [A5]
section
variable {base:Nat} {w w' w0:Af} {L M M':List Res} {r r1 r2:Res}
theorem Sep.rest(h:Sep 0 w M):Sep 0 w (A5 w (AP M)::M):=by
 refine ⟨fun s e=>?_,.cons (fun s e b f l=>(Ij.1 f).2 (J1.2 ⟨s,e,l⟩)) h.2⟩
 cases e with
 | tail _ e=>exact h.1 s e
 | head=>exact ⟨List.Nodup.sublist List.filter_sublist List.nodup_range,fun b f=>⟨Nat.zero_le _,(Ij.1 f).1⟩,fun w' g b f m=>g b (Ij.2 ⟨f,m⟩)⟩
theorem Sep.base0(h:Sep base w L):Sep 0 w L:=⟨fun r e=>⟨(h.1 r e).1,fun b f=>⟨Nat.zero_le _,((h.1 r e).2.1 b f).2⟩,(h.1 r e).2.2⟩,h.2⟩
theorem R8:∀(is e:Ap),Aj L (is++e)=Aj L is++Aj L e
 | [],e=>rfl
 | i::is,e=>by
  rw [List.cons_append,Aj,Aj,R8 is e]
  cases Ey L i <;> rfl
theorem Xx(f:M'.map (·.fp)=M.map (·.fp))(g:r ∈ M'):∃ s ∈ M,s.fp=r.fp:=by
 have:r.fp ∈ M.map (·.fp):=by rw [← f]; exact List.mem_map.2 ⟨r,g,rfl⟩
 obtain ⟨s,h,e⟩:=List.mem_map.1 this
 exact ⟨s,h,e⟩
theorem Od(e:Sep 0 w' (A5 w (AP M)::M')):∀ b,b<w.heap.size→b ∉ AP M→w'.heap[b]? = w.heap[b]?:=(e.1 _ (List.mem_cons_self ..)).ok
theorem YH(m:M'.map (·.fp)=M.map (·.fp))(g:Sep 0 w' (A5 w (AP M)::M')):w.heap.size≤w'.heap.size:=by
 by_cases u:w.heap.size=0
 omega
 by_cases f:w.heap.size-1 ∈ AP M
 obtain ⟨r,l,f⟩:=J1.1 f
 have:r.fp ∈ M'.map (·.fp):=by rw [m]; exact List.mem_map.2 ⟨r,l,rfl⟩
 obtain ⟨s,h,e⟩:=List.mem_map.1 this
 have:=((g.1 s (by simp [h])).2.1 _ (by rw [e]; exact f)).2
 omega
 have:=((g.1 _ (List.mem_cons_self ..)).2.1 (w.heap.size-1) (Ij.2 ⟨by omega,f⟩)).2
 omega
theorem Sep.mut(h:Sep base w L)(is js:Ap)(hn:PJ (is++js)=true)(hM:YtellehgihceicaaGreatDoor.Aj L is=M)(ac:M'.map (·.fp)=M.map (·.fp))(v:Sep 0 w' (A5 w (AP M)::M')):Sep base w' (M'++YtellehgihceicaaGreatDoor.Aj L js):=by
 have al:=YH ac v
 have am:=Od v
 have m:=h.sel (is++js) hn
 rw [R8,hM] at m
 have ad:=(List.pairwise_append.1 m.2).2.2
 have aa:=v.2
 cases aa with
 | cons _ aa =>
  refine ⟨fun r f=>?_,List.pairwise_append.2 ⟨aa,(List.pairwise_append.1 m.2).2.1,fun r f s u b l=>?_⟩⟩
  rcases AV.1 f with f|f
  have g:=v.1 r (by simp [f])
  obtain ⟨s,u,e⟩:=Xx ac f
  have gs:=m.1 s (by simp [u])
  exact ⟨g.1,fun b l=>⟨(gs.2.1 b (by rw [e]; exact l)).1,(g.2.1 b l).2⟩,g.2.2⟩
  have g:=m.1 r (by simp [f])
  refine g.keep al fun b l=>am b (g.2.1 b l).2 fun hx=>?_
  obtain ⟨s,u,ah⟩:=J1.1 hx
  exact ad s u r f b ah l
  obtain ⟨t,ht,e⟩:=Xx ac f
  exact ad t ht s u b (by rw [e]; exact l)
theorem Sep.mutB(h:Sep base w L)(is:Ap)(v:PJ is=true)(hM:YtellehgihceicaaGreatDoor.Aj L is=M)(ad:M'.map (·.fp)=M.map (·.fp))(e:Below base w0 w)(ae:base≤w.heap.size)(f:Below 0 (wE w) w')(g:Sep 0 w' (A5 w (AP M)::M')):Below base w0 w' :=
 ⟨f.os.trans e.os,f.tape.trans e.tape,f.output.trans e.output,Az e.size (YH ad g),fun k l=>(Od g k (by omega) fun hx=>by
  obtain ⟨s,u,hb⟩:=J1.1 hx
  have m:s ∈ YtellehgihceicaaGreatDoor.Aj L is:=by rw [hM]; exact u
  have:=((h.sel is v).1 s m).2.1 k hb
  omega).trans (e.block k l)⟩
end
end Go.Proofs.YtellehgihceicaaGreatDoor
namespace Go.Proofs.YtellehgihceicaaGreatDoor
open Go Go.RowKit
variable {P:Program} {n:Nat} {ds:List (Ae Tmp)} {d:Nat} {T U V:TypeId} {pos:String} {af:Array Edge} {rest:List Oper} {x y z:Operand} {σ:EY} {w w0:Af} {Q:Exit→Act→Af→Prop} {L:List Res}
theorem Aas{i b:Nat}{V:TypeId}{cs:List Ac}(f:Sep w0.heap.size w L)(e:Ey L i=some (Av b V cs)):EAt (·<w.heap.size) w ⟨b,0,none⟩ cs :=
 ⟨((f.get e).2.1 b (by simp [Av])).2,fun j c g=>Qw (o:=0) (f.ok e) j c (by simpa using g)⟩
theorem R3{f:FuncId}{caps:List Ac}{g:List Operand}{s:Array TypeId}{vs:List Ac}{R:Ending→Af→Prop}(hn:Nat.blt d n=true)
  (hf:B5 σ x=some (.func (.func f) #[] caps.toArray))
  (ac:∀ args w,(callFunc f args).run P w=.ok (.enter f args) w) (hc:Calls P f (vs++caps).toArray w R) (m:g.map (B5 σ)=vs.map some)
  (h:∀ e w',R e w'→∃ v,e=.returned v∧WL P n ds rest ((d,v)::σ) w' Q) :
  WL P n ds (⟨some d,.call ⟨.value x,g.toArray,s⟩,T,pos,af,none⟩::rest) σ w Q:=by
 intro ops ho a l
 refine wpList_plain rfl fun K hK=>?_
 unfold Oper.wp
 have he:(execOp a.eval ⟨some d,.call ⟨.value x,g.toArray,s⟩,T,pos,af,none⟩).run P w=.ok (.enter f (vs++caps).toArray) w:=by
  have u:=SW m a.eval (fun x v m=>l.eval m)
  have ad:=l.eval hf
  simp [execOp,resolve,Deferred.ofValue,invoke,ac,u,ad]
 rw [he]
 simp only [Oper.upon]
 refine hc.mono fun e w' hR=>?_
 obtain ⟨v,rfl,hv⟩:=h e w' hR
 exact hK _ _ (hv ops ho _ (l.put v hn))
theorem DR{k k':IntKind}{a:Int}{m:TypeDesc}(e:P.underlying U=some m)(s:P.underlying V=some (.int k'))(g:Nat.blt d n=true)(l:B5 σ x=some (.int k a))
  (h:WL P n ds rest ((d,.int k' (k'.wrap a))::σ) w Q):WL P n ds (⟨some d,.convert U V x,T,pos,af,none⟩::rest) σ w Q :=
 C6 g (fun ρ f=>by simp [execOp,f _ _ l,convert,run_underlying e,run_underlying s,Conv.intToInt]) h
theorem Abk(l:List Int)(s:ByteArray):(l.foldl (fun r n=>r.push (UInt8.ofNat n.toNat)) s).data.toList=s.data.toList++LJ l:=by
 induction l generalizing s with
 | nil=>simp [LJ]
 | cons x l e=>rw [List.foldl_cons,e]; simp [LJ]
theorem Acp{e:Ty P Int}(hf:Flat e (fun u=>[.int .u8 u])){S:Nat→Prop}{v:Ac}{l:List Int}(hs:P.underlying U=some (.slice e.tid))(he:P.underlying e.tid=some (.int .u8))(hd:P.underlying V=some .string)(al:e.sz=1)
  {w:Af} (hr:rdS e S w v l):(convert U V v).run P w=.ok (.string (AL (LJ l))) w:=by
 obtain ⟨a,cap,rfl,hc,s⟩:=hr
 rw [run_convert_bytes_string w U V e.tid a _ _ hs he hd]
 cases a with
 | none =>
  rcases s with rfl|⟨m,h,_⟩
  simp [Conv.bytesToString,LJ,AL,Sem.run_pure]
  rfl
  cases h
 | some m =>
  rw [run_bytesToString w m l.length cap l]
  congr 2
  apply YJ
  rw [Abk]
  simp
  have:=run_loadCells_list (P:=P) w m (l.map (Value.int .u8)) (fun j c f=>?_)
  simpa using this
  rcases s with rfl|⟨am,h,ak⟩
  simp at f
  cases h
  rw [List.getElem?_map] at f
  cases g:l[j]? with
  | none=>rw [g] at f; cases f
  | some u =>
   rw [g] at f
   obtain ⟨_,cs,aa,ag⟩:=ak j u g
   have ac:=hf.rd aa
   have:=ag 0 c (by rw [ac]; simpa using f)
   rw [al,Nat.mul_one,Addr.add_zero'] at this
   exact this
theorem R2{e:Ty P Int}(hf:Flat e (fun u=>[.int .u8 u])){S:Nat→Prop}{v:Ac}{l:List Int}(f:P.underlying U=some (.slice e.tid))(he:P.underlying e.tid=some (.int .u8))(hd:P.underlying V=some .string)(ae:e.sz=1)(m:Nat.blt d n=true)
  (hx:B5 σ x=some v) (s:rdS e S w v l) (h:WL P n ds rest ((d,.string (AL (LJ l)))::σ) w Q):WL P n ds (⟨some d,.convert U V x,T,pos,af,none⟩::rest) σ w Q :=
 C6 m (fun ρ g=>by simp [execOp,g _ _ hx,Acp hf f he hd ae s]) h
end Go.Proofs.YtellehgihceicaaGreatDoor
namespace Go.Proofs.YtellehgihceicaaGreatDoor
open Go Go.RowKit
variable {P:Program} {α β:Type} {n:Nat} {ds:List (Ae Tmp)} {d:Nat} {T U V:TypeId} {pos:String} {af:Array Edge} {rest:List Oper} {x y z:Operand} {σ:EY} {w w0:Af} {Q:Exit→Act→Af→Prop} {L M:List Res}
theorem Wh{e:Ty P α}(hu:P.underlying U=some (.slice e.tid)){base:Nat}{F F2:Ap}{v v2:Ac}{l m r:List α}
  (ho:ownS e F w v l) (bn:ownS e F2 w v2 m) (hF:∀ b ∈ F,base≤b) (au:F.Nodup) (a6:F2.Nodup) (a1:∀ b ∈ F,b ∉ F2) (bl:BB l m=some r) (bk:base≤w.heap.size) :
  ∃ v' w' F',(Builtin.append_ #[U,U] T #[v,v2]).run P w=.ok v' w'∧ownS e F' w' v' r∧w.grownBy w' v.ownBlock∧F'.Nodup∧(∀ b ∈ F',b ∈ F∨b ∈ F2∨(w.heap.size≤b∧b<w'.heap.size))∧(∀ k,v.ownBlock=some k→k ∈ F):=by
 obtain ⟨rfl,bx⟩:=Zp bl
 obtain ⟨i,zz,ax,ca,b4,hz,bp⟩:=e.info
 have b9:zz.cells.size=e.sz:=by rw [bp]; simp; exact e.rd_len (e.own_rd (e.zero_own w))
 have ak:∀ k,v.ownBlock=some k→k ∈ F:=by
  intro k hk
  rcases ho with ⟨h1,h2,h3⟩|⟨g,cap,ao,css,Fs,h1,h2,h3,h4,h5,h6,h7,h8⟩
  rw [h1] at hk; cases hk
  rw [h1] at hk
  simp [Value.ownBlock] at hk
  rw [h8,← hk]; simp
 have bq:∃ css Fs,w.ownsRow base e.tid e.sz v l.length css.flatten∧Z3 (fun F cs x=>e.own F w cs x) Fs css l∧(∀ b ∈ Fs.flatten,b ∈ F)∧Fs.flatten.Nodup∧(∀ k,v.ownBlock=some k→k ∉ Fs.flatten):=by
  rcases ho with ⟨h1,h2,h3⟩|⟨g,cap,ao,css,Fs,h1,h2,h3,h4,h5,h6,h7,h8⟩
  subst h2
  refine ⟨[],[],⟨by simp,.inl ⟨h1,rfl⟩⟩,trivial,fun b f=>by simp at f,by simp,fun k _=>by simp⟩
  subst h8
  rw [List.nodup_cons] at au
  refine ⟨css,Fs,⟨by rw [LH h7.sz,h7.len.2],.inr ⟨g,cap,ao,h1,hF g (by simp),h2,h3,h4,h5,h6⟩⟩,h7,fun b f=>List.mem_cons_of_mem _ f,au.2,fun k hk=>?_⟩
  rw [h1] at hk
  simp [Value.ownBlock] at hk
  rw [← hk]
  exact au.1
 obtain ⟨css,Fs,a8,am,be,br,a3⟩:=bq
 rcases bn with ⟨rfl,rfl,rfl⟩|⟨g2,b8,bs,ai,Fs2,rfl,bm,cd,ce,cc,bz,ae,rfl⟩
 -- nothing is appended
 have bv:(Builtin.append_ #[U,U] T #[v,.slice none 0 0]).run P w=.ok v w:=by
  rcases a8.2 with ⟨rfl,hn⟩|⟨g,c,ao,rfl,f,hg,hn,hm,hc,ht⟩
  simp [Builtin.append_,run_underlying hu,sizeOf,typeInfo,ax,Builtin.lenOf,Builtin.firstCells,loadCells,loadCellsFrom]
  simp [Builtin.append_,run_underlying hu,sizeOf,typeInfo,ax,Builtin.lenOf,Builtin.firstCells,loadCells,loadCellsFrom,hn,storeCells]
 exact ⟨v,w,F,bv,by simpa using ho,⟨rfl,rfl,rfl,Nat.le_refl _,fun _ _ _=>rfl⟩,au,fun b f=>.inl f,ak⟩
 have bi:ai.flatten.length=m.length*e.sz:=by rw [LH ae.sz,ae.len.2]
 have bj:∀(j:Nat) u,ai.flatten[j]? = some u→w.cell? ((⟨g2,0,none⟩:Addr).add j)=some u:=by
  intro j u hj
  rw [Addr.add_lit,Nat.zero_add,cell_of_row w g2 _ bs e.tid (0,0) bm]
  rw [← bz,List.getElem?_take] at hj
  split at hj
  simpa using hj
  cases hj
 have b2:∀ u ∈ ai.flatten,u.oneCell'=true:=by
  intro u hu
  obtain ⟨c,hc,hu⟩:=List.mem_flatten.1 hu
  obtain ⟨k,hk⟩:=List.getElem?_of_mem hc
  have ab:k<m.length:=by rw [← ae.len.2]; exact (List.getElem?_eq_some_iff.1 hk).1
  obtain ⟨a,b,_,h2,h3⟩:=ae.get k m[k] (by simp [ab])
  rw [hk] at h2
  cases h2
  exact e.rd_one (e.own_rd h3) u hu
 have b5:(l.length+m.length)*e.bts≤140737488355328:=Zi bx e.bts_le
 obtain ⟨v',w',hr,h2,h3,a7⟩:=Qm (P:=P) w base U T e.tid i zz e.sz e.bts hu ax hz ca b4 b9 v l.length _ a8 ⟨g2,0,none⟩ m.length b8 ai.flatten
  bi bj b2 (by simp only [maxLen]; omega) b5 bk
 rw [List.nodup_cons] at a6
 have bb:∀ b,b ∈ Fs.flatten∨b ∈ Fs2.flatten→w'.heap[b]? = w.heap[b]?∧b<w.heap.size:=by
  intro b f
  rcases f with f|f
  obtain ⟨G,hG,s⟩:=List.mem_flatten.1 f
  obtain ⟨k,hk⟩:=List.getElem?_of_mem hG
  have ab:k<l.length:=by rw [← am.len.1]; exact (List.getElem?_eq_some_iff.1 hk).1
  obtain ⟨a,c,ag,_,al⟩:=am.get k l[k] (by simp [ab])
  rw [hk] at ag
  cases ag
  have ab:=e.own_lt al b s
  exact ⟨h3.block b ab fun h=>a3 b h.symm f,ab⟩
  obtain ⟨G,hG,s⟩:=List.mem_flatten.1 f
  obtain ⟨k,hk⟩:=List.getElem?_of_mem hG
  have ab:k<m.length:=by rw [← ae.len.1]; exact (List.getElem?_eq_some_iff.1 hk).1
  obtain ⟨a,c,ag,_,al⟩:=ae.get k m[k] (by simp [ab])
  rw [hk] at ag
  cases ag
  have ab:=e.own_lt al b s
  exact ⟨h3.block b ab fun h=>a1 b (ak b h.symm) (List.mem_cons_of_mem _ f),ab⟩
 have b1:Z3 (fun F cs x=>e.own F w' cs x) (Fs++Fs2) (css++ai) (l++m):=by
  refine Z3.of (by simp [am.len.1,ae.len.1]) (by simp [am.len.2,ae.len.2]) fun k a c x ha hc hx=>?_
  have bw:=Z3.app am ae
  obtain ⟨a',c',ag,bf,al⟩:=bw.get k x hx
  rw [ha] at ag
  rw [hc] at bf
  cases ag
  cases bf
  refine e.own_keep al fun b f=>(bb b ?_).1
  rcases AV.1 (List.mem_of_getElem? ha) with h|h
  exact .inl (List.mem_flatten.2 ⟨a,h,f⟩)
  exact .inr (List.mem_flatten.2 ⟨a,h,f⟩)
 rcases h2.2 with ⟨rfl,hn⟩|⟨g,c,ao,rfl,f,hg,hn,hm,hc,ht⟩
 have e1:l=[]:=List.eq_nil_of_length_eq_zero (by omega)
 have e2:m=[]:=List.eq_nil_of_length_eq_zero (by omega)
 subst e1; subst e2
 exact ⟨_,w',[],hr,.inl ⟨rfl,rfl,rfl⟩,h3,.nil,fun b f=>(by cases f),ak⟩
 have b6:g ∉ (Fs++Fs2).flatten:=by
  intro s
  rw [List.flatten_append,AV] at s
  rcases a7 with h|h
  have bt:=ak g (by rw [← h]; rfl)
  rcases s with s|s
  exact a3 g (by rw [← h]; rfl) s
  exact a1 g bt (List.mem_cons_of_mem _ s)
  simp [Value.ownBlock] at h
  have:=(bb g s).2
  omega
 refine ⟨_,w',g::(Fs++Fs2).flatten,hr,.inr ⟨g,c,ao,css++ai,Fs++Fs2,by simp,hg,by simpa using hn,hm,hc,by simpa using ht,b1,rfl⟩,h3,?_,fun b s=>?_,ak⟩
 rw [List.nodup_cons]
 refine ⟨b6,?_⟩
 rw [List.flatten_append,List.nodup_append]
 exact ⟨br,a6.2,fun a ha b f e=>by subst e; exact a1 a (be a ha) (List.mem_cons_of_mem _ f)⟩
 rcases List.mem_cons.1 s with rfl|s
 rcases a7 with h|h
 exact .inl (ak b (by rw [← h]; rfl))
 simp [Value.ownBlock] at h
 exact .inr (.inr ⟨by omega,(Array.getElem?_eq_some_iff.1 hg).1⟩)
 rw [List.flatten_append,AV] at s
 rcases s with s|s
 exact .inl (be b s)
 exact .inr (.inl (List.mem_cons_of_mem _ s))
theorem Mq{e:Ty P α}{F F2:Ap}{v v2:Ac}{l m r:List α}(hu:P.underlying U=some (.slice e.tid))(hn:Nat.blt d n=true)
  (hx:B5 σ x=some v) (hy:B5 σ y=some v2) (hB:Below w0.heap.size w0 w) (g:Sep w0.heap.size w (Ab e F v l::Ab e F2 v2 m::M)) (an:BB l m=some r)
  (h:∀ u F' w',(w.heap.size≤w'.heap.size∧(∀ b,b<w.heap.size→b ∉ F→w'.heap[b]? = w.heap[b]?)∧∀ b ∈ F',b ∈ F∨b ∈ F2∨w.heap.size≤b)→Below w0.heap.size w0 w'→Sep w0.heap.size w' (Ab e F' u r::M)→WL P n ds rest ((d,u)::σ) w' Q) :
  WL P n ds (⟨some d,.call ⟨.builtin .append,#[x,y],#[U,U]⟩,T,pos,af,none⟩::rest) σ w Q:=by
 have ac:=g.get (i:=0) rfl
 have ar:=g.get (i:=1) rfl
 have au:∀ b ∈ F,b ∉ F2:=g.disj (i:=0) (j:=1) rfl rfl rfl
 obtain ⟨u,w',F',al,ho,s,ax,hF,ae⟩:=Wh (T:=T) hu (g.ok (i:=0) rfl:ownS e F w v l) (g.ok (i:=1) rfl:ownS e F2 w v2 m) (fun b f=>(ac.2.1 b f).1) ac.1 ar.1 au an hB.size
 have ak:=ac.2.1
 have aj:Sep w0.heap.size w (⟨F++F2,fun _=>True⟩::M):=g.merge rfl fun _ _ _=>trivial
 have aw:=aj.upd (i:=0) (w':=w') (r':=Ab e F' u r) rfl s.size (fun b _ ab f=>s.block b ab fun e=>f (Ax _ (ae b e.symm))) ax
  (fun b f=>(hF b f).elim (fun h=>.inl (Ax _ h)) fun h=>h.elim (fun h=>.inl (Bm _ h)) .inr) hB.size fun ay hk=>ho.keep hk
 exact C6 hn (fun ρ hρ=>by simp [execOp,resolve,invoke,builtin,hρ _ _ hx,hρ _ _ hy,al])
  (h u F' w' ⟨s.size,fun b ab f=>s.block b ab fun e=>f (ae b e.symm),fun b f=>(hF b f).imp id fun h=>h.imp id fun h=>h.1⟩ (hB.grown s hB.size fun k hk=>(ak k (ae k hk)).1) aw)
theorem Pn{e:Ty P α}{F2:Ap}{vx:Ac}{vs:List Ac}{u:α}(hu:P.underlying U=some (.slice e.tid))(hn:Nat.blt d n=true)
  (hx:B5 σ x=some vx) (g:vx.cells=vs.toArray) (an:Nat.ble e.sz 65536=true) (l:Below w0.heap.size w0 w) (hS:Sep w0.heap.size w (RP e F2 vs u::M))
  (h:∀ v F w',Below w.heap.size w w'→(∀ b ∈ F,b ∈ F2∨w.heap.size≤b)→Below w0.heap.size w0 w'→Sep w0.heap.size w' (Ab e F v [u]::M)→WL P n ds rest ((d,v)::σ) w' Q) :
  WL P n ds (⟨some d,.buildSlice U 1 #[(0,x)],T,pos,af,none⟩::rest) σ w Q:=by
 have ho:e.own F2 w vs u:=hS.ok (i:=0) rfl
 have ao:=hS.get (i:=0) rfl
 have s:vs.length=e.sz:=e.rd_len (e.own_rd ho)
 have aq:=Nat.le_of_ble_eq_true an
 have m:Below w.heap.size w (w.alloc (.cells vs.toArray e.tid)):=FC w _
 have ac:=(hS.push (r:=⟨[w.heap.size],fun w'=>w'.heap[w.heap.size]? = some (.cells vs.toArray e.tid (0,0))⟩) m (by simp) (fun b f=>by simp at f; subst f; simp) l.size
  (fun ad hk=>by
   show ad.heap[w.heap.size]? = _
   rw [hk w.heap.size (by simp),heap_alloc_new]))
 have am:=ac.merge (r:=Ab e (w.heap.size::F2) (.slice (some ⟨w.heap.size,0,none⟩) 1 1) [u]) rfl (fun w1 h1 h2 =>
  .inr ⟨w.heap.size,1,vs.toArray,[vs],[F2],rfl,h1,Nat.le_refl _,by simp [maxLen],by simp [s],by simp [← s],⟨h2,trivial⟩,by simp⟩)
 refine C6 (w':=w.alloc (.cells vs.toArray e.tid)) (v:=.slice (some ⟨w.heap.size,0,none⟩) 1 1) hn (fun ρ hρ=>?_)
  (h _ (w.heap.size::F2) _ m (fun b f=>(List.mem_cons.1 f).elim (fun h=>.inr (by omega)) .inl) (l.trans (m.mono l.size)) am)
 have f:=Ob (P:=P) hu (parts:=[(0,ρ x)]) (css:=[vs]) (by simp [hρ _ _ hx,g]) (fun c g=>by simp at g; subst g; exact s) (by simp; omega) w
 simp only [List.length_singleton,List.flatten_cons,List.flatten_nil,List.append_nil] at f
 simp only [execOp,Array.map,List.map_toArray,Sem.run_bind,f,Result.andThen_ok,Sem.run_pure]
 simp [f]
theorem Sep.take{base:Nat}{w':Af}{L M N:List Res}(h:Sep base w L)(is v:Ap)(hn:PJ (is++v)=true)(hM:YtellehgihceicaaGreatDoor.Aj L is=M)(u:Sep 0 w' (A5 w (AP M)::N))(m:base≤w.heap.size):Sep base w' (N++YtellehgihceicaaGreatDoor.Aj L v):=by
 have aj:=Od u
 have l:=h.sel (is++v) hn
 rw [R8,hM] at l
 have al:=(List.pairwise_append.1 l.2).2.2
 have ao:=u.1 _ (List.mem_cons_self ..)
 have ae:=u.2
 cases ae with
 | cons hr ae =>
  have ac:∀ s ∈ YtellehgihceicaaGreatDoor.Aj L v,∀ b ∈ s.fp,b ∈ (A5 w (AP M)).fp:=fun s hs b m=>by
   have g:=l.1 s (by simp [hs])
   refine Ij.2 ⟨(g.2.1 b m).2,fun hx=>?_⟩
   obtain ⟨t,ht,e⟩:=J1.1 hx
   exact al t ht s hs b e m
  refine ⟨fun r f=>?_,List.pairwise_append.2 ⟨ae,(List.pairwise_append.1 l.2).2.1,fun r f s hs b m e=>hr r f b (ac s hs b e) m⟩⟩
  rcases AV.1 f with f|f
  have g:=u.1 r (by simp [f])
  refine ⟨g.1,fun b e=>⟨?_,(g.2.1 b e).2⟩,g.2.2⟩
  by_cases ah:b<w.heap.size
  by_cases hx:b ∈ AP M
  obtain ⟨t,ht,ap⟩:=J1.1 hx
  exact ((l.1 t (by simp [ht])).2.1 b ap).1
  exact absurd e (hr r f b (Ij.2 ⟨ah,hx⟩))
  omega
  have g:=l.1 r (by simp [f])
  refine ⟨g.1,fun b e=>⟨(g.2.1 b e).1,(ao.2.1 b (ac r f b e)).2⟩,fun ak hk=>g.2.2 ak fun b e=>(hk b e).trans ?_⟩
  have:=Ij.1 (ac r f b e)
  exact aj b this.1 this.2
theorem Sep.takeB{w':Af}{L M N:List Res}(h:Sep w0.heap.size w L)(is:Ap)(hn:PJ is=true)(hM:YtellehgihceicaaGreatDoor.Aj L is=M)(e:Below w0.heap.size w0 w)(f:Below 0 (wE w) w')(m:Sep 0 w' (A5 w (AP M)::N)):Below w0.heap.size w0 w':=by
 have l:∀ b,b<w0.heap.size→b ∈ (A5 w (AP M)).fp:=fun b hb=>Ij.2 ⟨by have:=e.size; omega,fun hx=>by
  obtain ⟨s,v,ad⟩:=J1.1 hx
  have u:s ∈ YtellehgihceicaaGreatDoor.Aj L is:=by rw [hM]; exact v
  have:=((h.sel is hn).1 s u).2.1 b ad
  omega⟩
 have aa:=m.1 _ (List.mem_cons_self ..)
 refine ⟨f.os.trans e.os,f.tape.trans e.tape,f.output.trans e.output,?_,fun k g=>(Od m k (by have:=e.size; omega) (Ij.1 (l k g)).2).trans (e.block k g)⟩
 by_cases h0:w0.heap.size=0
 omega
 have:=(aa.2.1 (w0.heap.size-1) (l _ (by omega))).2
 omega
end Go.Proofs.YtellehgihceicaaGreatDoor
namespace Go.Proofs.YtellehgihceicaaGreatDoor
open Go Go.RowKit
variable {P:Program} {n:Nat} {ds:List (Ae Tmp)} {d:Nat} {T TB U V:TypeId} {pos:String} {af:Array Edge} {rest:List Oper} {x y z:Operand} {σ:EY} {w w0 wS:Af} {Q:Exit→Act→Af→Prop} {L:List Res} {X F:Ap}
variable {a b c:List Ag} {k k' yk:IntKind} {i j:Int} {S:Af→Prop} {G:Ac→Prop}
theorem FH(g:Nat.blt d n=true)(l:B5 σ x=some (.string (AL a)))(f:B5 σ y=some (.string (AL b)))(m:BB a b=some c)(h:G (.string (AL c))):∃ v,PR P n σ S d (.binOp .add T x y U) TB v∧G v :=
 ⟨_,⟨g,fun ρ e w _ u pos af s=>by simp only [execOp,e _ _ l,e _ _ f,eqGuard_at_string,Vl m,Sem.run_bind,Sem.run_pure,Result.andThen_ok]⟩,h⟩
theorem Ahw{g:Array TypeId}(l:Nat.blt d n=true)(m:B5 σ x=some (.int k i))(f:B5 σ y=some (.int k j))(h:G (.int k (Gj i j))):∃ v,PR P n σ S d (.call ⟨.builtin .max,#[x,y],g⟩) T v∧G v :=
 ⟨_,⟨l,fun ρ e w _ u pos af s=>by simp [execOp,resolve,invoke,builtin,e _ _ m,e _ _ f,Builtin.max_,Builtin.max2,Gj]⟩,h⟩
theorem Vp{g:Array TypeId}(l:Nat.blt d n=true)(m:B5 σ x=some (.int k i))(f:B5 σ y=some (.int k j))(h:G (.int k (Fq i j))):∃ v,PR P n σ S d (.call ⟨.builtin .min,#[x,y],g⟩) T v∧G v :=
 ⟨_,⟨l,fun ρ e w _ u pos af s=>by simp [execOp,resolve,invoke,builtin,e _ _ m,e _ _ f,Builtin.min_,Builtin.min2,Fq]⟩,h⟩
theorem P8{m:TypeDesc}(e:P.underlying U=some m)(s:P.underlying V=some (.int k'))(g:Nat.blt d n=true)(l:B5 σ x=some (.int k i))(h:G (.int k' (k'.wrap i))):∃ v,PR P n σ S d (.convert U V x) T v∧G v :=
 ⟨_,⟨g,fun ρ f w _ aa pos af u=>by simp [execOp,f _ _ l,convert,run_underlying e,run_underlying s,Conv.intToInt]⟩,h⟩
theorem Je(g:Nat.blt d n=true)(l:B5 σ x=some (.int k i))(f:B5 σ y=some (.int k j))(h:WL P n ds rest ((d,.int k (B8 k i j))::σ) w Q):WL P n ds (⟨some d,.binOp .and T x y U,TB,pos,af,none⟩::rest) σ w Q :=
 C6 g (fun ρ e=>by simp [execOp,e _ _ l,e _ _ f,eqGuard,binOp,Op.intBits,B8]) h
theorem GB(s:decide (0≤j)=true)(g:Nat.blt d n=true)(l:B5 σ x=some (.int k i))(f:B5 σ y=some (.int yk j))(h:WL P n ds rest ((d,.int k (Bu k i j))::σ) w Q):WL P n ds (⟨some d,.binOp .shr T x y U,TB,pos,af,none⟩::rest) σ w Q :=
 C6 g (fun ρ e=>by
  have m:¬ j<0:=by simpa using s
  simp [execOp,e _ _ l,e _ _ f,eqGuard,binOp,Op.shift,m,Bu]) h
theorem KR(s:decide (0≤j)=true)(g:Nat.blt d n=true)(l:B5 σ x=some (.int k i))(f:B5 σ y=some (.int yk j))(h:WL P n ds rest ((d,.int k (LL k i j))::σ) w Q):WL P n ds (⟨some d,.binOp .shl T x y U,TB,pos,af,none⟩::rest) σ w Q :=
 C6 g (fun ρ e=>by
  have m:¬ j<0:=by simpa using s
  simp [execOp,e _ _ l,e _ _ f,eqGuard,binOp,Op.shift,m,LL]) h
theorem KeepX.wr'{wS w w':Af}{X F:Ap}(h:KeepX wS X w)(l:w.heap.size≤w'.heap.size)(g:∀ b,b<w.heap.size→b ∉ F→w'.heap[b]? = w.heap[b]?)(m:∀ b,b<wS.heap.size→b ∈ F→b ∈ X):KeepX wS X w' :=
 ⟨fun b h1 s=>Nat.lt_of_lt_of_le (h.lt b h1 s) l,fun b e f=>(g b (h.lt b e f) fun u=>f (m b e u)).trans (h.blk b e f)⟩
theorem KeepX.below{wS w w0:Af}{k:Nat}(h:KeepX wS [] w)(g:wS.heap.size≤w.heap.size)(h1:Below k w0 wS)(e:Below k w0 w):Below wS.heap.size wS w :=
 ⟨e.os.trans h1.os.symm,e.tape.trans h1.tape.symm,e.output.trans h1.output.symm,g,fun b f=>h.blk b f (by simp)⟩
variable {ops:List Oper} {fuel:Nat} {li:List Bool}
theorem CA{is:Ap}(m:Region.ready .any ops.toArray li.toArray=is)(f:is.isEmpty=false)
  (h:∀ i ∈ is,∃ o,ops[i]? = some o∧WL P n (ops.map (·.dst)) [o] σ w (Exit.then (fun a w=>S w∧wpAnyH P .any ops.toArray Q S fuel (li.set i true).toArray a w) Q)):WH P n ops S (fuel+1) li σ w Q:=by
 intro a g
 refine wpAnyH_all m (by intro e; rw [e] at f; simp at f) fun i u=>?_
 obtain ⟨o,s,l⟩:=h i u
 have:=OY s l g
 simpa using this
end Go.Proofs.YtellehgihceicaaGreatDoor
namespace Go.Proofs.YtellehgihceicaaGreatDoor
open Go Go.RowKit
variable {P:Program} {α:Type} {n:Nat} {ds:List (Ae Tmp)} {d:Nat} {T U:TypeId} {pos:String} {af:Array Edge} {rest:List Oper} {σ:EY} {w w0:Af} {Q:Exit→Act→Af→Prop} {L:List Res}
theorem VY{e:Ty P α}(hu:P.underlying U=some (.slice e.tid))(u:Nat.blt d n=true)(g:Below w0.heap.size w0 w)(s:Sep w0.heap.size w L)
  (h:∀ v F w',Below w.heap.size w w'→Below w0.heap.size w0 w'→Sep w0.heap.size w' (Ab e F v ([]:List α)::L)→WL P n ds rest ((d,v)::σ) w' Q) :
  WL P n ds (⟨some d,.buildSlice U 0 #[],T,pos,af,none⟩::rest) σ w Q:=by
 have l:Below w.heap.size w (w.alloc (.cells #[] e.tid)):=FC w _
 refine C6 (w':=w.alloc (.cells #[] e.tid)) (v:=.slice (some ⟨w.heap.size,0,none⟩) 0 0) u (fun ρ hρ=>?_)
  (h _ [w.heap.size] _ l (g.trans (l.mono g.size)) (s.push l (by simp [Ab]) (fun b f=>by simp [Ab] at f; subst f; simp) g.size fun ad m=>?_))
 have f:=Ob (P:=P) hu (parts:=[]) (css:=[]) rfl (fun c hc=>by cases hc) (by simp) w
 simp only [List.length_nil,List.flatten_nil] at f
 simp [execOp,f]
 have hh:=m w.heap.size (by simp [Ab])
 exact .inr ⟨w.heap.size,0,#[],[],[],rfl,by rw [hh,heap_alloc_new],Nat.le_refl _,by simp [maxLen],by simp,by simp,trivial,rfl⟩
end Go.Proofs.YtellehgihceicaaGreatDoor
namespace Go.Proofs.YtellehgihceicaaGreatDoor
open Go Go.RowKit
variable {P:Program} {α:Type} {n:Nat} {ds:List (Ae Tmp)} {d:Nat} {T U:TypeId} {pos:String} {af:Array Edge} {rest:List Oper} {x y z:Operand} {σ:EY} {w w0:Af} {Q:Exit→Act→Af→Prop} {L M:List Res} {S:Af→Prop} {G:Ac→Prop}
def SlOf(sz:Nat)(v v':Ac)(lo hi:Nat):Prop:=∃ a n c,v=.slice a n c∧v'=.slice (if c=lo then a else a.map (·.add (lo*sz))) (hi-lo) (c-lo)
theorem XV{l u:List α}{f e:Int}(h:sl l f e=some u):e.toNat≤l.length∧u=(l.take e.toNat).drop f.toNat:=by
 unfold sl at h
 split at h
 exact ⟨by omega,(Option.some.inj h).symm⟩
 cases h
theorem Sep.shrink{base:Nat}{w:Af}{M:List Res}{r r':Res}(h:Sep base w (r::M))(ab:r'.fp.Nodup)(g:∀ b ∈ r'.fp,b ∈ r.fp)(l:∀ w',(∀ b ∈ r'.fp,w'.heap[b]? = w.heap[b]?)→r'.ok w'):Sep base w (r'::M):=by
 obtain ⟨h1,h2⟩:=h
 cases h2 with
 | cons v u =>
  refine ⟨fun s e=>?_,.cons (fun s e b f=>v s e b (g b f)) u⟩
  cases e with
  | head =>
   have m:=h1 r (by simp)
   exact ⟨ab,fun b f=>m.2.1 b (g b f),l⟩
  | tail _ e=>exact h1 s (.tail _ e)
theorem Uf{e:Ty P α}{a:Ae Addr}{len cap:Nat}{f g:Int}(hu:P.underlying U=some (.slice e.tid))(l:0≤f)(h1:f≤g)(h2:g≤(cap:Int))(ai:len≤cap)(vlo vhi m:Ae Ac)(w:Af)
  (s:(vlo=none∧f=0)∨∃ k,vlo=some (.int k f)) (ag:(vhi=none∧g=len)∨∃ k,vhi=some (.int k g)) (hm:m=none) :
  (Instr.sliceAt U (.slice a len cap) vlo vhi m).run P w=.ok (.slice (if cap=f.toNat then a else a.map (·.add (f.toNat*e.sz))) (g.toNat-f.toNat) (cap-f.toNat)) w:=by
 subst hm
 obtain ⟨i,z,ac,v,_⟩:=e.info
 have ab:(Instr.sliceBounds true len cap vlo vhi none).run P w=.ok (f.toNat,g.toNat,cap) w:=by
  have u:0≤g∧g≤(cap:Int):=⟨by omega,h2⟩
  rcases ag with ⟨rfl,rfl⟩|⟨k,rfl⟩
  rcases s with ⟨rfl,rfl⟩|⟨k',rfl⟩
  simp [Instr.sliceBounds]
  have h:0≤f∧f≤(len:Int):=⟨l,h1⟩
  simp [Instr.sliceBounds,Instr.sliceBound,asIntOf,h]
  rcases s with ⟨rfl,rfl⟩|⟨k',rfl⟩
  simp [Instr.sliceBounds,Instr.sliceBound,asIntOf,u]
  have e1:((g.toNat:Nat):Int)=g:=by omega
  have h:0≤f∧f≤((g.toNat:Nat):Int):=⟨l,by omega⟩
  simp only [Instr.sliceBounds,Instr.sliceBound,asIntOf,Sem.run_bind,Sem.run_pure,Result.andThen_ok,u,and_self,if_true,h,Option.isSome_none]
 simp [Instr.sliceAt,Instr.slice,run_underlying hu,ab,sizeOf,typeInfo,ac,v]
theorem Mp{e:Ty P α}{S1:Nat→Prop}{w1:Af}{v:Ac}{l m:List α}{s g:Int}{u aa:Ae Operand}(hu:P.underlying U=some (.slice e.tid))(hn:Nat.blt d n=true)
  (hx:B5 σ x=some v) (hr:rdS e S1 w1 v l) (hm:sl l s g=some m)
  (al:(u=none∧s=0)∨∃ o k,u=some o∧B5 σ o=some (.int k s)) (ai:(aa=none∧g=l.length)∨∃ o k,aa=some o∧B5 σ o=some (.int k g))
  (h:∀ v',rdS e S1 w1 v' m→SlOf e.sz v v' s.toNat g.toNat→WL P n ds rest ((d,v')::σ) w Q):WL P n ds (⟨some d,.slice U x u aa none,T,pos,af,none⟩::rest) σ w Q:=by
 obtain ⟨v',ag,ar⟩:=Nv hu hr hm
 obtain ⟨a,cap,hv,hc,_⟩:=hr
 unfold sl at hm
 split at hm
 case isFalse=>cases hm
 rename_i hb
 have ah:(u.map (fun _=>Value.int .i64 s)=none∧s=0)∨∃ k,u.map (fun _=>Value.int .i64 s)=some (.int k s):=by
  rcases al with ⟨h,f⟩|⟨o,k,h,_⟩
  ·exact .inl ⟨by rw [h]; rfl,f⟩
  ·exact .inr ⟨.i64,by rw [h]; rfl⟩
 have am:(aa.map (fun _=>Value.int .i64 g)=none∧g=l.length)∨∃ k,aa.map (fun _=>Value.int .i64 g)=some (.int k g):=by
  rcases ai with ⟨h,f⟩|⟨o,k,h,_⟩
  ·exact .inl ⟨by rw [h]; rfl,f⟩
  ·exact .inr ⟨.i64,by rw [h]; rfl⟩
 have h1:=ag _ _ w ah am
 have h2:=Uf (P:=P) (e:=e) (a:=a) (len:=l.length) (cap:=cap) hu hb.1 hb.2.1 (by omega) hc _ _ none w ah am rfl
 rw [hv] at h1
 rw [h1] at h2
 injection h2 with h2 _
 refine C6 hn (fun ρ hρ=>?_) (h v' ar ⟨a,l.length,cap,hv,h2⟩)
 have:=ag (u.map ρ) (aa.map ρ) w (al.imp (fun ⟨h,f⟩=>⟨by rw [h]; rfl,f⟩) fun ⟨o,k,h,f⟩=>⟨k,by rw [h]; simp [hρ _ _ f]⟩)
  (ai.imp (fun ⟨h,f⟩=>⟨by rw [h]; rfl,f⟩) fun ⟨o,k,h,f⟩=>⟨k,by rw [h]; simp [hρ _ _ f]⟩)
 simp [execOp,hρ _ _ hx,this]
theorem Vn{e:Ty P α}{S1:Nat→Prop}{w1:Af}{v:Ac}{l m:List α}{s g:Int}{u aa:Ae Operand}(hu:P.underlying U=some (.slice e.tid))(hn:Nat.blt d n=true)
  (hx:B5 σ x=some v) (hr:rdS e S1 w1 v l) (hm:sl l s g=some m)
  (al:(u=none∧s=0)∨∃ o k,u=some o∧B5 σ o=some (.int k s)) (aj:(aa=none∧g=l.length)∨∃ o k,aa=some o∧B5 σ o=some (.int k g))
  (h:∀ v',rdS e S1 w1 v' m→SlOf e.sz v v' s.toNat g.toNat→G v'):∃ v,PR P n σ S d (.slice U x u aa none) T v∧G v:=by
 obtain ⟨v',ah,ar⟩:=Nv hu hr hm
 obtain ⟨a,cap,hv,hc,_⟩:=hr
 unfold sl at hm
 split at hm
 case isFalse=>cases hm
 rename_i hb
 have ai:(u.map (fun _=>Value.int .i64 s)=none∧s=0)∨∃ k,u.map (fun _=>Value.int .i64 s)=some (.int k s):=by
  rcases al with ⟨h,f⟩|⟨o,k,h,_⟩
  ·exact .inl ⟨by rw [h]; rfl,f⟩
  ·exact .inr ⟨.i64,by rw [h]; rfl⟩
 have am:(aa.map (fun _=>Value.int .i64 g)=none∧g=l.length)∨∃ k,aa.map (fun _=>Value.int .i64 g)=some (.int k g):=by
  rcases aj with ⟨h,f⟩|⟨o,k,h,_⟩
  ·exact .inl ⟨by rw [h]; rfl,f⟩
  ·exact .inr ⟨.i64,by rw [h]; rfl⟩
 have h1:=ah _ _ w1 ai am
 have h2:=Uf (P:=P) (e:=e) (a:=a) (len:=l.length) (cap:=cap) hu hb.1 hb.2.1 (by omega) hc _ _ none w1 ai am rfl
 rw [hv] at h1
 rw [h1] at h2
 injection h2 with h2 _
 refine ⟨v',⟨hn,fun ρ hρ w _ ax pos af gd=>?_⟩,h v' ar ⟨a,l.length,cap,hv,h2⟩⟩
 have:=ah (u.map ρ) (aa.map ρ) w (al.imp (fun ⟨h,f⟩=>⟨by rw [h]; rfl,f⟩) fun ⟨o,k,h,f⟩=>⟨k,by rw [h]; simp [hρ _ _ f]⟩)
  (aj.imp (fun ⟨h,f⟩=>⟨by rw [h]; rfl,f⟩) fun ⟨o,k,h,f⟩=>⟨k,by rw [h]; simp [hρ _ _ f]⟩)
 simp [execOp,hρ _ _ hx,this]
theorem SlOf.inv{sz:Nat}{a:Ae Addr}{n c f l:Nat}{g:Ac}(h:SlOf sz (.slice a n c) g f l):g=.slice (if c=f then a else a.map (·.add (f*sz))) (l-f) (c-f):=by
 obtain ⟨m,s,c',e,h⟩:=h
 cases e
 exact h
theorem TW{Fs Gs:List (Ap)}(h:Gs.Sublist Fs):Gs.flatten.Sublist Fs.flatten:=by
 induction h with
 | slnil=>exact .slnil
 | cons a _ e=>rw [List.flatten_cons]; exact List.Sublist.trans e (List.sublist_append_right _ _)
 | cons_cons a _ e=>rw [List.flatten_cons,List.flatten_cons]; exact List.Sublist.append (List.Sublist.refl _) e
theorem Z3.take{R:Ap→List Ac→α→Prop}:∀(k:Nat){Fs:List (Ap)}{css:List (List Ac)}{l:List α},Z3 R Fs css l→Z3 R (Fs.take k) (css.take k) (l.take k)
 | 0,_,_,_,_=>by simp only [List.take_zero]; trivial
 | k+1,[],[],[],h=>by simp only [List.take_nil]; trivial
 | k+1,_::_,_::_,_::_,h=>by simp only [List.take_succ_cons]; exact ⟨h.1,Z3.take k h.2⟩
theorem Z3.drop{R:Ap→List Ac→α→Prop}:∀(k:Nat){Fs:List (Ap)}{css:List (List Ac)}{l:List α},Z3 R Fs css l→Z3 R (Fs.drop k) (css.drop k) (l.drop k)
 | 0,_,_,_,h=>by simpa only [List.drop_zero] using h
 | k+1,[],[],[],h=>by simp only [List.drop_nil]; trivial
 | k+1,_::_,_::_,_::_,h=>by simp only [List.drop_succ_cons]; exact Z3.drop k h.2
theorem SU{sz:Nat}:∀(css:List (List Ac))(k:Nat),(∀ c ∈ css,c.length=sz)→k≤css.length→css.flatten.take (k*sz)=(css.take k).flatten
 | css,0,_,_=>by simp
 | [],k+1,_,h=>by simp at h
 | c::css,k+1,hc,h=>by
  have h1:=hc c (by simp)
  rw [List.flatten_cons,List.take_succ_cons,List.flatten_cons,Nat.succ_mul,Nat.add_comm,← h1,List.take_length_add_append,h1,SU css k (fun c e=>hc c (by simp [e])) (by simpa using h)]
theorem Aad{e:Ty P α}{F:Ap}{v m:Ac}{l:List α}{k:Nat}(ho:ownS e F w v l)(ak:F.Nodup)(hs:SlOf e.sz v m 0 k)(f:k≤l.length):∃ F',ownS e F' w m (l.take k)∧F'.Nodup∧∀ b ∈ F',b ∈ F:=by
 rcases ho with ⟨rfl,rfl,rfl⟩|⟨g,cap,aj,css,Fs,rfl,hg,hn,hm,hc,ht,s,rfl⟩
 have u:=hs.inv
 simp at f
 subst f
 exact ⟨[],.inl ⟨by simpa using u,by simp,rfl⟩,.nil,fun _ h=>h⟩
 have u:=hs.inv
 have ai:m=.slice (some ⟨g,0,none⟩) k cap:=by
  rw [u]
  by_cases h0:cap=0
  simp [h0]
  simp [h0,Addr.add_zero']
 obtain ⟨n1,n2⟩:=s.len
 refine ⟨g::(Fs.take k).flatten,.inr ⟨g,cap,aj,css.take k,Fs.take k,by rw [ai,List.length_take,Nat.min_eq_left f],hg,by rw [List.length_take]; omega,hm,hc,?_,Z3.take k s,rfl⟩,?_,fun b hb=>?_⟩
 rw [List.length_take,Nat.min_eq_left f,← SU css k s.sz (by omega),← ht,List.take_take,Nat.min_eq_left (Nat.mul_le_mul_right _ f)]
 exact List.Nodup.sublist (List.Sublist.cons_cons g (TW (List.take_sublist k Fs))) ak
 exact (List.Sublist.cons_cons g (TW (List.take_sublist k Fs))).subset hb
theorem Jr{f:FuncId}{e:Func}{c:Code}{g:List Ac}{w:Af}{R:Ending→Af→Prop}{n:Nat}
  (hf:P.funcs[f]? = some e) (s:e.body=some c) (l:e.ntmps=n) (u:g.length+(n-g.length)=n) {σ:EY} (m:σ=g.zipIdx.map (fun p=>(p.2,p.1)))
  (h:∀ Q:Exit→Act→Af→Prop,(∀ a w,bodyPost P e R .normal a w→Q .normal a w)→(∀ a w,bodyPost P e R .ret a w→Q .ret a w)→Kb Q→W P n c σ w Q):Calls P f g.toArray w R :=
 Zh hf s l u m (h _ (fun _ _ h=>h) (fun _ _ h=>h) fun c a d v w h=>by cases d <;> exact h)
theorem Nw{e:Func}{R:Ending→Af→Prop}{rs:List ResultVar}{vs:List Ac}{Q:Exit→Act→Af→Prop}(g:∀ a w,bodyPost P e R .normal a w→Q .normal a w)(l:e.results=rs.toArray)(f:RVs P n σ w rs vs)(h:R (.returned (R4 vs)) w) :
  ∀ a,St n σ a→Q .normal a w :=
 JU (Q:=fun _ a w=>Q .normal a w) (fun a w h=>g a w h) l f h
def L1(X:Ap)(w:Af)(b:Nat):Prop:=b<w.heap.size∧b ∉ X
theorem Mr{base i:Nat}{X:Ap}(g:Sep base w L)(f:Ey L i=some (A5 w0 X)):(∀ b,L1 X w0 b→w.heap[b]? = w0.heap[b]?)∧∀ b,L1 X w0 b→b<w.heap.size :=
 ⟨fun b e=>(g.ok f:∀ b,b<w0.heap.size→b ∉ X→w.heap[b]? = w0.heap[b]?) b e.1 e.2,fun b e=>((g.get f).2.1 b (Ij.2 e)).2⟩
theorem rdS.rst{e:Ty P α}{base i:Nat}{X:Ap}{v:Ac}{l:List α}(h:rdS e (L1 X w0) w0 v l)(g:Sep base w L)(f:Ey L i=some (A5 w0 X)):rdS e (·<w.heap.size) w v l :=
 (h.keep (Mr g f).1).mono (Mr g f).2
theorem EAt.keepS{S S':Nat→Prop}{p:Addr}{cs:List Ac}{w w':Af}(h:EAt S w p cs)(f:∀ b,S b→w'.heap[b]? = w.heap[b]?)(g:∀ b,S b→S' b):EAt S' w' p cs :=
 ⟨g _ h.1,fun j c e=>by
  rw [OC (w:=w) (w':=w') (a:=p.add j) (by rw [Jx]; exact f _ h.1)]
  exact h.2 j c e⟩
theorem EAt.rst{base i:Nat}{X:Ap}{p:Addr}{cs:List Ac}(h:EAt (L1 X w0) w0 p cs)(f:Sep base w L)(e:Ey L i=some (A5 w0 X)):EAt (·<w.heap.size) w p cs :=
 h.keepS (Mr f e).1 (Mr f e).2
theorem YB{base:Nat}{X:Ap}(e:Sep base w (A5 w0 X::M)):∀ b,L1 X w0 b→L1 (AP M) w b:=fun b f =>
 ⟨(Mr (i:=0) e rfl).2 b f,fun g=>by
  obtain ⟨s,h,l⟩:=J1.1 g
  have m:=e.2
  cases m with
  | cons h1 _=>exact h1 s h b (Ij.2 f) l⟩
theorem rdS.rsto{e:Ty P α}{base:Nat}{X:Ap}{v:Ac}{l:List α}(h:rdS e (L1 X w0) w0 v l)(f:Sep base w (A5 w0 X::M)):rdS e (L1 (AP M) w) w v l :=
 (h.keep (Mr (i:=0) f rfl).1).mono (YB f)
theorem EAt.rsto{base:Nat}{X:Ap}{p:Addr}{cs:List Ac}(h:EAt (L1 X w0) w0 p cs)(e:Sep base w (A5 w0 X::M)):EAt (L1 (AP M) w) w p cs :=
 h.keepS (Mr (i:=0) e rfl).1 (YB e)
theorem Aae(f:Sep w0.heap.size w M)(l:Below w0.heap.size w0 w):∀ b,b<w0.heap.size→L1 (AP M) w b:=fun b m =>
 ⟨Nat.lt_of_lt_of_le m l.size,fun e=>by
  obtain ⟨s,g,h⟩:=J1.1 e
  have:=((f.1 s g).2.1 b h).1
  omega⟩
theorem rdS.oldo{e:Ty P α}{v:Ac}{l:List α}(h:rdS e (·<w0.heap.size) w0 v l)(f:Below w0.heap.size w0 w)(g:Sep w0.heap.size w M):rdS e (L1 (AP M) w) w v l :=
 (h.keep fun b m=>f.block b m).mono (Aae g f)
theorem EAt.oldo{p:Addr}{cs:List Ac}(h:EAt (·<w0.heap.size) w0 p cs)(e:Below w0.heap.size w0 w)(f:Sep w0.heap.size w M):EAt (L1 (AP M) w) w p cs :=
 h.keepS (fun b g=>e.block b g) (Aae f e)
theorem Aij{base:Nat}{r:Res}(e:Sep base w (r::M)):∀ b ∈ r.fp,L1 (AP M) w b:=fun b f =>
 ⟨((e.get (i:=0) rfl).2.1 b f).2,fun g=>by
  obtain ⟨s,h,l⟩:=J1.1 g
  have m:=e.2
  cases m with
  | cons h1 _=>exact h1 s h b f l⟩
theorem IK{e:Ty P α}{base:Nat}{F:Ap}{v:Ac}{l:List α}(f:Sep base w (Ab e F v l::M)):rdS e (L1 (AP M) w) w v l :=
 (f.ok (i:=0) rfl:ownS e F w v l).rd.mono (Aij f)
theorem Sep.split2{base:Nat}{r r1 r2:Res}(h:Sep base w (r::M))(l:r.fp=r1.fp++r2.fp)(g1:∀ w',(∀ b ∈ r1.fp,w'.heap[b]? = w.heap[b]?)→r1.ok w')(g2:∀ w',(∀ b ∈ r2.fp,w'.heap[b]? = w.heap[b]?)→r2.ok w'):Sep base w (r1::r2::M):=by
 obtain ⟨h1,h2⟩:=h
 have g:=h1 r (by simp)
 have m:=g.1
 rw [l,List.nodup_append] at m
 cases h2 with
 | cons v ht =>
  refine ⟨fun s e=>?_,.cons (fun s e b f u=>?_) (.cons (fun s e b f=>v s e b (by rw [l]; exact Bm _ f)) ht)⟩
  cases e with
  | head=>exact ⟨m.1,fun b f=>g.2.1 b (by rw [l]; exact Ax _ f),g1⟩
  | tail _ e =>
   cases e with
   | head=>exact ⟨m.2.1,fun b f=>g.2.1 b (by rw [l]; exact Bm _ f),g2⟩
   | tail _ e=>exact h1 s (.tail _ e)
  cases e with
  | head=>exact m.2.2 b f b u rfl
  | tail _ e=>exact v s e b (by rw [l]; exact Ax _ f) u
end Go.Proofs.YtellehgihceicaaGreatDoor
namespace Go.Proofs.YtellehgihceicaaGreatDoor
open Go Go.RowKit
variable {P:Program} {α:Type} {n:Nat} {w w0:Af} {L M:List Res}
end Go.Proofs.YtellehgihceicaaGreatDoor
namespace Go.Proofs.YtellehgihceicaaGreatDoor
open Go Go.RowKit
variable {P:Program} {α:Type} {n:Nat} {ds:List (Ae Tmp)} {d:Nat} {T U:TypeId} {pos:String} {af:Array Edge} {rest:List Oper} {x y z:Operand} {σ:EY} {w w0:Af} {Q:Exit→Act→Af→Prop}
theorem Yb{f:FuncId}{g:Func}{e:Array Ac→Sem Ac}{l:List Operand}{s:Array TypeId}{vs:List Ac}{v:Ac}(hn:Nat.blt d n=true)
  (hf:P.funcs[f]? = some g) (ag:(g.name == "runtime.NumGoroutine") = false) (hb:g.body.isNone = true) (ad:Extern.findNext g = none) (he:Extern.find g = some e)
  (hx:l.map (B5 σ)=vs.map some) (hr:(e vs.toArray).run P w=.ok v w) (h:WL P n ds rest ((d,v)::σ) w Q) :
  WL P n ds (⟨some d,.call ⟨.value (.func f),l.toArray,s⟩,T,pos,af,none⟩::rest) σ w Q :=
 C6 hn (fun ρ m=>by
  have u:=SW hx ρ m
  have hc:(callFunc f vs.toArray).run P w=.ok (.value v) w:=by rw [run_callFunc_extern hf ag hb ad he,hr]; rfl
  have ab:=m (.func f) _ rfl
  simp [execOp,resolve,Deferred.ofValue,invoke,u,hc,ab]) h
theorem Adu{p q:Nat→Bool}:∀{l:Ap},(∀ x ∈ l,p x=q x)→l.find? p=l.find? q:=by
 intro l
 induction l with
 | nil=>intro _; rfl
 | cons a l e=>intro h; rw [List.find?_cons,List.find?_cons,h a (by simp),e fun x f=>h x (by simp [f])]
theorem Ads(l:List Ag)(c:Int):firstIdx (AL l) c.toNat.toUInt8=MY l c:=by
 unfold firstIdx MY
 have e:(AL l).size=l.length:=by simp [AL,ByteArray.size]
 have g:∀ i ∈ List.range l.length,((AL l)[i]! == c.toNat.toUInt8)=(l[i]? == some c.toNat.toUInt8):=by
  intro i h
  have f:i<l.length:=List.mem_range.1 h
  have:(AL l)[i]! = l[i]:=by
   rw [getElem!_pos (AL l) i (by rw [e]; exact f)]
   rfl
  rw [this,BP f]
  simp
 rw [e,Adu g]
 rfl
theorem Aem(l:List Ag)(c:Int):(Extern.BytealgIndexByte.indexByte #[.string (AL l),.int .u8 c]).run P w=.ok (.int .i64 (MY l c)) w:=by
 rw [run_indexByte_string,Ads]
theorem Aen(l:List Ag)(c:Int):(Extern.BytealgCount.count #[.string (AL l),.int .u8 c]).run P w=.ok (.int .i64 (Abr l c)) w:=by
 rw [Lib.run_countString]
 rfl
theorem B4{p:Addr}(f:Nat.blt d n=true)(g:B5 σ x=some (.pointer (some p)))(h:WL P n ds rest ((d,.pointer (some p))::σ) w Q) :
  WL P n ds (⟨some d,.nilCheck x,T,pos,af,none⟩::rest) σ w Q :=
 C6 f (fun ρ e=>by simp [execOp,e _ _ g]) h
theorem B0{S:Af→Prop}{G:Ac→Prop}{p:Addr}(f:Nat.blt d n=true)(g:B5 σ x=some (.pointer (some p)))(h:G (.pointer (some p))):∃ v,PR P n σ S d (.nilCheck x) T v∧G v :=
 ⟨_,⟨f,fun ρ e w s m pos af l=>by simp [execOp,e _ _ g]⟩,h⟩
theorem EAt.kxr{base i:Nat}{X0 X:Ap}{p:Addr}{cs:List Ac}{L:List Res}{wS:Af}(h:EAt (L1 X0 w0) w0 p cs)(f:Sep base wS L)(l:Ey L i=some (A5 w0 X0))(u:∀ b ∈ (A5 w0 X0).fp,b ∉ X) :
  ∀ w,KeepX wS X w→EAt (·<wS.heap.size) w p cs:=fun w s=>by
 have e:L1 X0 w0 p.block:=h.1
 have g:=(Mr f l).2 _ e
 exact ⟨g,fun j c m=>by
  rw [OC (w:=w0) (w':=w) (a:=p.add j) (by rw [Jx,s.blk _ g (u _ (Ij.2 e)),(Mr f l).1 _ e])]
  exact h.2 j c m⟩
theorem I3{e:Ty P α}{F:Ap}{v:Ac}{l:List α}{k:IntKind}{f:Int}{u:α}{i:Nat}{L:List Res}(hu:P.underlying U=some (.slice e.tid))(hn:Nat.blt d n=true)
  (hx:B5 σ x=some v) (hy:B5 σ y=some (.int k f)) (hS:Sep w0.heap.size w L) (hg:Ey L i=some (Ab e F v l)) (hi:AG l f=some u)
  (h:∀ p cs,e.rd (· ∈ F) w cs u→EAt (· ∈ F) w p cs→OPtr e.sz v p f.toNat 0→WL P n ds rest ((d,.pointer (some p))::σ) w Q):WL P n ds (⟨some d,.indexAddr U x y,T,pos,af,none⟩::rest) σ w Q:=by
 have ho:ownS e F w v l:=hS.ok hg
 have hr:=ho.rd
 obtain ⟨h0,hl,aa⟩:=Of hi
 rcases ho with ⟨_,rfl,_⟩|⟨g,cap,a6,css,Fs,hv,ba,a1,hm,hc,ht,hz,hF⟩
 simp at aa
 subst hv
 obtain ⟨a,a7,he,az,s⟩:=hr
 injection he with m a0 a8
 rcases s with rfl|⟨ad,rfl,s⟩
 simp at aa
 injection m with m
 subst m
 obtain ⟨ii,zz,aj,ay,_⟩:=e.info
 obtain ⟨hb,cs,aq,av⟩:=s _ _ hl
 have ah:0≤f∧f<(l.length:Int):=⟨h0,by omega⟩
 refine C6 hn (fun ρ hρ=>?_) (h _ cs aq ⟨hb,av⟩ ⟨g,_,_,rfl,by rw [Addr.add_lit,Nat.zero_add,Nat.add_zero]⟩)
 simp [execOp,hρ _ _ hx,hρ _ _ hy,Instr.indexAt,asIntOf,run_underlying hu,sizeOf,typeInfo,aj,ay,ah]
theorem CK{S:Af→Prop}{G:Ac→Prop}{e:Ty P α}{F:Ap}{v:Ac}{l:List α}{k:IntKind}{f:Int}{u:α}{i:Nat}{L:List Res}{w:Af}(hu:P.underlying U=some (.slice e.tid))(hn:Nat.blt d n=true)
  (hx:B5 σ x=some v) (hy:B5 σ y=some (.int k f)) (hS:Sep w0.heap.size w L) (hg:Ey L i=some (Ab e F v l)) (hi:AG l f=some u)
  (h:∀ p cs,e.rd (· ∈ F) w cs u→EAt (· ∈ F) w p cs→OPtr e.sz v p f.toNat 0→G (.pointer (some p))):∃ v,PR P n σ S d (.indexAddr U x y) T v∧G v:=by
 have ho:ownS e F w v l:=hS.ok hg
 have hr:=ho.rd
 obtain ⟨h0,hl,aa⟩:=Of hi
 rcases ho with ⟨_,rfl,_⟩|⟨g,cap,a8,css,Fs,hv,bc,a3,hm,hc,ht,hz,hF⟩
 simp at aa
 subst hv
 obtain ⟨a,a9,he,az,s⟩:=hr
 injection he with m a2 ba
 rcases s with rfl|⟨ad,rfl,s⟩
 simp at aa
 injection m with m
 subst m
 obtain ⟨ii,zz,aj,ay,_⟩:=e.info
 obtain ⟨hb,cs,aq,av⟩:=s _ _ hl
 have ah:0≤f∧f<(l.length:Int):=⟨h0,by omega⟩
 refine ⟨_,⟨hn,fun ρ hρ w _ a1 pos af gd=>?_⟩,h _ cs aq ⟨hb,av⟩ ⟨g,_,_,rfl,by rw [Addr.add_lit,Nat.zero_add,Nat.add_zero]⟩⟩
 simp [execOp,hρ _ _ hx,hρ _ _ hy,Instr.indexAt,asIntOf,run_underlying hu,sizeOf,typeInfo,aj,ay,ah]
theorem Afq{b:Nat}{V V':TypeId}{cs cs':List Ac}{N:List Res}{w w':Af}(e:Sep 0 w' (A5 w (AP [Av b V cs])::Av b V' cs'::N)) :
  w.heap.size≤w'.heap.size∧(∀ c,c<w.heap.size→c ∉ [b]→w'.heap[c]? = w.heap[c]?)∧∀ c ∈ [b],c ∈ [b]∨w.heap.size≤c:=by
 have l:∀ c,c ∈ AP [Av b V cs]↔c=b:=fun c=>by simp [AP,Av]
 refine ⟨?_,fun c h g=>Od e c h (fun f=>g (by rw [(l c).1 f]; simp)),fun c h=>.inl h⟩
 by_cases m:w.heap.size=0
 omega
 by_cases g:w.heap.size-1=b
 have:=((e.1 (Av b V' cs') (by simp)).2.1 b (by simp [Av])).2
 omega
 have:=((e.1 _ (List.mem_cons_self ..)).2.1 (w.heap.size-1) (Ij.2 ⟨by omega,fun f=>g ((l _).1 f)⟩)).2
 omega
theorem YP:∀{L:List Res}{i:Nat}{r:Res},Ey L i=some r→r ∈ L
 | [],_,_,h=>by cases h
 | a::L,0,r,h=>by cases h; simp
 | a::L,i+1,r,h=>List.mem_cons_of_mem _ (YP (L:=L) h)
section
variable {L M:List Res} {sz:Nat} {agg:Bool} {zv:Ac}
end
section
variable {S:Af→Prop} {op:Op} {ops:List Oper} {fuel:Nat} {li:List Bool} {o:Oper}
theorem Ad(i:Nat)(s:ops[i]? = some ⟨some d,op,T,pos,af,none⟩)(m:Kb Q)(l:S w)(h:∃ v,PR P n σ S d op T v∧WH P n ops S fuel (li.set i true) ((d,v)::σ) w Q)
  (e:Region.noSelect ops.toArray=true:=by kernel_rfl) (g:Region.free .any ops.toArray li.toArray i=true:=by kernel_rfl) (f:(Region.ready .any ops.toArray li.toArray).contains i=true:=by kernel_rfl):WH P n ops S (fuel+1) li σ w Q :=
 Afz s e g f m l h
theorem A1(i:Nat)(f:ops[i]? = some o)(h:WL P n (ops.map (·.dst)) [o] σ w (Exit.then (fun a w=>S w∧wpAnyH P .any ops.toArray Q S fuel (li.set i true).toArray a w) Q))
  (e:Region.ready .any ops.toArray li.toArray=[i]:=by kernel_rfl):WH P n ops S (fuel+1) li σ w Q:=Aiu e f h
end
section
variable {L M:List Res} {sz:Nat} {agg:Bool} {zv:Ac} {base:Nat}
end
section
variable {L M:List Res} {base:Nat}
def semiS(e:Ty P α)(F:Ap)(w:Af)(v:Ac)(l:List α):Prop :=
 ∃(css:List (List Ac))(G:Ap),w.ownsRow 0 e.tid e.sz v l.length css.flatten∧css.length=l.length∧(∀(j:Nat) c x,css[j]? = some c→l[j]? = some x→e.rd (· ∈ G) w c x) ∧
  (∀ k,v.ownBlock=some k→k ∈ F∧k ∉ G)∧∀ b ∈ G,b ∈ F
theorem Agq{e:Ty P α}{G:Ap}{w:Af}{css:List (List Ac)}{l:List α}(m:css.length=l.length)(h:∀(j:Nat) c x,css[j]? = some c→l[j]? = some x→e.rd (· ∈ G) w c x):∀ c ∈ css,c.length=e.sz:=by
 intro c g
 obtain ⟨j,f⟩:=List.getElem?_of_mem g
 have s:j<l.length:=by rw [← m]; exact (List.getElem?_eq_some_iff.1 f).1
 exact e.rd_len (h j c l[j] f (by simp [s]))
theorem semiS.keep{e:Ty P α}{F:Ap}{w w':Af}{v:Ac}{l:List α}(h:semiS e F w v l)(m:∀ b ∈ F,w'.heap[b]? = w.heap[b]?):semiS e F w' v l:=by
 obtain ⟨css,G,h1,h2,h3,u,s⟩:=h
 refine ⟨css,G,⟨h1.1,?_⟩,h2,fun j c x hc hx=>e.rd_keep (h3 j c x hc hx) fun b f=>m b (s b f),u,s⟩
 rcases h1.2 with h|⟨g,cap,ak,hv,f,hg,hn,hm,hs,ht⟩
 exact .inl h
 exact .inr ⟨g,cap,ak,hv,f,by rw [m g (u g (by rw [hv]; rfl)).1]; exact hg,hn,hm,hs,ht⟩
theorem semiS.rd{e:Ty P α}{F:Ap}{w:Af}{v:Ac}{l:List α}(h:semiS e F w v l):rdS e (· ∈ F) w v l:=by
 obtain ⟨css,G,h1,h2,h3,h5,h6⟩:=h
 rcases h1.2 with ⟨f,s⟩|⟨g,cap,al,f,hb,hg,s,hm,hs,ht⟩
 have:l=[]:=List.eq_nil_of_length_eq_zero s
 subst this
 exact ⟨none,0,f,Nat.le_refl _,.inl rfl⟩
 refine ⟨_,cap,f,s,.inr ⟨⟨g,0,none⟩,rfl,fun i x hx=>?_⟩⟩
 have ah:i<css.length:=by rw [h2]; exact (List.getElem?_eq_some_iff.1 hx).1
 obtain ⟨c,hc⟩:∃ c,css[i]? = some c:=⟨_,BP ah⟩
 refine ⟨by rw [Jx]; exact (h5 g (by rw [f]; rfl)).1,c,e.rd_mono (h3 i c x hc hx) fun y hy=>h6 y hy,fun j u hj=>?_⟩
 rw [Ro,Addr.add_lit,cell_of_row w g _ al e.tid (0,0) hg]
 have m:=QI (Agq h2 h3) i j c hc u hj
 rw [← ht,List.getElem?_take] at m
 split at m
 simpa using m
 cases m
end
end Go.Proofs.YtellehgihceicaaGreatDoor
namespace Go.Proofs.YtellehgihceicaaGreatDoor
open Go Go.RowKit
structure Opn {α:Type} (P:Program) (t:TypeId) (R:(Nat→Prop)→Af→List Ac→α→Prop) (G:α→Prop):Prop where
 op:∀{H:Type}{enc:TypeId×Ac→H}{w:Af}{spare:Nat→Bool}{held:Bool}{fuel:Nat}{cs:List Ac}{x:DataW H×List MemPlace},DataW.trod enc P w 0 spare held fuel t cs=some x→∃ d,R (·<w.heap.size) w cs d∧G d
variable {P:Program} {t:TypeId}
theorem Ah2(e:P.underlying t=some (.int .u8)):Opn P t (fun _ _ cs d=>cs=[.int .u8 d]) Wl:=⟨fun h=>by
 obtain ⟨n,h1,_,f⟩:=DataW.trod_int e h
 exact ⟨n,h1,by simpa [Lit.wf,IntKind.min,IntKind.max,IntKind.signed,IntKind.bits,Wl] using f⟩⟩
theorem Ag4{w:Af}{a:Addr}{v:Ac}(h:w.cell? a=some v):a.block<w.heap.size:=by
 unfold World.cell? at h
 by_cases e:a.block<w.heap.size
 exact e
 rw [Array.getElem?_eq_none (by omega)] at h
 cases h
theorem Aal{α:Type}{Q:Nat→α→Prop}:∀ n,(∀ i,i<n→∃ x,Q i x)→∃ l:List α,l.length=n∧∀ i x,l[i]? = some x→Q i x
 | 0,_=>⟨[],rfl,fun i x h=>by simp at h⟩
 | n+1,h=>by
  obtain ⟨l,f,u⟩:=Aal n fun i s=>h i (by omega)
  obtain ⟨y,m⟩:=h n (by omega)
  refine ⟨l++[y],by simp [f],fun i x e=>?_⟩
  by_cases s:i<n
  exact u i x (by rwa [List.getElem?_append_left (by omega)] at e)
  rw [List.getElem?_append_right (by omega),f] at e
  by_cases g:i-n=0
  rw [g] at e
  simp at e
  rw [← e,show i=n by omega]
  exact m
  rw [List.getElem?_eq_none (by simp; omega)] at e
  cases e
theorem Ac9{α:Type}{e:Ty P α}{G:α→Prop}(hu:P.underlying t=some (.slice e.tid))(hc:P.cellsOf e.tid=e.sz)(he:Opn P e.tid e.rd G) :
  Opn P t (fun S w cs l=>∃ v,cs=[v]∧rdS e S w v l) (Ab4 G):=⟨fun {H enc w spare held fuel cs x} h=>by
 rcases Go.Deep.open_slice hu h with ⟨rfl,_⟩|⟨a,len,cap,m,n,D,Pl,rfl,hb,hl,hm,am,_,f⟩
 exact ⟨[],⟨_,rfl,Agt⟩,by simp,fun x f=>by simp at f⟩
 obtain ⟨l,h1,u⟩:=Aal (Q:=fun i d=>ElemAt e (·<w.heap.size) w (a.add (i*e.sz)) d∧G d) len fun i hi=>by
  have aq:len≤m:=by rw [am]; split <;> omega
  obtain ⟨cs',ac,ht⟩:=f i (by omega)
  obtain ⟨d,hd,hg⟩:=he.op ht
  rw [hc] at ac
  obtain ⟨_,aj,s⟩:=World.cells?_some ac
  refine ⟨d,⟨?_,cs',hd,fun j c hj=>?_⟩,hg⟩
  have g:=s 0 e.sz_pos
  have hp:=e.sz_pos
  rw [BP (show 0<cs'.length by omega)] at g
  have ad:=Ag4 g
  rwa [Jx] at ad
  have al:j<e.sz:=by rw [← aj]; exact (List.getElem?_eq_some_iff.1 hj).1
  rw [s j al,hj]
 subst h1
 exact ⟨l,⟨_,rfl,some a,cap,rfl,hl,.inr ⟨a,rfl,fun i x f=>(u i x f).1⟩⟩,by have hM:maxLen=9223372036854775807:=rfl; omega,fun x f=>by
  obtain ⟨i,hi⟩:=List.getElem?_of_mem f
  exact (u i x hi).2⟩⟩
end Go.Proofs.YtellehgihceicaaGreatDoor
namespace Go.Proofs.YtellehgihceicaaGreatDoor
open Go Go.RowKit
section
variable {P:Program} {α:Type} {n:Nat} {σ:EY} {w w0:Af} {Q:Exit→Act→Af→Prop} {ds:List (Ae Tmp)} {d:Nat} {T U TB:TypeId} {pos:String} {af:Array Edge} {rest:List Oper} {x y z:Operand} {L M:List Res} {sz:Nat} {agg:Bool} {zv:Ac}
abbrev iv(x:Int):Ac:=.int .i64 x
abbrev Bl(w0 w:Af):Prop:=Below w0.heap.size w0 w
abbrev Sp(w0 w:Af)(L:List Res):Prop:=Sep w0.heap.size w L
abbrev RO(e:Ty P α)(w:Af)(v:Ac)(l:List α):Prop:=rdS e (·<w.heap.size) w v l
theorem Ts{k:IntKind}{i j:Int}(g:Nat.blt d n=true)(l:B5 σ x=some (.int k i))(f:B5 σ y=some (.int k j))(h:WL P n ds rest ((d,.int k (Vt k i j))::σ) w Q):WL P n ds (⟨some d,.binOp .or T x y U,TB,pos,af,none⟩::rest) σ w Q :=
 C6 g (fun ρ e=>by simp [execOp,e _ _ l,e _ _ f,eqGuard,binOp,Op.intBits,Vt]) h
theorem Sz{k:IntKind}{i j:Int}(g:Nat.blt d n=true)(l:B5 σ x=some (.int k i))(f:B5 σ y=some (.int k j))(h:WL P n ds rest ((d,.int k (Up k i j))::σ) w Q):WL P n ds (⟨some d,.binOp .xor T x y U,TB,pos,af,none⟩::rest) σ w Q :=
 C6 g (fun ρ e=>by simp [execOp,e _ _ l,e _ _ f,eqGuard,binOp,Op.intBits,Up]) h
theorem HZ{R:Type}{c:Bool}{A:Ae R}{r:R}(e:(if c=true then A else none)=some r):c=true:=by
 cases c with
 | true=>rfl
 | false=>cases e
theorem Ajt{R:Type}{c:Bool}{A:Ae R}{r:R}(e:(if c=true then none else A)=some r):c=false:=by
 cases c with
 | false=>rfl
 | true=>cases e
theorem nnE{γ:Type}{l:List γ}{v:Ac}(h:l.isEmpty=false):l=[]→v=.slice none 0 0:=fun e=>by rw [e] at h; cases h
def Tv:List Ac→Nat→Ae Ac
 | [],_=>none
 | v::_,0=>some v
 | _::l,i+1=>Tv l i
theorem Yl:∀(l:List Ac)(i:Nat),Tv l i=l[i]?
 | [],i=>by simp [Tv]
 | v::l,0=>by simp [Tv]
 | v::l,i+1=>by rw [Tv,Yl l i,List.getElem?_cons_succ]
def kEq:IntKind→IntKind→Bool
 | .i8,.i8=>true|.i16,.i16=>true|.i32,.i32=>true|.i64,.i64=>true|.u8,.u8=>true|.u16,.u16=>true|.u32,.u32=>true|.u64,.u64=>true|_,_=>false
theorem Aib{a b:IntKind}(h:kEq a b=true):a=b:=by cases a <;> cases b <;> first|rfl|cases h
def Ajx{R:Type}(k:IntKind)(a b:Int)(f:Ac→Ae R):BinOp→Ae R
 | .add=>f (.int k (k.wrap (a+b)))
 | .sub=>f (.int k (k.wrap (a-b)))
 | .mul=>f (.int k (k.wrap (a*b)))
 | .lss=>f (.bool (decide (a<b)))
 | .leq=>f (.bool (decide (a≤b)))
 | .gtr=>f (.bool (decide (b<a)))
 | .geq=>f (.bool (decide (b≤a)))
 | .eql=>f (.bool (a==b))
 | .neq=>f (.bool (a != b))
 | _=>none
def R9{R:Type}(σ:EY)(f:Ac→Ae R):Op→Ae R
 | .move x=>match B5 σ x with|some v=>f v|none=>none
 | .assign x=>match B5 σ x with|some v=>f v|none=>none
 | .unOp .not _ x=>match B5 σ x with|some (.bool p)=>f (.bool (!p))|_=>none
 | .unOp .neg _ x=>match B5 σ x with|some (.int k a)=>f (.int k (k.wrap (0-a)))|_=>none
 | .binOp o _ x y _=>match B5 σ x with
  | some (.int k a)=>match B5 σ y with
   | some (.int k' b)=>bif kEq k k' then Ajx k a b f o else none
   | _=>none
  | _=>none
 | .extract x i=>match B5 σ x with|some (.tuple ⟨vs⟩)=>(match Tv vs i with|some v=>f v|none=>none)|_=>none
 | _=>none
theorem Ac0{R:Type}{f:Ac→Ae R}{op:Op}{r:R}(h:R9 σ f op=some r) :
  ∃ v,f v=some r∧∀ ρ:Operand→Ac,(∀ x v,B5 σ x=some v→ρ x=v)→∀ d T pos af w,(execOp ρ ⟨some d,op,T,pos,af,none⟩).run P w=.ok (.value v) w:=by
 cases op with
 | move x =>
  unfold R9 at h
  dsimp only at h
  cases g:B5 σ x with
  | none=>rw [g] at h; cases h
  | some v=>rw [g] at h; exact ⟨v,h,fun ρ l d T pos af w=>by simp [execOp,l _ _ g]⟩
 | assign x =>
  unfold R9 at h
  dsimp only at h
  cases g:B5 σ x with
  | none=>rw [g] at h; cases h
  | some v=>rw [g] at h; exact ⟨v,h,fun ρ l d T pos af w=>by simp [execOp,l _ _ g]⟩
 | unOp o t x =>
  cases o with
  | not =>
   unfold R9 at h
   dsimp only at h
   split at h
   ·rename_i p g
    exact ⟨_,h,fun ρ l d T pos af w=>by simp [execOp,l _ _ g,Op.unary]⟩
   ·cases h
  | neg =>
   unfold R9 at h
   dsimp only at h
   split at h
   ·rename_i k a g
    exact ⟨_,h,fun ρ l d T pos af w=>by simp [execOp,l _ _ g,Op.unary,Op.intArith]⟩
   ·cases h
  | _=>cases h
 | binOp o t x y u =>
  unfold R9 at h
  dsimp only at h
  split at h
  ·rename_i k a g
   split at h
   ·rename_i k' b hy
    cases m:kEq k k' with
    | false=>rw [m] at h; cases h
    | true =>
     rw [m] at h
     have e:=Aib m
     subst e
     cases o <;> first
      | (refine ⟨_,h,fun ρ l d T pos af w=>?_⟩; simp [execOp,l _ _ g,l _ _ hy,eqGuard,binOp,Op.intArith,Op.intCmp]; done)
      | cases h
   ·cases h
  ·cases h
 | extract x i =>
  unfold R9 at h
  dsimp only at h
  split at h
  ·rename_i vs g
   split at h
   ·rename_i v s
    rw [Yl] at s
    exact ⟨_,h,fun ρ l d T pos af w=>by simp [execOp,l _ _ g,Instr.extract,s]⟩
   ·cases h
  ·cases h
 | _=>cases h
def pgo(n:Nat):Nat→List Oper→EY→Ae (List Oper×EY)
 | 0,ops,σ=>some (ops,σ)
 | k+1,⟨some d,op,_,_,_,none⟩::ops,σ=>bif Nat.blt d n then R9 σ (fun v=>pgo n k ops ((d,v)::σ)) op else none
 | _,_,_=>none
theorem wp:∀(k:Nat){ops:List Oper}{σ σ':EY},pgo n k ops σ=some (rest,σ')→WL P n ds rest σ' w Q→WL P n ds ops σ w Q
 | 0,ops,σ,σ',h,hw=>by
  cases h
  exact hw
 | k+1,[],σ,σ',h,hw=>by cases h
 | k+1,⟨none,op,T,pos,af,gd⟩::ops,σ,σ',h,hw=>by cases h
 | k+1,⟨some d,op,T,pos,af,some g⟩::ops,σ,σ',h,hw=>by cases h
 | k+1,⟨some d,op,T,pos,af,none⟩::ops,σ,σ',h,hw=>by
  change (bif Nat.blt d n then R9 σ (fun v=>pgo n k ops ((d,v)::σ)) op else none)=_ at h
  cases e:Nat.blt d n with
  | false=>rw [e] at h; cases h
  | true =>
   rw [e] at h
   obtain ⟨v,m,l⟩:=Ac0 (P:=P) (σ:=σ) h
   exact C6 e (fun ρ f=>l ρ f d T pos af w) (wp k m hw)
def Yy{R:Type}:List Ac→Nat→Nat→(List Ac→Ae R)→Ae R
 | _,0,0,k=>k []
 | c::cs,0,sz+1,k=>Yy cs 0 sz fun l=>k (c::l)
 | _::cs,off+1,sz,k=>Yy cs off sz k
 | _,_,_,_=>none
theorem Xk{R:Type}:∀{cs:List Ac}{off sz:Nat}{k:List Ac→Ae R}{r:R},Yy cs off sz k=some r→∃ vs,LY cs off sz=some vs∧k vs=some r:=by
 intro cs
 induction cs with
 | nil =>
  intro off sz k r h
  cases off with
  | zero =>
   cases sz with
   | zero=>exact ⟨[],rfl,h⟩
   | succ sz=>cases h
  | succ off=>cases h
 | cons c cs g =>
  intro off sz k r h
  cases off with
  | zero =>
   cases sz with
   | zero=>exact ⟨[],rfl,h⟩
   | succ sz =>
    obtain ⟨vs,h1,f⟩:=g (off:=0) (sz:=sz) (k:=fun l=>k (c::l)) h
    refine ⟨c::vs,?_,f⟩
    unfold LY at h1 ⊢
    simp only [Nat.zero_add,List.drop_zero,List.length_cons] at h1 ⊢
    have e:Nat.ble (sz+1) (cs.length+1)=Nat.ble sz cs.length:=rfl
    rw [e]
    cases m:Nat.ble sz cs.length with
    | false=>rw [m] at h1; cases h1
    | true =>
     rw [m] at h1
     simp only [cond_true,Option.some.injEq] at h1 ⊢
     rw [List.take_succ_cons,h1]
  | succ off =>
   obtain ⟨vs,h1,f⟩:=g (off:=off) (sz:=sz) (k:=k) h
   refine ⟨vs,?_,f⟩
   unfold LY at h1 ⊢
   rw [← h1,List.drop_succ_cons,List.length_cons]
   have e:Nat.ble (off+1+sz) (cs.length+1)=Nat.ble (off+sz) cs.length:=by
    rw [show off+1+sz=(off+sz)+1 by omega]
    rfl
   rw [e]
def V0(agg:Bool)(cs:List Ac)(off sz:Nat):Ae Ac:=match agg with
 | true=>Yy cs off sz fun l=>some (.agg l.toArray)
 | false=>Yy cs off sz fun l=>match l with|[v]=>some v|_=>none
theorem Mb{cs:List Ac}{off:Nat}{v:Ac}(h:V0 agg cs off sz=some v):∃ vs,LY cs off sz=some vs∧pk agg vs=v:=by
 cases agg with
 | true =>
  obtain ⟨vs,h1,e⟩:=Xk h
  exact ⟨vs,h1,Option.some.inj e⟩
 | false =>
  obtain ⟨vs,h1,e⟩:=Xk h
  refine ⟨vs,h1,?_⟩
  split at e
  exact Option.some.inj e
  cases e
def N8(σ:EY)(n d:Nat)(x:Operand):Ae Ac:=bif Nat.blt d n then B5 σ x else none
theorem Dt{v:Ac}(h:N8 σ n d x=some v):Nat.blt d n=true∧B5 σ x=some v:=by
 unfold N8 at h
 cases e:Nat.blt d n with
 | false=>rw [e] at h; cases h
 | true=>rw [e] at h; exact ⟨rfl,h⟩
theorem AU(i:Nat){b off:Nat}{V:TypeId}{cs:List Ac}{v:Ac}(f:TF P U sz agg zv)(e:N8 σ n d x=some (.pointer (some ⟨b,off,none⟩)))(g:Sep w0.heap.size w L)(l:Ey L i=some (Av b V cs))(s:V0 agg cs off sz=some v)
  (h:WL P n ds rest ((d,v)::σ) w Q):WL P n ds (⟨some d,.load U x,T,pos,af,none⟩::rest) σ w Q:=by
 obtain ⟨vs,h1,m⟩:=Mb s
 exact KI f (Dt e).1 (Dt e).2 g l h1 m h
theorem BZ{S:Nat→Prop}{p:Addr}{cs:List Ac}{v:Ac}(f:TF P U sz agg zv)(e:N8 σ n d x=some (.pointer (some p)))(g:EAt S w p cs)(m:V0 agg cs 0 sz=some v)
  (h:WL P n ds rest ((d,v)::σ) w Q):WL P n ds (⟨some d,.load U x,T,pos,af,none⟩::rest) σ w Q:=by
 obtain ⟨vs,h1,l⟩:=Mb m
 exact Ab6 f (Dt e).1 (Dt e).2 g h1 l h
theorem Bp{f o b off:Nat}(g:Fo P U f o=true)(e:N8 σ n d x=some (.pointer (some ⟨b,off,none⟩)))
  (h:WL P n ds rest ((d,.pointer (some ⟨b,off+o,none⟩))::σ) w Q):WL P n ds (⟨some d,.fieldAddr U x f,T,pos,af,none⟩::rest) σ w Q :=
 NW g (Dt e).1 (Dt e).2 rfl h
def Vv:List Ac→Bool
 | []=>true
 | v::r=>v.oneCell'&&Vv r
theorem Vu:∀{vs:List Ac},Vv vs=true→Ones vs
 | [],_=>trivial
 | v::r,h=>by
  unfold Vv at h
  rw [Cq] at h
  exact ⟨h.1,Vu h.2⟩
def SG{R:Type}:List Ac→Nat→List Ac→(List Ac→Ae R)→Ae R
 | cs,0,[],k=>k cs
 | _::cs,0,v::vs,k=>SG cs 0 vs fun l=>k (v::l)
 | c::cs,off+1,vs,k=>SG cs off vs fun l=>k (c::l)
 | _,_,_,_=>none
theorem SF{R:Type}:∀{cs:List Ac}{off:Nat}{vs:List Ac}{k:List Ac→Ae R}{r:R},SG cs off vs k=some r→off+vs.length≤cs.length∧k (D8 cs off vs)=some r:=by
 intro cs
 induction cs with
 | nil =>
  intro off vs k r h
  cases off with
  | zero =>
   cases vs with
   | nil=>exact ⟨by simp,by simpa [D8,SG] using h⟩
   | cons v vs=>cases h
  | succ off=>cases h
 | cons c cs f =>
  intro off vs k r h
  cases off with
  | zero =>
   cases vs with
   | nil=>exact ⟨by simp,by simpa [D8,SG] using h⟩
   | cons v vs =>
    obtain ⟨h1,e⟩:=f (off:=0) (vs:=vs) (k:=fun l=>k (v::l)) h
    refine ⟨by simp at h1 ⊢; omega,?_⟩
    simpa [D8] using e
  | succ off =>
   obtain ⟨h1,e⟩:=f (off:=off) (vs:=vs) (k:=fun l=>k (c::l)) h
   refine ⟨by simp at h1 ⊢; omega,?_⟩
   simp only [D8,List.take_succ_cons,List.cons_append] at e ⊢
   rw [show off+1+vs.length=(off+vs.length)+1 by omega,List.drop_succ_cons]
   exact e
def stK(agg:Bool)(v:Ac)(cs:List Ac)(off:Nat):Ae (List Ac):=match agg with
 | true=>match v with
  | .agg ⟨vs⟩=>bif Vv vs then SG cs off vs some else none
  | _=>none
 | false=>bif v.oneCell' then SG cs off [v] some else none
theorem GC(i:Nat){b off:Nat}{V:TypeId}{cs cs':List Ac}{v:Ac}(s:TF P U sz agg zv)(hx:B5 σ x=some (.pointer (some ⟨b,off,none⟩)))(u:B5 σ y=some v)(hB:Below w0.heap.size w0 w)(hS:Sep w0.heap.size w L)
  (hg:Ey L i=some (Av b V cs)) (hz:Nat.beq (match agg,v with|true,.agg a=>a.size|_,_=>1) sz=true) (f:stK agg v cs off=some cs')
  (h:∀ w',(w.heap.size≤w'.heap.size∧(∀ k,k<w.heap.size→k ∉ [b]→w'.heap[k]? = w.heap[k]?)∧∀ k ∈ [b],k ∈ [b]∨w.heap.size≤k)→Below w0.heap.size w0 w'→Sep w0.heap.size w' (N2 L i (Av b V cs'))→WL P n ds rest σ w' Q) :
  WL P n ds (⟨none,.store U x y,T,pos,af,none⟩::rest) σ w Q:=by
 have l:=Nat.eq_of_beq_eq_true hz
 unfold stK at f
 cases agg with
 | true =>
  dsimp only at f l
  split at f
  rename_i vs
  cases g:Vv vs with
  | false=>rw [g] at f; cases f
  | true =>
   rw [g] at f
   obtain ⟨h1,m⟩:=SF f
   have e:D8 cs off vs=cs':=Option.some.inj m
   exact BG (vs:=vs) s hx u rfl (by simpa using l) hB hS hg (Nat.ble_eq_true_of_le h1) (Vu g) e h
  cases f
 | false =>
  dsimp only at f l
  cases g:v.oneCell' with
  | false=>rw [g] at f; cases f
  | true =>
   rw [g] at f
   obtain ⟨h1,m⟩:=SF f
   have e:D8 cs off [v]=cs':=Option.some.inj m
   have ae:1=sz:=by cases v <;> exact l
   exact BG (vs:=[v]) s hx u (Ch g) (by simpa using ae) hB hS hg (Nat.ble_eq_true_of_le h1) ⟨g,trivial⟩ e h
theorem CV{cs:List Ac}(e:N8 σ n d x=some (.agg cs.toArray))(f:Below w0.heap.size w0 w)(g:Sep w0.heap.size w L)
  (h:∀ b w',Below w.heap.size w w'→Below w0.heap.size w0 w'→Sep w0.heap.size w' (Av b U cs::L)→WL P n ds rest ((d,.pointer (some ⟨b,0,none⟩))::σ) w' Q) :
  WL P n ds (⟨some d,.box U x,T,pos,af,none⟩::rest) σ w Q:=Ahj (Dt e).1 (Dt e).2 rfl f g h
theorem EE{cs:List Ac}(e:TF P U sz true (.agg cs.toArray))(f:Nat.blt d n=true)(l:Below w0.heap.size w0 w)(g:Sep w0.heap.size w L)
  (h:∀ b w',Below w.heap.size w w'→Below w0.heap.size w0 w'→Sep w0.heap.size w' (Av b U cs::L)→WL P n ds rest ((d,.pointer (some ⟨b,0,none⟩))::σ) w' Q) :
  WL P n ds (⟨some d,.alloc U,T,pos,af,none⟩::rest) σ w Q:=Ye e f rfl l g h
theorem al1(e:TF P U sz false zv)(h1:zv.oneCell'=true)(f:Nat.blt d n=true)(l:Below w0.heap.size w0 w)(g:Sep w0.heap.size w L)
  (h:∀ b w',Below w.heap.size w w'→Below w0.heap.size w0 w'→Sep w0.heap.size w' (Av b U [zv]::L)→WL P n ds rest ((d,.pointer (some ⟨b,0,none⟩))::σ) w' Q) :
  WL P n ds (⟨some d,.alloc U,T,pos,af,none⟩::rest) σ w Q:=Ye e f (Ch h1) l g h
theorem BO{e:Ty P α}{S:Nat→Prop}{m:Af}{v:Ac}{l:List α}{f:TypeId}(s:rdS e S m v l)(u:P.underlying f=some (.slice e.tid))(g:N8 σ n d x=some v)
  (h:WL P n ds rest ((d,.int .i64 (l.length:Int))::σ) w Q):WL P n ds (⟨some d,.call ⟨.builtin .len,#[x],#[f]⟩,T,pos,af,none⟩::rest) σ w Q:=Agg u (Dt g).1 (Dt g).2 s h
theorem A3{c:Operand}{X Y:Code}{t:Bool}{R:Type}{A B:Ae R}{r:R}(g:B5 σ c=some (.bool t))(e:(if t=true then A else B)=some r)(h1:t=true→A=some r→W P n X σ w Q)(f:t=false→B=some r→W P n Y σ w Q) :
  W P n (.cond c X Y) σ w Q :=
 SZ g (fun h=>h1 h (Bw h e)) (fun h=>f h (BI h e))
def rvK{R:Type}(σ:EY):List ResultVar→(List Ac→Ae R)→Ae R
 | [],k=>k []
 | .tmp t::rs,k=>match Hg σ t with|some v=>rvK σ rs fun l=>k (v::l)|none=>none
 | _,_=>none
theorem Y0{R:Type}:∀{rs:List ResultVar}{k:List Ac→Ae R}{r:R},rvK σ rs k=some r→∃ vs,RVs P n σ w rs vs∧k vs=some r
 | [],k,r,h=>⟨[],trivial,h⟩
 | .tmp t::rs,k,r,h=>by
  unfold rvK at h
  cases e:Hg σ t with
  | none=>rw [e] at h; cases h
  | some v =>
   rw [e] at h
   obtain ⟨vs,h1,f⟩:=Y0 h
   exact ⟨v::vs,⟨Kr e,h1⟩,f⟩
 | .cell _ _::_,_,_,h=>by cases h
theorem rt{e:Func}{R:Ending→Af→Prop}{rs:List ResultVar}{v:Ac}{Q:Exit→Act→Af→Prop}(s:∀ a w,bodyPost P e R .ret a w→Q .ret a w)(g:e.results=rs.toArray)(f:rvK σ rs (fun l=>some (R4 l))=some v)(h:R (.returned v) w) :
  ∀ a,St n σ a→Q .ret a w:=by
 obtain ⟨vs,h1,m⟩:=Y0 (P:=P) (n:=n) (w:=w) f
 cases m
 exact JU s g h1 h
def subB(σ:EY):EY→Prop:=fun τ=>(τ.map fun p=>Hg σ p.1)=τ.map fun p=>some p.2
theorem subB.sub{σ:EY}:∀{τ:EY},subB σ τ→Sub σ τ
 | [],_=>trivial
 | (i,v)::r,h=>by
  unfold subB at h
  rw [List.map_cons,List.map_cons,List.cons.injEq] at h
  exact ⟨h.1,subB.sub h.2⟩
theorem St.sb{τ:EY}{a:Act}(h:St n σ a)(e:(τ.map fun p=>Hg σ p.1)=τ.map fun p=>some p.2):St n τ a:=h.sub (subB.sub e)
theorem jx{τ:EY}{K:Act→Prop}(h:∀ a,St n τ a→K a)(f:(τ.map fun p=>Hg σ p.1)=τ.map fun p=>some p.2):∀ a,St n σ a→K a:=fun a e=>h a (e.sb f)
theorem Ao{x y:Code}(h:∀ K:Act→Af→Prop,(∀{σ w},W P n y σ w Q→∀ a,St n σ a→K a w)→W P n x σ w (Exit.then K Q)):W P n (.seq x y) σ w Q :=
 RN fun K e=>h K fun {σ w}=>e σ w
theorem Al{id:Nat}{l:List Oper}{y:Code}(h:∀ K:Act→Af→Prop,(∀{σ w},W P n y σ w Q→∀ a,St n σ a→K a w)→WL P n (l.map (·.dst)) l σ w (Exit.then K Q)):W P n (.seq (.region id l.toArray false) y) σ w Q :=
 Ao fun K e=>Aq (h K e)
theorem bB{α β:Type}{o:Ae α}{f:α→Ae β}{r:β}{C:Prop}(h:Option.bind o f=some r)(k:∀ a,o=some a→f a=some r→C):C:=by
 obtain ⟨a,h1,e⟩:=VE h
 exact k a h1 e
theorem Bn{f:FuncId}{l:List Operand}{s:Array TypeId}{vs:List Ac}{v:Ac}(hn:Nat.blt d n=true)(ab:∀ args w,(callFunc f args).run P w=.ok (.enter f args) w)
  (m:Below w0.heap.size w0 w) (u:Sep w0.heap.size w L) (hc:Calls P f vs.toArray w fun e w'=>e=.returned v∧Below w.heap.size w w') (hx:l.map (B5 σ)=vs.map some)
  (h:∀ w',Below w.heap.size w w'→Below w0.heap.size w0 w'→Sep w0.heap.size w' L→WL P n ds rest ((d,v)::σ) w' Q) :
  WL P n ds (⟨some d,.call ⟨.value (.func f),l.toArray,s⟩,T,pos,af,none⟩::rest) σ w Q :=
 A7 hn ab hc hx fun e w' g=>⟨v,g.1,h w' g.2 (m.trans (g.2.mono m.size)) (u.below g.2)⟩
theorem Ds{f:FuncId}{m:List Operand}{u:Array TypeId}{vs:List Ac}{τ:Type}{v:τ→Ac}{N:τ→Ap→List Res}(hn:Nat.blt d n=true)(ab:∀ args w,(callFunc f args).run P w=.ok (.enter f args) w)
  (g:Below w0.heap.size w0 w) (hS:Sep w0.heap.size w L) (hc:Calls P f vs.toArray w fun e w'=>∃(q:τ)(G:Ap),e=.returned (v q)∧Below w.heap.size w w'∧Sep w.heap.size w' (N q G)) (hx:m.map (B5 σ)=vs.map some)
  (h:∀ q G w',Below w.heap.size w w'→Sep w.heap.size w' (N q G)→Below w0.heap.size w0 w'→Sep w0.heap.size w' (N q G++L)→WL P n ds rest ((d,v q)::σ) w' Q) :
  WL P n ds (⟨some d,.call ⟨.value (.func f),m.toArray,u⟩,T,pos,af,none⟩::rest) σ w Q :=
 A7 hn ab hc hx fun e w' ⟨q,G,he,l,s⟩=>⟨v q,he,h q G w' l s (g.trans (l.mono g.size)) (hS.join l s g.size)⟩
end
end Go.Proofs.YtellehgihceicaaGreatDoor
namespace Go.Proofs.YtellehgihceicaaGreatDoor
open Go Go.RowKit
section
variable {P:Program} {α β:Type} {base:Nat} {w w' w0:Af} {L M:List Res}
def Sh.arr{γ:Type}(f:γ→Ac)(z:γ)(n:Nat)(h1:∀ x,(f x).oneCell'=true):Sh (List γ) where
 sz:=n
 zero:=List.replicate n (f z)
 dflt:=List.replicate n z
 rd:=fun _ _ cs l=>cs=l.map f∧l.length=n
 own:=fun F _ cs l=>F=[]∧cs=l.map f∧l.length=n
 rd_len:=fun h=>by rw [h.1,List.length_map]; exact h.2
 rd_one:=fun h c hc=>by rw [h.1] at hc; obtain ⟨x,_,rfl⟩:=List.mem_map.1 hc; exact h1 x
 rd_keep:=fun h _=>h
 rd_mono:=fun h _=>h
 own_keep:=fun h _=>h
 own_rd:=fun h=>⟨h.2.1,h.2.2⟩
 own_lt:=fun h b hb=>by rw [h.1] at hb; cases hb
 zero_own:=fun _=>⟨rfl,by simp,by simp⟩
def Sh.slicen(e:Ty P α):Sh (List α) where
 sz:=1
 zero:=[.slice none 0 0]
 dflt:=[]
 rd:=(Sh.slice e).rd
 own:=fun F w cs l=>∃ v,cs=[v]∧ownS e F w v l∧(l=[]→v=.slice none 0 0)
 rd_len:=(Sh.slice e).rd_len
 rd_one:=(Sh.slice e).rd_one
 rd_keep:=(Sh.slice e).rd_keep
 rd_mono:=(Sh.slice e).rd_mono
 own_keep:=fun ⟨v,h1,h2,h3⟩ hk=>by
  obtain ⟨v',h1',h2'⟩:=(Sh.slice e).own_keep ⟨v,h1,h2⟩ hk
  subst h1
  cases h1'
  exact ⟨v,rfl,h2',h3⟩
 own_rd:=fun ⟨v,h1,h2,_⟩=>(Sh.slice e).own_rd ⟨v,h1,h2⟩
 own_lt:=fun ⟨v,h1,h2,_⟩=>(Sh.slice e).own_lt ⟨v,h1,h2⟩
 zero_own:=fun w=>by
  obtain ⟨v,h1,h2⟩:=(Sh.slice e).zero_own w
  exact ⟨v,h1,h2,fun _=>by cases h1; rfl⟩
def A6(e:Sh α)(t:TypeId)(F:Ap)(b:Nat)(x:α):Res:=⟨b::F,fun w=>∃ cs:List Ac,w.heap[b]? = some (.cells cs.toArray t (0,0))∧e.own F w cs x⟩
def I5(s:Sh α)(F:Ap)(cs:List Ac)(x:α):Res:=⟨F,fun w=>s.own F w cs x⟩
theorem Sep.perm{L L':List Res}(h:Sep base w L)(p:L.Perm L'):Sep base w L':=by
 obtain ⟨h1,f⟩:=h
 refine ⟨fun r e=>h1 r (p.mem_iff.2 e),?_⟩
 exact (p.pairwise_iff fun {r s} hrs b hb hb'=>hrs b hb' hb).1 f
theorem Un{r r1 r2:Res}(pre:List Res)(h:Sep base w (pre++r::L))(g:r.fp=r1.fp++r2.fp)(f:∀ w',(∀ b ∈ r1.fp,w'.heap[b]? = w.heap[b]?)→r1.ok w')(e:∀ w',(∀ b ∈ r2.fp,w'.heap[b]? = w.heap[b]?)→r2.ok w') :
  Sep base w (pre++r1::r2::L):=by
 have h1:Sep base w (r::(pre++L)):=h.perm List.perm_middle
 have l:Sep base w (r1::r2::(pre++L)):=h1.split2 g f e
 refine l.perm ?_
 refine (List.Perm.cons r1 (List.perm_middle (a:=r2) (l₁:=pre) (l₂:=L)).symm).trans ?_
 exact (List.perm_middle (a:=r1) (l₁:=pre) (l₂:=r2::L)).symm
theorem Ph{r r':Res}(pre:List Res)(h:Sep base w (pre++r::L))(f:r'.fp=r.fp)(e:∀ w,r.ok w→r'.ok w):Sep base w (pre++r'::L) :=
 ((h.perm List.perm_middle).head f e).perm List.perm_middle.symm
theorem VI{r:Res}(pre:List Res)(h:Sep base w (pre++r::L)):Sep base w (pre++L):=by
 have h1:Sep base w (r::(pre++L)):=h.perm List.perm_middle
 exact ⟨fun s e=>h1.1 s (List.mem_cons_of_mem _ e),(List.pairwise_cons.1 h1.2).2⟩
theorem Om{r:Res}(pre:List Res)(h:Sep base w (pre++r::L)):∀ w',(∀ b ∈ r.fp,w'.heap[b]? = w.heap[b]?)→r.ok w':=(h.1 r (by simp)).2.2
theorem T2{e:Sh α}{t:TypeId}{F:Ap}{b:Nat}{x:α}(h:Sep base w (A6 e t F b x::L)):∃ cs:List Ac,Sep base w (Av b t cs::I5 e F cs x::L):=by
 have g:=Om [] h
 obtain ⟨cs,h1,l⟩:∃ cs:List Ac,w.heap[b]? = some (.cells cs.toArray t (0,0))∧e.own F w cs x:=g w fun _ _=>rfl
 refine ⟨cs,Un [] h rfl (fun w' f=>?_) (fun w' f=>?_)⟩
 show w'.heap[b]? = _
 rw [f b (by simp [Av]),h1]
 exact e.own_keep l f
theorem EL{s:Sh α}{t:Sh β}{F:Ap}{cs:List Ac}{x:α×β}(pre:List Res)(h:Sep base w (pre++I5 (Sh.prod s t) F cs x::L)) :
  ∃ a b Fa Fb,cs=a++b∧F=Fa++Fb∧Sep base w (pre++I5 s Fa a x.1::I5 t Fb b x.2::L):=by
 have g:=Om pre h
 obtain ⟨a,b,Fa,Fb,h1,f,m,l⟩:(Sh.prod s t).own F w cs x:=g w fun _ _=>rfl
 exact ⟨a,b,Fa,Fb,h1,f,Un pre h f (fun w' e=>s.own_keep m e) (fun w' e=>t.own_keep l e)⟩
theorem Jz{e:Ty P α}{F:Ap}{cs:List Ac}{l:List α}(pre:List Res)(h:Sep base w (pre++I5 (Sh.slice e) F cs l::L)):∃ v,cs=[v]∧Sep base w (pre++Ab e F v l::L):=by
 have f:=Om pre h
 obtain ⟨v,rfl,hv⟩:(Sh.slice e).own F w cs l:=f w fun _ _=>rfl
 exact ⟨v,rfl,Ph pre h rfl fun s ⟨u,g,m⟩=>by cases g; exact m⟩
theorem Pp{e:Ty P α}{f:α→List Ac}(m:Flat e f){F:Ap}{cs:List Ac}{x:α}(pre:List Res)(h:Sep base w (pre++I5 e.toSh F cs x::L)):cs=f x∧Sep base w (pre++L):=by
 have l:=Om pre h
 have g:e.own F w cs x:=l w fun _ _=>rfl
 exact ⟨m.rd (e.own_rd g),VI pre h⟩
theorem Oi{e:Ty P α}{f:α→List Ac}(u:Flat e f)(x:α)(pre:List Res)(h:Sep base w (pre++L)):Sep base w (pre++I5 e.toSh [] (f x) x::L):=by
 have m:Sep base w (I5 e.toSh [] (f x) x::(pre++L)):=by
  refine ⟨fun r g=>?_,List.pairwise_cons.2 ⟨fun s v b l=>(by cases l),h.2⟩⟩
  cases g with
  | head=>exact ⟨List.nodup_nil,fun b l=>(by cases l),fun w' hw=>u.own w' x⟩
  | tail _ g=>exact h.1 r g
 exact m.perm List.perm_middle.symm
theorem RI{e:Sh α}{t:TypeId}{F F':Ap}{b:Nat}{x:α}{cs:List Ac}(h:Sep base w (Av b t cs::I5 e F cs x::L))(f:F=F'):Sep base w (A6 e t F' b x::L) :=
 by subst f; exact h.merge rfl fun w h1 g=>⟨cs,h1,g⟩
theorem Ef{s:Sh α}{t:Sh β}{Fa Fb:Ap}{a b:List Ac}{x:α}{y:β}(pre:List Res)(h:Sep base w (pre++I5 s Fa a x::I5 t Fb b y::L)):Sep base w (pre++I5 (Sh.prod s t) (Fa++Fb) (a++b) (x,y)::L):=by
 have h1:Sep base w (I5 s Fa a x::I5 t Fb b y::(pre++L)):=by
  refine (h.perm List.perm_middle).perm (List.Perm.cons _ ?_)
  exact List.perm_middle
 have e:Sep base w (I5 (Sh.prod s t) (Fa++Fb) (a++b) (x,y)::(pre++L)):=h1.merge rfl fun w h1 e=>⟨a,b,Fa,Fb,rfl,rfl,h1,e⟩
 exact e.perm List.perm_middle.symm
theorem Ip{e:Ty P α}{F:Ap}{v:Ac}{l:List α}(pre:List Res)(h:Sep base w (pre++Ab e F v l::L)):Sep base w (pre++I5 (Sh.slice e) F [v] l::L) :=
 Ph pre h rfl fun w f=>⟨v,rfl,f⟩
theorem KeepX.tk{wS w w':Af}{X:Ap}{M N:List Res}(h:KeepX wS X w)(g:Sep 0 w' (A5 w (AP M)::N))(l:∀ b,b ∈ AP M→b<wS.heap.size→b ∈ X):KeepX wS X w':=by
 refine ⟨fun b h1 e=>?_,fun b h1 e=>(Od g b (h.lt b h1 e) fun f=>e (l b f h1)).trans (h.blk b h1 e)⟩
 exact ((g.1 _ (List.mem_cons_self ..)).2.1 b (Ij.2 ⟨h.lt b h1 e,fun f=>e (l b f h1)⟩)).2
theorem Dh{p:Nat→Prop}:∀ b,b ∈ AP ([]:List Res)→p b:=fun b e=>by cases e
theorem Cc{r:Res}{L:List Res}{p:Nat→Prop}(h:∀ b,b ∈ r.fp→p b)(g:∀ b,b ∈ AP L→p b):∀ b,b ∈ AP (r::L)→p b:=fun b e=>by
 obtain ⟨s,f,e⟩:=J1.1 e
 cases f with
 | head=>exact h b e
 | tail _ f=>exact g b (J1.2 ⟨s,f,e⟩)
theorem Rf{e:Sh α}{t:TypeId}{F:Ap}{b:Nat}{x:α}{p:Nat→Prop}(h:∀ c,c ∈ [b]→p c)(g:∀ c,c ∈ F→p c):∀ c,c ∈ (A6 e t F b x).fp→p c:=fun c f =>
 (List.mem_cons.1 f).elim (fun e=>h c (by rw [e]; exact List.mem_singleton.2 rfl)) (g c)
theorem J3{p:Nat→Prop}:∀ c,c ∈ ([]:List (Ap)).flatten→p c:=fun c e=>by cases e
theorem Bv{F:Ap}{Fs:List (Ap)}{p:Nat→Prop}(h:∀ c,c ∈ F→p c)(f:∀ c,c ∈ Fs.flatten→p c):∀ c,c ∈ (F::Fs).flatten→p c:=fun c e=>by
 rw [List.flatten_cons] at e
 exact (AV.1 e).elim (h c) (f c)
def pvl(f:Bool)(b:Nat):Ac:=match f with|true=>.pointer (some ⟨b,0,none⟩)|false=>.pointer none
def Ajr(f:Bool)(L:List Res):List Res:=match f with|true=>L|false=>[]
theorem LX{w w':Af}{M N:List Res}(f:Sep 0 w' (A5 w (AP M)::N)){i:Nat}{r:Res}(g:Ey N i=some r):∀ b ∈ r.fp,b ∈ AP M∨w.heap.size≤b:=by
 intro b h
 by_cases h1:b ∈ AP M
 exact .inl h1
 refine .inr (Nat.le_of_not_lt fun e=>?_)
 have l:r ∈ N:=YP g
 exact (List.pairwise_cons.1 f.2).1 r l b (Ij.2 ⟨e,h1⟩) h
theorem YC{γ:Type}{f:γ→Ac}{z:γ}{n:Nat}{h1:∀ x,(f x).oneCell'=true}{F:Ap}{cs:List Ac}{l:List γ}(pre:List Res)(h:Sep base w (pre++I5 (Sh.arr f z n h1) F cs l::L)) :
  F=[]∧cs=l.map f∧l.length=n∧Sep base w (pre++L):=by
 have g:=Om pre h
 obtain ⟨s,e,m⟩:(Sh.arr f z n h1).own F w cs l:=g w fun _ _=>rfl
 exact ⟨s,e,m,VI pre h⟩
theorem X3{γ:Type}{f:γ→Ac}{z:γ}{n:Nat}{h1:∀ x,(f x).oneCell'=true}(l:List γ)(u:l.length=n)(pre:List Res)(h:Sep base w (pre++L)):Sep base w (pre++I5 (Sh.arr f z n h1) [] (l.map f) l::L):=by
 have m:Sep base w (I5 (Sh.arr f z n h1) [] (l.map f) l::(pre++L)):=by
  refine ⟨fun r e=>?_,List.pairwise_cons.2 ⟨fun s v b g=>(by cases g),h.2⟩⟩
  cases e with
  | head=>exact ⟨List.nodup_nil,fun b g=>(by cases g),fun w' hw=>⟨rfl,rfl,u⟩⟩
  | tail _ e=>exact h.1 r e
 exact m.perm List.perm_middle.symm
theorem Agx{e:Ty P α}{F:Ap}{cs:List Ac}{l:List α}(pre:List Res)(h:Sep base w (pre++I5 (Sh.slicen e) F cs l::L)):∃ v,cs=[v]∧(l=[]→v=.slice none 0 0)∧Sep base w (pre++Ab e F v l::L):=by
 have f:=Om pre h
 obtain ⟨v,rfl,hv,g⟩:(Sh.slicen e).own F w cs l:=f w fun _ _=>rfl
 exact ⟨v,rfl,g,Ph pre h rfl fun u ⟨v',m,s,_⟩=>by cases m; exact s⟩
theorem Afm{e:Ty P α}{F:Ap}{v:Ac}{l:List α}(f:l=[]→v=.slice none 0 0)(pre:List Res)(h:Sep base w (pre++Ab e F v l::L)):Sep base w (pre++I5 (Sh.slicen e) F [v] l::L) :=
 Ph pre h rfl fun w g=>⟨v,rfl,g,f⟩
def JX(l:List Bool):List Ac:=l.map .bool
def Ok(l:List Int):List Ac:=l.map iv
theorem O2{γ:Type}{l m:List γ}{j:Nat}{u:γ}(h:P5 l j u=some m):j<l.length∧m=l.set j u:=by
 unfold P5 at h
 split at h
 rename_i e
 exact ⟨e,(Option.some.inj h).symm⟩
 cases h
theorem Acm{l m:List Bool}{j:Nat}{u:Bool}(h:P5 l j u=some m):(JX l).set j (.bool u)=JX m:=by
 rw [(O2 h).2]
 exact (List.map_set ..).symm
theorem Aht{l m:List Int}{j:Nat}{u:Int}(h:P5 l j u=some m):(Ok l).set j (iv u)=Ok m:=by
 rw [(O2 h).2]
 exact (List.map_set ..).symm
theorem Uw{γ:Type}{l m:List γ}{j k:Nat}{u:γ}(h:P5 l j u=some m)(e:l.length=k):m.length=k:=by rw [(O2 h).2,List.length_set,e]
theorem Yv{l m:List Bool}{j:Nat}{u:Bool}(h:P5 l j u=some m):j<(JX l).length:=by unfold JX; rw [List.length_map]; exact (O2 h).1
theorem Aeh{l m:List Int}{j:Nat}{u:Int}(h:P5 l j u=some m):j<(Ok l).length:=by unfold Ok; rw [List.length_map]; exact (O2 h).1
theorem Ajv{l:List Bool}{j:Nat}{u:Bool}(h:l[j]? = some u):(JX l)[j]? = some (.bool u):=by unfold JX; rw [List.getElem?_map,h]; rfl
theorem Aii{l:List Int}{j:Nat}{u:Int}(h:l[j]? = some u):(Ok l)[j]? = some (iv u):=by unfold Ok; rw [List.getElem?_map,h]; rfl
theorem Uy{l:List Bool}{k:Nat}(h:l.length=k):(JX l).length=k:=by unfold JX; rw [List.length_map,h]
section
variable {n:Nat} {σ:EY} {Q:Exit→Act→Af→Prop} {ds:List (Ae Tmp)} {d:Nat} {T U TB:TypeId} {pos:String} {af:Array Edge} {rest:List Oper} {x y z:Operand} {sz:Nat} {agg:Bool} {zv:Ac} {S:Af→Prop} {G:Ac→Prop}
theorem ZY{m s b off:Nat}{e:TypeId}{k:IntKind}{f:Int}(h:P.underlying U=some (.array m e))(l:∀ w,(sizeOf e).run P w=.ok s w)(g:(decide (0≤f)&&decide (f<(m:Int)))=true)(w:Af) :
  (Instr.indexAt U (.pointer (some ⟨b,off,none⟩)) (.int k f)).run P w=.ok (.pointer (some ⟨b,off+f.toNat*s,none⟩)) w:=by
 rw [Cq,C9,C9] at g
 simp [Instr.indexAt,asIntOf,run_underlying h,Instr.sureAddr,g,l w,Addr.add_lit]
theorem Jd{m s b off:Nat}{e:TypeId}{k:IntKind}{f:Int}(hu:P.underlying U=some (.array m e))(u:∀ w,(sizeOf e).run P w=.ok s w)(hi:(decide (0≤f)&&decide (f<(m:Int)))=true)(v:Nat.blt d n=true)
  (hx:B5 σ x=some (.pointer (some ⟨b,off,none⟩))) (l:B5 σ y=some (.int k f)) (h:WL P n ds rest ((d,.pointer (some ⟨b,off+f.toNat*s,none⟩))::σ) w Q):WL P n ds (⟨some d,.indexAddr U x y,T,pos,af,none⟩::rest) σ w Q :=
 C6 v (fun ρ g=>by simp [execOp,g _ _ hx,g _ _ l,ZY hu u hi]) h
theorem SH{m s b off:Nat}{e:TypeId}{k:IntKind}{f:Int}(hu:P.underlying U=some (.array m e))(u:∀ w,(sizeOf e).run P w=.ok s w)(hi:(decide (0≤f)&&decide (f<(m:Int)))=true)(hn:Nat.blt d n=true)
  (hx:B5 σ x=some (.pointer (some ⟨b,off,none⟩))) (l:B5 σ y=some (.int k f)) (h:G (.pointer (some ⟨b,off+f.toNat*s,none⟩))):∃ v,PR P n σ S d (.indexAddr U x y) T v∧G v :=
 ⟨_,⟨hn,fun ρ g w _ ag pos af gd=>by simp [execOp,g _ _ hx,g _ _ l,ZY hu u hi]⟩,h⟩
theorem Ahu{pre arr g:List Ac}{j:Nat}{v:Ac}(h:arr[j]? = some v):LY (pre++(arr++g)) (pre.length+j) 1=some [v]:=by
 have f:j<arr.length:=by
  rcases Nat.lt_or_ge j arr.length with e|e
  exact e
  rw [List.getElem?_eq_none e] at h; cases h
 unfold LY
 rw [Nat.ble_eq_true_of_le (by simp; omega)]
 simp only [cond_true,Option.some.injEq]
 rw [List.drop_append,List.drop_eq_nil_of_le (by omega),List.nil_append,show pre.length+j-pre.length=j by omega,List.drop_append_of_le_length (by omega),List.drop_eq_getElem_cons f]
 rw [BP f] at h
 cases h
 rfl
theorem ZU{pre f vs:List Ac}{off sz:Nat}(h:LY pre off sz=some vs):LY (pre++f) off sz=some vs:=by
 unfold LY at h ⊢
 cases e:Nat.ble (off+sz) pre.length with
 | false=>rw [e] at h; cases h
 | true =>
  have g:=Nat.le_of_ble_eq_true e
  rw [e] at h
  rw [Nat.ble_eq_true_of_le (by simp; omega)]
  simp only [cond_true,Option.some.injEq] at h ⊢
  rw [← h,List.drop_append_of_le_length (by omega),List.take_append_of_le_length (by simp; omega)]
theorem Yw{pre e vs:List Ac}{k off sz:Nat}(g:pre.length=k)(h:LY e off sz=some vs):LY (pre++e) (k+off) sz=some vs:=by
 unfold LY at h ⊢
 cases f:Nat.ble (off+sz) e.length with
 | false=>rw [f] at h; cases h
 | true =>
  have l:=Nat.le_of_ble_eq_true f
  rw [f] at h
  rw [Nat.ble_eq_true_of_le (by simp; omega)]
  simp only [cond_true,Option.some.injEq] at h ⊢
  rw [← h,List.drop_append,List.drop_eq_nil_of_le (by omega),List.nil_append,show k+off-pre.length=off by omega]
theorem Acf{pre arr e:List Ac}{j:Nat}{v:Ac}(f:j<arr.length):D8 (pre++(arr++e)) (pre.length+j) [v]=pre++(arr.set j v++e):=by
 unfold D8
 rw [List.take_append,List.take_of_length_le (by omega),show pre.length+j-pre.length=j by omega,List.take_append_of_le_length (by omega),List.drop_append,List.drop_eq_nil_of_le (by simp; omega),List.nil_append]
 simp only [List.length_singleton]
 rw [show pre.length+j+1-pre.length=j+1 by omega,List.drop_append_of_le_length (by omega),List.set_eq_take_append_cons_drop,if_pos f]
 simp
theorem Z8{pre e:List Ac}{k off:Nat}{vs:List Ac}(f:pre.length=k):D8 (pre++e) (k+off) vs=pre++D8 e off vs:=by
 unfold D8
 rw [List.take_append,List.take_of_length_le (by omega),show k+off-pre.length=off by omega,List.drop_append,List.drop_eq_nil_of_le (by omega),List.nil_append,show k+off+vs.length-pre.length=off+vs.length by omega]
 simp
theorem lda(i:Nat){b j off:Nat}{V:TypeId}{pre arr f:List Ac}{v:Ac}(g:TF P U 1 agg zv)(m:agg=false)(e:N8 σ n d x=some (.pointer (some ⟨b,off,none⟩)))(l:Sep w0.heap.size w L)(s:Ey L i=some (Av b V (pre++(arr++f))))(hv:arr[j]? = some v)
  (u:off=pre.length+j) (h:WL P n ds rest ((d,v)::σ) w Q):WL P n ds (⟨some d,.load U x,T,pos,af,none⟩::rest) σ w Q:=by
 subst u m
 exact KI g (Dt e).1 (Dt e).2 l s (Ahu hv) rfl h
theorem sta(i:Nat){b j off:Nat}{V:TypeId}{pre arr e:List Ac}{v:Ac}(f:TF P U 1 agg zv)(s:B5 σ x=some (.pointer (some ⟨b,off,none⟩)))(g:B5 σ y=some v)(h1:v.oneCell'=true)(u:Below w0.heap.size w0 w)(l:Sep w0.heap.size w L)
  (m:Ey L i=some (Av b V (pre++(arr++e)))) (hj:j<arr.length) (ho:off=pre.length+j)
  (h:∀ w',(w.heap.size≤w'.heap.size∧(∀ k,k<w.heap.size→k ∉ [b]→w'.heap[k]? = w.heap[k]?)∧∀ k ∈ [b],k ∈ [b]∨w.heap.size≤k)→Below w0.heap.size w0 w'→Sep w0.heap.size w' (N2 L i (Av b V (pre++(arr.set j v++e))))→WL P n ds rest σ w' Q) :
  WL P n ds (⟨none,.store U x y,T,pos,af,none⟩::rest) σ w Q:=by
 subst ho
 exact BG (vs:=[v]) f s g (Ch h1) rfl u l m (Nat.ble_eq_true_of_le (by simp; omega)) ⟨h1,trivial⟩ (Acf hj) h
theorem ldq(i:Nat){b k off o:Nat}{V:TypeId}{pre e:List Ac}{v:Ac}(g:TF P U sz agg zv)(f:N8 σ n d x=some (.pointer (some ⟨b,off,none⟩)))(m:Sep w0.heap.size w L)(s:Ey L i=some (Av b V (pre++e)))(l:pre.length=k)(ho:off=k+o)(hv:V0 agg e o sz=some v)
  (h:WL P n ds rest ((d,v)::σ) w Q):WL P n ds (⟨some d,.load U x,T,pos,af,none⟩::rest) σ w Q:=by
 subst ho
 obtain ⟨vs,h1,u⟩:=Mb hv
 exact KI g (Dt f).1 (Dt f).2 m s (Yw l h1) u h
theorem ldr(i:Nat){b off:Nat}{V:TypeId}{pre f:List Ac}{v:Ac}(g:TF P U sz agg zv)(e:N8 σ n d x=some (.pointer (some ⟨b,off,none⟩)))(l:Sep w0.heap.size w L)(m:Ey L i=some (Av b V (pre++f)))(u:V0 agg pre off sz=some v)
  (h:WL P n ds rest ((d,v)::σ) w Q):WL P n ds (⟨some d,.load U x,T,pos,af,none⟩::rest) σ w Q:=by
 obtain ⟨vs,h1,s⟩:=Mb u
 exact KI g (Dt e).1 (Dt e).2 l m (ZU h1) s h
theorem stq(i:Nat){b k off o:Nat}{V:TypeId}{pre f g:List Ac}{v:Ac}(l:TF P U 1 agg zv)(hx:B5 σ x=some (.pointer (some ⟨b,off,none⟩)))(m:B5 σ y=some v)(h1:v.oneCell'=true)(hB:Below w0.heap.size w0 w)(u:Sep w0.heap.size w L)
  (hg:Ey L i=some (Av b V (pre++f))) (s:pre.length=k) (ho:off=k+o) (hc:SG f o [v] some=some g)
  (h:∀ w',(w.heap.size≤w'.heap.size∧(∀ k,k<w.heap.size→k ∉ [b]→w'.heap[k]? = w.heap[k]?)∧∀ k ∈ [b],k ∈ [b]∨w.heap.size≤k)→Below w0.heap.size w0 w'→Sep w0.heap.size w' (N2 L i (Av b V (pre++g)))→WL P n ds rest σ w' Q) :
  WL P n ds (⟨none,.store U x y,T,pos,af,none⟩::rest) σ w Q:=by
 subst ho
 obtain ⟨g1,g2⟩:=SF hc
 have e:D8 f o [v]=g:=Option.some.inj g2
 exact BG (vs:=[v]) l hx m (Ch h1) rfl hB u hg (Nat.ble_eq_true_of_le (by simp at g1 ⊢; omega)) ⟨h1,trivial⟩ (by rw [Z8 s,e]) h
theorem Y9(i:Nat){wS:Af}{X:Ap}{b off:Nat}{V:TypeId}{pre f:List Ac}{v:Ac}(e:TF P U sz agg zv)(l:Nat.blt d n=true)(s:B5 σ x=some (.pointer (some ⟨b,off,none⟩)))(g:Sep w0.heap.size wS L)(m:Ey L i=some (Av b V (pre++f)))(hv:V0 agg pre off sz=some v)(hX:b ∉ X)
  (h:G v):∃ v,PR P n σ (KeepX wS X) d (.load U x) T v∧G v:=by
 obtain ⟨vs,h1,u⟩:=Mb hv
 exact Q9 e l s g m (ZU h1) u hX h
theorem Acy(i:Nat){wS:Af}{X:Ap}{b k off o:Nat}{V:TypeId}{pre e:List Ac}{v:Ac}(f:TF P U sz agg zv)(m:Nat.blt d n=true)(u:B5 σ x=some (.pointer (some ⟨b,off,none⟩)))(l:Sep w0.heap.size wS L)(s:Ey L i=some (Av b V (pre++e)))(g:pre.length=k)(ho:off=k+o)(hv:V0 agg e o sz=some v)(hX:b ∉ X)
  (h:G v):∃ v,PR P n σ (KeepX wS X) d (.load U x) T v∧G v:=by
 subst ho
 obtain ⟨vs,h1,h2⟩:=Mb hv
 exact Q9 f m u l s (Yw g h1) h2 hX h
theorem ZR{e:Ty P α}{F:Ap}{v:Ac}{l:List α}{m:TypeId}(hu:P.underlying T=some (.slice m))(ho:ownS e F w v l)(hl:l=[]→v=.slice none 0 0)(u:Nat.blt d n=true)(hx:B5 σ x=some v)(s:B5 σ y=some (.slice none 0 0))
  (h:WL P n ds rest ((d,.bool (!l.isEmpty))::σ) w Q):WL P n ds (⟨some d,.binOp .neq T x y U,TB,pos,af,none⟩::rest) σ w Q:=by
 have aa:∃ a k c,v=.slice a k c∧(!a.isNone)=!l.isEmpty:=by
  rcases ho with ⟨rfl,rfl,_⟩|⟨g,cap,ai,css,Fs,hv,_⟩
  exact ⟨none,0,0,rfl,rfl⟩
  subst hv
  cases l with
  | nil=>cases hl rfl
  | cons a l=>exact ⟨_,_,_,rfl,rfl⟩
 obtain ⟨a,k,c,rfl,e1⟩:=aa
 refine C6 u (fun ρ f=>?_) h
 rw [← e1]
 simp [execOp,f _ _ hx,f _ _ s,eqGuard,run_neq_slice_nil _ T m a k c hu]
end
end
end Go.Proofs.YtellehgihceicaaGreatDoor
namespace Go.Proofs.YtellehgihceicaaGreatDoor
open Go Go.RowKit
section
variable {P:Program} {α:Type} {n:Nat} {σ:EY} {S:Af→Prop} {Q:Exit→Act→Af→Prop} {w w0 wS:Af} {ops:List Oper} {fuel:Nat} {li:List Bool} {L:List Res} {X:Ap} {d:Nat} {op:Op} {T U:TypeId} {pos:String} {af:Array Edge} {ds:List (Ae Tmp)} {rest:List Oper} {x y z:Operand} {G:Ac→Prop} {sz:Nat} {agg:Bool} {zv:Ac}
theorem Bh(i:Nat){g:Nat}{s:Tmp}{b want:Bool}(e:(ops[i]?,(ops.map (·.dst))[g]?,Hg σ s)=(some ⟨some d,op,T,pos,af,some (g,want)⟩,some (some s),some (.bool b)))(hQ:Kb Q)(u:b=!want)(hw:S w)(h:WH P n ops S fuel (li.set i true) ((d,undef)::σ) w Q)
  (f:Region.noSelect ops.toArray=true:=by kernel_rfl) (v:Region.free .any ops.toArray li.toArray i=true:=by kernel_rfl) (m:(Region.ready .any ops.toArray li.toArray).contains i=true:=by kernel_rfl) (l:Nat.blt d n=true:=by kernel_rfl):WH P n ops S (fuel+1) li σ w Q :=
 Aiv (Prod.mk.inj e).1 f v m hQ (Prod.mk.inj (Prod.mk.inj e).2).1 (Prod.mk.inj (Prod.mk.inj e).2).2 u l hw h
theorem Fe(i:Nat){g:Nat}{s:Tmp}{want:Bool}(e:(ops[i]?,(ops.map (·.dst))[g]?,Hg σ s)=(some ⟨some d,op,T,pos,af,some (g,want)⟩,some (some s),some undef))(hQ:Kb Q)(v:S w)(h:WH P n ops S fuel (li.set i true) ((d,undef)::σ) w Q)
  (f:Region.noSelect ops.toArray=true:=by kernel_rfl) (u:Region.free .any ops.toArray li.toArray i=true:=by kernel_rfl) (m:(Region.ready .any ops.toArray li.toArray).contains i=true:=by kernel_rfl) (l:Nat.blt d n=true:=by kernel_rfl):WH P n ops S (fuel+1) li σ w Q :=
 Ahd (Prod.mk.inj e).1 f u m hQ (Prod.mk.inj (Prod.mk.inj e).2).1 (Prod.mk.inj (Prod.mk.inj e).2).2 l v h
theorem BQ(i:Nat){g:Nat}{s:Tmp}{b want:Bool}(e:(ops[i]?,(ops.map (·.dst))[g]?,Hg σ s)=(some ⟨some d,op,T,pos,af,some (g,want)⟩,some (some s),some (.bool b)))(hQ:Kb Q)(m:b=want)(hw:S w)(h:∃ v,PR P n σ S d op T v∧WH P n ops S fuel (li.set i true) ((d,v)::σ) w Q)
  (f:Region.noSelect ops.toArray=true:=by kernel_rfl) (u:Region.free .any ops.toArray li.toArray i=true:=by kernel_rfl) (l:(Region.ready .any ops.toArray li.toArray).contains i=true:=by kernel_rfl):WH P n ops S (fuel+1) li σ w Q :=
 Ad7 (Prod.mk.inj e).1 f u l hQ (Prod.mk.inj (Prod.mk.inj e).2).1 (Prod.mk.inj (Prod.mk.inj e).2).2 m hw h
theorem Bc(h:∀ a,St n σ a→Q .normal a w)(e:Region.ready .any ops.toArray li.toArray=[]:=by kernel_rfl):WH P n ops S fuel li σ w Q:=Ahe e h
theorem Ay(i:Nat){v:Ac}(e:(ops[i]?,N8 σ n d x)=(some ⟨some d,.move x,T,pos,af,none⟩,some v))(s:Kb Q)(m:S w)(h:WH P n ops S fuel (li.set i true) ((d,v)::σ) w Q)
  (f:Region.noSelect ops.toArray=true:=by kernel_rfl) (l:Region.free .any ops.toArray li.toArray i=true:=by kernel_rfl) (g:(Region.ready .any ops.toArray li.toArray).contains i=true:=by kernel_rfl):WH P n ops S (fuel+1) li σ w Q :=
 Ad i (Prod.mk.inj e).1 s m (Dq (Dt (Prod.mk.inj e).2).1 (Dt (Prod.mk.inj e).2).2 h) f l g
theorem CN(i:Nat){b off:Nat}{V:TypeId}{cs:List Ac}{v:Ac}(g:TF P U sz agg zv)(e:N8 σ n d x=some (.pointer (some ⟨b,off,none⟩)))(l:Sep w0.heap.size wS L)(f:(Ey L i,V0 agg cs off sz)=(some (Av b V cs),some v))(s:b ∉ X)
  (h:G v):∃ v,PR P n σ (KeepX wS X) d (.load U x) T v∧G v:=by
 obtain ⟨vs,h1,m⟩:=Mb (Prod.mk.inj f).2
 exact Q9 g (Dt e).1 (Dt e).2 l (Prod.mk.inj f).1 h1 m s h
theorem BR{S':Nat→Prop}{p:Addr}{cs:List Ac}{v:Ac}(f:TF P U sz agg zv)(e:N8 σ n d x=some (.pointer (some p)))(g:∀ w,S w→EAt S' w p cs)(m:V0 agg cs 0 sz=some v)
  (h:G v):∃ v,PR P n σ S d (.load U x) T v∧G v:=by
 obtain ⟨vs,h1,l⟩:=Mb m
 exact Acx f (Dt e).1 (Dt e).2 g h1 l h
theorem C7{f o b off:Nat}(g:Fo P U f o=true)(e:N8 σ n d x=some (.pointer (some ⟨b,off,none⟩)))
  (h:G (.pointer (some ⟨b,off+o,none⟩))):∃ v,PR P n σ S d (.fieldAddr U x f) T v∧G v :=
 Aey g (Dt e).1 (Dt e).2 rfl h
theorem wo{g:Nat}{s:Tmp}{b want:Bool}{op:Op}(e:(Nat.blt d n,ds[g]?,Hg σ s)=(true,some (some s),some (.bool b)))(f:b=!want)
  (h:WL P n ds rest ((d,undef)::σ) w Q):WL P n ds (⟨some d,op,T,pos,af,some (g,want)⟩::rest) σ w Q :=
 Ahg (Prod.mk.inj e).1 (Prod.mk.inj (Prod.mk.inj e).2).1 (Prod.mk.inj (Prod.mk.inj e).2).2 f h
theorem wn{g:Nat}{s:Tmp}{b want:Bool}{f:Ae Tmp}{op:Op}(e:(ds[g]?,Hg σ s)=(some (some s),some (.bool b)))(l:b=want)
  (h:WL P n ds (⟨f,op,T,pos,af,none⟩::rest) σ w Q):WL P n ds (⟨f,op,T,pos,af,some (g,want)⟩::rest) σ w Q :=
 Ai0 (Prod.mk.inj e).1 (Prod.mk.inj e).2 l h
theorem An(k:Nat){ops:List Oper}{σ':EY}(h:pgo n k ops σ=some ([],σ'))(e:∀ a,St n σ' a→Q .normal a w):WL P n ds ops σ w Q:=wp k h (Ai e)
theorem Am(k:Nat){id:Nat}{l:List Oper}{y:Code}{σ':EY}(h:pgo n k l σ=some ([],σ'))(e:W P n y σ' w Q):W P n (.seq (.region id l.toArray false) y) σ w Q :=
 Al fun K f=>wp k h (Ai (f e))
theorem cm{f:FuncId}{g:Func}{c:Code}{e:List Ac}{w:Af}{R:Ending→Af→Prop}{n:Nat}{σ:EY}
  (s:P.funcs[f]? = some g) (m:g.ntmps=n) (l:(g.body,e.length+(n-e.length),σ)=(some c,n,e.zipIdx.map (fun p=>(p.2,p.1))))
  (h:∀ Q:Exit→Act→Af→Prop,(∀ a w,bodyPost P g R .ret a w→Q .ret a w)→Kb Q→Below w.heap.size w w→Sep w.heap.size w []→W P n c σ w Q):Calls P f e.toArray w R :=
 Ek s (Prod.mk.inj l).1 m (Prod.mk.inj (Prod.mk.inj l).2).1 (Prod.mk.inj (Prod.mk.inj l).2).2 fun Q a b=>h Q a b (Below.refl _ _) (Sep.nil _ _)
theorem tm{u v:Af}(h:Below w0.heap.size w0 u)(e:Below u.heap.size u v):Below w0.heap.size w0 v:=h.trans (e.mono h.size)
end
end Go.Proofs.YtellehgihceicaaGreatDoor
