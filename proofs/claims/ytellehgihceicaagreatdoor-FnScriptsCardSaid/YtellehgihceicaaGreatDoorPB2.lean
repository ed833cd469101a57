/-
 REPAIRS, PLAIN: both sides tell the same kind.
-/
import Derived.Test.YtellehgihceicaaGreatDoorCore20
import Derived.Test.YtellehgihceicaaGreatDoorF
import Derived.Test.YtellehgihceicaaGreatDoorLibF
import Derived.Lib.Mul64
set_option linter.unusedVariables false
set_option linter.unusedSimpArgs false
set_option maxHeartbeats 1600000
namespace Go.Proofs.YtellehgihceicaaGreatDoor
open Go
theorem AA{x:Int}(h1:-9223372036854775808≤x)(e:x≤9223372036854775807):Ah x=x:=by
 unfold Ah IntKind.wrap
 simp only [IntKind.bits,IntKind.signed]
 simp only [ge_iff_le,Bool.true_and,C9]
 split <;> omega
theorem AC{k:Nat}(h:k<4611686018427387904):Ah ((k:Int)+1)=((k+1:Nat):Int):=by
 rw [AA (by omega) (by omega)]; omega
theorem AY{α:Type}(l:List α)(k:Nat):AG l (k:Int)=l[k]?:=by unfold AG; simp
theorem U7{α:Type}(l:List α):AG l 0=l[0]?:=by unfold AG; simp
theorem Il{α:Type}{l:List α}{i:Int}(e:0≤i):AG l i=l[i.toNat]?:=by unfold AG; rw [if_pos e]
theorem Dw{n:Nat}(h:n<4611686018427387904):n<FU:=h
theorem KS{α:Type}(l:List α){k:Nat}(h:k≤l.length):sl l 0 (k:Int)=some (l.take k):=by
 unfold sl
 rw [if_pos (by omega)]
 simp
theorem N3{R:Type}(f:Nat→Int→Ae R)(n:Nat)(p:Nat→Bool)(rest e:Ae R)(hn:n<4611686018427387904)
  (u:∀ m k,k<n→f (m+1) (k:Int)=if p k=true then f m ((k+1:Nat):Int) else e) (he:∀ m,f (m+1) (n:Int)=rest):f FU 0=if (List.range n).all p=true then rest else e:=by
 have v:∀ d k m,n-k=d→k≤n→n-k<m→f m (k:Int)=if (List.range' k (n-k)).all p=true then rest else e:=by
  intro d
  induction d with
  | zero =>
   intro k m g s l
   have:k=n:=by omega
   subst this
   cases m with
   | zero=>omega
   | succ m=>simp [he]
  | succ d h =>
   intro k m g s l
   cases m with
   | zero=>omega
   | succ m =>
    rw [u m k (by omega),g,List.range'_succ,List.all_cons]
    cases hp:p k with
    | false=>simp
    | true =>
     simp only [if_true,Bool.true_and]
     rw [h (k+1) m (by omega) (by omega) (by omega),show n-(k+1)=d by omega]
 have:=v n 0 FU (by omega) (by omega) (Dw (by omega))
 simpa [List.range_eq_range'] using this
theorem Acv{α:Type}(l:List α)(p:Nat→Bool)(q:α→Bool)(h:∀ k x,l[k]? = some x→p k=q x):(List.range l.length).all p=l.all q:=by
 rw [Bool.eq_iff_iff,List.all_eq_true,List.all_eq_true]
 constructor
 intro h1 x g
 obtain ⟨k,e⟩:=List.getElem?_of_mem g
 rw [← h k x e]
 exact h1 k (List.mem_range.2 (List.getElem?_eq_some_iff.1 e).1)
 intro h1 k e
 have f:=List.mem_range.1 e
 rw [h k l[k] (by simp [f])]
 exact h1 _ (List.getElem_mem f)
theorem Ow{α R:Type}(f:Nat→Int→Ae R)(l:List α)(q:α→Bool)(rest g:Ae R)(u:l.length<4611686018427387904)
  (s:∀ m k x,k<l.length→l[k]? = some x→f (m+1) (k:Int)=if q x=true then f m ((k+1:Nat):Int) else g) (v:∀ m,f (m+1) (l.length:Int)=rest):f FU 0=if l.all q=true then rest else g:=by
 rw [N3 f l.length (fun k=>match l[k]? with|some x=>q x|none=>true) rest g u (fun m k h=>?_) v,Acv l _ q (fun k x e=>by simp [e])]
 have e:l[k]? = some l[k]:=by simp [h]
 rw [s m k l[k] h e]
 simp [e]
def Szd(o:Ae Int)(n:Int)(Q:Prop):Prop:=∃ r,o=some r∧(r<0∨(0≤r∧r≤n∧Q))
def Ajz{α:Type}(S:α→Prop)(l:List α):Prop:=l.length≤1048576∧∀ x ∈ l,S x
theorem Ic{α:Type}{l:List α}{k:Nat}(h:k<l.length):AG l (k:Int)=some l[k]:=by rw [AY]; simp [h]
theorem Lq{α:Type}(l:List α)(k:Nat)(x:α):BL l (k:Int) x=l.set k x:=by unfold BL; simp
theorem Szd.imp{o:Ae Int}{n:Int}{Q R:Prop}(h:Szd o n Q)(e:Q→R):Szd o n R:=by
 obtain ⟨r,h1,f⟩:=h
 exact ⟨r,h1,f.imp id fun h=>⟨h.1,h.2.1,e h.2.2⟩⟩
theorem Oe{α:Type}{n:Nat}(h:n≤1073741824)(z:α):Uh (n:Int) z=some (List.replicate n z):=by
 unfold Uh
 rw [if_pos (by omega)]
 simp
theorem Ajw{α:Type}[BEq α]{S:α→Prop}(g:∀ x:α,(x != x)=false)(f:Nat→Int→Ae Bool)(l:List α)
  (e:∀ m k,f (m+1) k=if (decide (k<(List.length l:Int)))=true then Option.bind (AG l k) fun u=>Option.bind (AG l k) fun v=>(if (u != v)=true then some false else f m (Ah (k+1))) else some true)
  (s:Ajz S l):(if ((List.length l:Int) != (List.length l:Int))=true then some false else f FU 0)=some true:=by
 have ab:=s.1
 rw [if_neg (by simp)]
 have:=Ow f l (fun _=>true) (some true) (some false) (by omega) (fun m k x hk h=>?_) (fun m=>by rw [e,if_neg (by simp)])
 simpa using this
 rw [e,if_pos (by simp; omega),AY,h,Aa,Aa,if_neg (by rw [g x]; exact Bool.false_ne_true),AC (by omega),if_pos rfl]
theorem neI(x:Int):(x != x)=false:=by simp
theorem YN{α S R:Type}(f:Nat→S→Int→Ae R)(l:List α)(g:S→α→S)(rest:S→Ae R)(hn:l.length<4611686018427387904)
  (hs:∀ m s k x,k<l.length→l[k]? = some x→f (m+1) s (k:Int)=f m (g s x) ((k+1:Nat):Int)) (he:∀ m s,f (m+1) s (l.length:Int)=rest s) (h:S):f FU h 0=rest (l.foldl g h):=by
 have ac:∀ d k m s,l.length-k=d→k≤l.length→l.length-k<m→f m s (k:Int)=rest ((l.drop k).foldl g s):=by
  intro d
  induction d with
  | zero =>
   intro k m s hd hk v
   have:k=l.length:=by omega
   subst this
   cases m with
   | zero=>omega
   | succ m=>rw [he]; simp
  | succ d u =>
   intro k m s hd hk v
   cases m with
   | zero=>omega
   | succ m =>
    have e:k<l.length:=by omega
    rw [hs m s k l[k] e (by simp [e]),u (k+1) m _ (by omega) (by omega) (by omega),List.drop_eq_getElem_cons e,List.foldl_cons]
 have:=ac _ 0 FU h rfl (by omega) (Dw (by omega))
 simpa using this
theorem Ae2{α R:Type}[DecidableEq α](f:Nat→Int→Ae R)(l m:List α)(rest s:Ae R)(hn:l.length<4611686018427387904)(hl:l.length=m.length)
  (v:∀(j k:Nat)(x y:α),l[k]? = some x→m[k]? = some y→f (j+1) (k:Int)=if x=y then f j ((k+1:Nat):Int) else s) (he:∀ j,f (j+1) (l.length:Int)=rest):f FU 0=if l=m then rest else s:=by
 rw [N3 f l.length (fun k=>decide (l[k]? = m[k]?)) rest s hn (fun j k u=>?_) he]
 have:(List.range l.length).all (fun k=>decide (l[k]? = m[k]?))=decide (l=m):=by
  rw [Bool.eq_iff_iff,List.all_eq_true,C9]
  constructor
  intro h
  apply List.ext_getElem? 
  intro i
  by_cases hi:i<l.length
  simpa using h i (List.mem_range.2 hi)
  rw [List.getElem?_eq_none (by omega),List.getElem?_eq_none (by omega)]
  intro h k _
  simp [h]
 rw [this]
 by_cases h:l=m <;> simp [h]
 have e:l[k]? = some l[k]:=by simp [u]
 have g:m[k]? = some (m[k]'(by omega)):=BP (by omega)
 rw [v j k l[k] (m[k]'(by omega)) e g]
 by_cases h:l[k]=m[k]'(by omega)
 rw [if_pos h,if_pos (by rw [e,g,h]; simp)]
 rw [if_neg h,if_neg (by rw [e,g]; simp [h])]
theorem Mt{α:Type}(l:List α){k:Nat}(h:k≤l.length):sl l 0 (k:Int)=some (l.take k):=KS l h
theorem V3{α:Type}(l:List α){k:Nat}(h:k≤l.length):sl l (k:Int) (List.length l:Int)=some (l.drop k):=by
 unfold sl
 rw [if_pos (by omega)]
 simp
theorem Adm{α:Type}(l:List α){j k:Nat}(h:j≤k)(e:k≤l.length):∃ u,sl l (j:Int) (k:Int)=some u:=by
 unfold sl
 rw [if_pos (by omega)]
 exact ⟨_,rfl⟩
theorem Bg{α:Type}{l m:List α}(h:l.length+m.length≤1073741824):BB l m=some (l++m):=by
 unfold BB
 rw [if_pos h]
def Dc(l:List Ag):Nat:=l.count 10
theorem ten:(10:Int).toNat.toUInt8=10:=by decide
theorem Abj(l:List Ag):(MY l 10=-1∧Dc l=0)∨∃ A B,l=A++10::B∧MY l 10=(A.length:Int)∧Dc l=Dc B+1:=by
 have ab:∀ l:List Ag,(MY l 10=-1∧Dc l=0)∨∃ A B,l=A++10::B∧MY l 10=(A.length:Int)∧Dc l=Dc B+1:=by
  intro l
  unfold MY
  rw [ten]
  cases h:(List.range l.length).find? (fun i=>l[i]? == some 10) with
  | none =>
   left
   refine ⟨rfl,?_⟩
   unfold Dc
   rw [List.count_eq_zero]
   intro g
   obtain ⟨k,f,e⟩:=List.getElem_of_mem g
   have:=List.find?_eq_none.1 h k (List.mem_range.2 f)
   rw [BP f,e] at this
   simp at this
  | some i =>
   right
   have m:=List.find?_some h
   have hi:i<l.length:=List.mem_range.1 (List.mem_of_find?_eq_some h)
   have he:l[i]=10:=by
    rw [BP hi] at m
    simpa using m
   have aa:(10:Ag) ∉ l.take i:=by
    intro g
    obtain ⟨k,f,e⟩:=List.getElem_of_mem g
    rw [List.getElem_take] at e
    have v:k<i:=by simp at f; omega
    have ac:k<l.length:=by omega
    have:=List.find?_range_eq_some.1 h
    have u:=this.2.2 k v
    rw [BP ac,e] at u
    simp at u
   have s:l=l.take i++10::l.drop (i+1):=by
    rw [← he,List.getElem_cons_drop,List.take_append_drop]
   refine ⟨l.take i,l.drop (i+1),s,by simp; omega,?_⟩
   unfold Dc
   conv=>lhs; rw [s]
   rw [List.count_append,List.count_cons,List.count_eq_zero.2 aa]
   simp
 exact ab l
theorem Afb(l:List Ag):GL l [10]=some (MY l 10):=by
 unfold GL Ig GF Bf
 dsimp only
 by_cases h:l=[10]
 subst h
 rfl
 have f:([10]==l)=false:=by
  rw [beq_eq_false_iff_ne]
  exact fun e=>h e.symm
 rw [if_neg (by simp),f,if_neg (by simp),if_pos (by simp)]
 rfl
theorem Afk(l:List Ag):H9 l [10]=some ((Dc l:Nat):Int):=by
 unfold H9
 rw [if_neg (by simp),if_pos (by simp)]
 rfl
theorem Aef(l:List Ag)(hl:l.length≤4194304):∃ r,Ff l [10]=some r∧r.length=Dc l+1:=by
 have hc:Dc l≤l.length:=List.count_le_length
 unfold Ff I8 Bf Sa
 dsimp only
 have g:Fq ((Dc l:Int)+1) ((l.length:Int)+1)=((Dc l+1:Nat):Int):=by
  unfold Fq
  split <;> omega
 rw [if_neg (by simp),if_neg (by simp),if_pos (by simp),Afk,Aa,AA (x:=((Dc l:Nat):Int)+1) (by omega) (by omega),AA (x:=(List.length l:Int)+1) (by omega) (by omega),g,Oe (by omega),Aa]
 have aj:∀(d i m:Nat)(y:List Ag)(L:List (List Ag)),Dc l-i=d→i≤Dc l→d<m→Dc y=d→L.length=Dc l+1→y.length≤4194304 →
   ∃ r,Di ((Dc l:Int)+1) l [10] (fun aa h f=>Option.bind (AG h f) fun ao=>Option.bind (sl (BL h f aa) 0 (Ah (f+1))) fun ab=>some ab) 0 m y L (i:Int)=some r∧r.length=Dc l+1:=by
  intro d
  induction d with
  | zero =>
   intro i m y L v hi hm hy s ak
   have:i=Dc l:=by omega
   subst this
   cases m with
   | zero=>omega
   | succ m =>
    rw [Di,AA (x:=(List.length l:Int)+1) (by omega) (by omega),g,AA (x:=((Dc l+1:Nat):Int)-1) (by omega) (by omega),if_neg (by simp <;> omega),Ic (by omega),Aa,AC (by omega),Mt _ (by simp [BL]; omega),Aa]
    exact ⟨_,rfl,by simp [BL]; omega⟩
  | succ d ih =>
   intro i m y L v hi hm hy s ak
   cases m with
   | zero=>omega
   | succ m =>
    rcases Abj y with ⟨_,h0⟩|⟨A,B,e,hx,hb⟩
    omega
    have ap:y.length=A.length+(B.length+1):=by rw [e]; simp
    rw [Di,AA (x:=(List.length l:Int)+1) (by omega) (by omega),g,AA (x:=((Dc l+1:Nat):Int)-1) (by omega) (by omega),if_pos (by simp <;> omega),Afb,Aa,hx,if_neg (by simp),AA (x:=(A.length:Int)+0) (by omega) (by omega),Int.add_zero,Mt _ (by omega),Aa,Ic (by omega),Aa]
    rw [show (List.length ([10]:List Ag):Int)=1 by rfl,AC (by omega),V3 _ (by omega),Aa,AC (by omega)]
    have hB:y.drop (A.length+1)=B:=by rw [e,show A++10::B=(A++[10])++B by simp]; exact List.drop_left' (by simp)
    rw [hB]
    exact ih (i+1) m B _ (by omega) (by omega) (by omega) (by omega) (by simp [BL]; exact s) (by omega)
 obtain ⟨r,u,am⟩:=aj (Dc l) 0 FU l (List.replicate (Dc l+1) []) (by omega) (by omega) (Dw (by omega)) rfl (by simp) hl
 rw [show ((0:Nat):Int)=0 by rfl] at u
 rw [u]
 exact ⟨r,rfl,am⟩
theorem Aa4(l:List Ag)(hl:l.length≤4194304):∃ r,E3 l 10=some r∧r.length=Dc l+1:=by
 unfold E3
 have ah:∀(d k m ae:Nat)(s:List (List Ag)),l.length-k=d→k≤l.length→d<m→ae≤k→s.length=Dc (l.take k)→∃ r,DN l 10 m s (ae:Int) (k:Int)=some r∧r.length=Dc l+1:=by
  intro d
  induction d with
  | zero =>
   intro k m fr s hd v hm hf f
   have:k=l.length:=by omega
   subst this
   rw [List.take_length] at f
   have hc:Dc l≤l.length:=List.count_le_length
   cases m with
   | zero=>omega
   | succ m =>
    rw [DN,if_neg (by simp),V3 _ (by omega),Aa,Bg (by simp; omega),Aa]
    exact ⟨_,rfl,by simp; omega⟩
  | succ d g =>
   intro k m fr s hd v hm hf f
   have aa:k<l.length:=by omega
   have hc:Dc (l.take k)≤(l.take k).length:=List.count_le_length
   have am:(l.take k).length≤k:=List.length_take_le k l
   have ht:Dc (l.take (k+1))=Dc (l.take k)+(if l[k]=10 then 1 else 0):=by
    unfold Dc
    rw [List.take_add_one,BP aa,List.count_append]
    by_cases h:l[k]=10 <;> simp [h]
   cases m with
   | zero=>omega
   | succ m =>
    rw [DN,if_pos (by simp; omega)]
    unfold Fx
    dsimp only
    rw [Ic aa,Aa]
    by_cases h:l[k]=10
    obtain ⟨u,hu⟩:=Adm l hf v
    rw [h,if_pos (by decide),hu,Aa,Bg (by simp; omega),Aa,AC (by omega)]
    exact g (k+1) m (k+1) _ (by omega) (by omega) (by omega) (by omega) (by rw [ht,if_pos h]; simp; omega)
    have ai:((l[k].toNat:Nat):Int)≠10:=fun e=>h (by
     have:l[k].toNat=10:=by omega
     exact UInt8.toNat_inj.1 (by rw [this]; rfl))
    rw [if_neg (by simpa using ai),AC (by omega)]
    exact g (k+1) m fr s (by omega) (by omega) (by omega) (by omega) (by rw [ht,if_neg h]; simpa using f)
 exact ah l.length 0 FU 0 [] rfl (by omega) (Dw (by omega)) (by omega) (by simp [Dc])
def BH(l:List Ag):Bool:=decide (l.length≤2000)&&(decide (l=[])||decide (l.getLast? = some 10))&&decide (Dc l≤40)
theorem Ps{l:List Ag}(h:l≠[]):∃ b,AG l ((l.length:Int)-1)=some b∧l.getLast? = some b∧l=l.take (l.length-1)++[b]:=by
 have f:0<l.length:=List.length_pos_iff.2 h
 have e:l.length-1<l.length:=by omega
 refine ⟨l[l.length-1],?_,?_,?_⟩
 rw [show (l.length:Int)-1=((l.length-1:Nat):Int) by omega,Ic e]
 rw [List.getLast?_eq_getElem?,BP e]
 conv=>lhs; rw [← List.take_append_drop (l.length-1) l]
 rw [List.drop_eq_getElem_cons e,List.drop_eq_nil_of_le (by omega)]
theorem P3(l:List Ag)(hl:l.length≤4194304):∃ r,FE l=some (r,BH l):=by
 unfold FE Bf BH
 dsimp only
 by_cases h1:l.length≤2000
 rw [if_neg (by simp; omega)]
 have ac:∃ r,(Option.bind (E3 l 10) fun u=>Option.bind (sl u 0 (Ah ((List.length u:Int)-1))) fun m=>(if (decide (40<(List.length m:Int)))=true then some (([]:List (List Ag)),false) else some (m,true)))=some (r,decide (Dc l≤40)):=by
  obtain ⟨r,g,ae⟩:=Aa4 l hl
  have hc:Dc l≤l.length:=List.count_le_length
  rw [g,Aa,AA (by omega) (by omega),show ((r.length:Int)-1)=((Dc l:Nat):Int) by omega,Mt _ (by omega),Aa]
  by_cases s:Dc l≤40
  rw [if_neg (by simp; omega)]; exact ⟨r.take (Dc l),by simp [s]⟩
  rw [if_pos (by simp; omega)]; exact ⟨[],by simp [s]⟩
 obtain ⟨r,g⟩:=ac
 by_cases f:l=[]
 rw [if_neg (by simp [f]),if_neg (by simp),g]
 exact ⟨r,by simp [f]⟩
 obtain ⟨b,hb,v,_⟩:=Ps f
 rw [if_pos (by simp [f]),AA (by omega) (by omega),hb,Aa,v]
 by_cases h:b=10
 subst h
 rw [if_neg (by decide),g]
 exact ⟨r,by simp [h1]⟩
 have aa:((b.toNat:Nat):Int)≠10:=fun e=>h (by
  have:b.toNat=10:=by omega
  exact UInt8.toNat_inj.1 (by rw [this]; rfl))
 rw [if_pos (by simpa using aa)]
 exact ⟨[],by simp [f,h]⟩
 rw [if_pos (by simp; omega)]
 exact ⟨[],by simp [h1]⟩
theorem MW(l:List Ag)(hl:l.length≤4194304):∃ r,DX l=some (r,BH l):=by
 unfold DX JA Bf BH
 dsimp only
 by_cases f:l=[]
 subst f
 exact ⟨[],by simp [Dc]⟩
 obtain ⟨b,v,m,e⟩:=Ps f
 have hp:0<l.length:=List.length_pos_iff.2 f
 rw [if_neg (by simpa using f),AA (by omega) (by omega),v,Aa,m]
 by_cases g:b=10
 subst g
 obtain ⟨r,s,ab⟩:=Aef (l.take (l.length-1)) (by simp; omega)
 have aa:Dc l=Dc (l.take (l.length-1))+1:=by
  unfold Dc
  conv=>lhs; rw [e]
  rw [List.count_append]
  simp
 rw [if_neg (by decide),show (l.length:Int)-1=((l.length-1:Nat):Int) by omega,Mt _ (by omega),Aa,s,Aa,Aa]
 by_cases h1:l.length≤2000
 by_cases h:Dc l≤40
 rw [if_neg (by simp),if_neg (by simp; omega),if_neg (by simp; omega)]
 exact ⟨r,by simp [h1,h]⟩
 rw [if_neg (by simp),if_neg (by simp; omega),if_pos (by simp; omega)]
 exact ⟨[],by simp [h]⟩
 rw [if_neg (by simp),if_pos (by simp; omega),if_pos rfl]
 exact ⟨[],by simp [h1]⟩
 have u:((b.toNat:Nat):Int)≠10:=fun e=>g (by
  have:b.toNat=10:=by omega
  exact UInt8.toNat_inj.1 (by rw [this]; rfl))
 rw [if_pos (by simpa using u),Aa,if_pos (by simp),if_pos rfl]
 exact ⟨[],by simp [f,g]⟩
def Rh(a b:List Ag):List Ag×Bool:=if BH a&&BH b&&BH (a++b) then (a++b,true) else ([],false)
theorem Uu(a b:List Ag)(g:a.length≤1048576)(h:b.length≤1048576):IB a b=some (Rh a b):=by
 unfold IB Rh Bf
 dsimp only
 obtain ⟨r1,h1⟩:=P3 a (by omega)
 obtain ⟨r2,e⟩:=P3 b (by omega)
 obtain ⟨l,f⟩:=P3 (a++b) (by simp; omega)
 rw [h1,Aa,e,Aa,Bg (by omega),Aa,f,Aa]
 cases BH a <;> cases BH b <;> cases BH (a++b) <;> simp
theorem U5(a b:List Ag)(g:a.length≤1048576)(h:b.length≤1048576):IH a b=some (Rh a b):=by
 unfold IH Rh Bf
 dsimp only
 obtain ⟨r1,h1⟩:=MW a (by omega)
 obtain ⟨r2,e⟩:=MW b (by omega)
 obtain ⟨l,f⟩:=MW (a++b) (by simp; omega)
 rw [h1,Aa,e,Aa,Bg (by omega),Aa,f,Aa]
 cases BH a <;> cases BH b <;> cases BH (a++b) <;> simp
def Ie(b:Ag):Bool:=decide (48≤b.toNat)&&decide (b.toNat≤57)
def QA(l:List Ag):Int:=l.foldl (fun a b=>10*a+((b.toNat:Int)-48)) 0
theorem Uk{d:Nat}(h:d<10):(UInt8.ofNat (48+d)).toNat=48+d:=by
 rw [UInt8.toNat_ofNat']
 omega
theorem SX{u:Nat}(h:u<10):Lib.decDigits u=[UInt8.ofNat (48+u)]:=Lib.decDigits_one h
theorem Aap{u:Nat}(h:¬ u<10):Lib.decDigits u=Lib.decDigits (u / 10)++[UInt8.ofNat (48+u%10)]:=by
 rw [Lib.decDigits,dif_neg h]
theorem Xy:∀(k u:Nat),u<10 ^ (k+1)→(∀ b ∈ Lib.decDigits u,Ie b=true)∧QA (Lib.decDigits u)=u∧1≤(Lib.decDigits u).length∧(Lib.decDigits u).length≤k+1 ∧
  (0<u→∀ b,(Lib.decDigits u)[0]? = some b→b.toNat≠48):=by
 intro k
 induction k with
 | zero =>
  intro u l
  have h:u<10:=by simpa using l
  rw [SX h]
  have:=Uk h
  refine ⟨fun b e=>?_,?_,by simp,by simp,fun h0 b e=>?_⟩
  rw [List.mem_singleton.1 e]
  unfold Ie
  rw [this]
  simp
  omega
  unfold QA
  simp only [List.foldl_cons,List.foldl_nil,this]
  omega
  rw [List.getElem?_cons_zero,Option.some.injEq] at e
  rw [← e,this]
  omega
 | succ k s =>
  intro u l
  by_cases h:u<10
  obtain ⟨m,f,v,a4,g⟩:=s u (Nat.lt_of_lt_of_le h (by rw [Nat.pow_succ]; have:=Nat.pow_pos (n:=k) (show 0<10 by omega); omega))
  exact ⟨m,f,v,by omega,g⟩
  have hd:u / 10<10 ^ (k+1):=by rw [Nat.pow_succ] at l; omega
  obtain ⟨m,f,v,a4,g⟩:=s (u / 10) hd
  have hm:u%10<10:=by omega
  have:=Uk hm
  rw [Aap h]
  refine ⟨fun b e=>?_,?_,by simp,by simp; omega,fun h0 b e=>?_⟩
  rcases AV.1 e with e|e
  exact m b e
  rw [List.mem_singleton.1 e]
  unfold Ie
  rw [this]
  simp
  omega
  unfold QA at f ⊢
  rw [List.foldl_append,List.foldl_cons,List.foldl_nil,f,this]
  omega
  rw [List.getElem?_append_left (by omega)] at e
  exact g (by omega) b e
theorem Adc:∀(l:List Ag)(a:Int),(∀ b ∈ l,Ie b=true)→0≤a→0≤l.foldl (fun a b=>10*a+((b.toNat:Int)-48)) a∧l.foldl (fun a b=>10*a+((b.toNat:Int)-48)) a<(a+1)*10 ^ l.length
 | [],a,_,h=>by simp; omega
 | b::l,a,hd,h=>by
  have e:=hd b (by simp)
  unfold Ie at e
  simp only [Cq,C9] at e
  obtain ⟨h1,m⟩:=Adc l (10*a+((b.toNat:Int)-48)) (fun c f=>hd c (by simp [f])) (by omega)
  rw [List.foldl_cons,List.length_cons,Int.pow_succ]
  refine ⟨h1,Int.lt_of_lt_of_le m ?_⟩
  have g:(0:Int)≤10 ^ l.length:=Int.le_of_lt (Int.pow_pos (by omega))
  have u:(10*a+((b.toNat:Int)-48)+1)*10 ^ l.length≤((a+1)*10)*10 ^ l.length:=Int.mul_le_mul_of_nonneg_right (by omega) g
  have s:(a+1)*(10 ^ l.length*10)=((a+1)*10)*10 ^ l.length:=by rw [Int.mul_comm (10 ^ l.length) 10,Int.mul_assoc]
  omega
def CP(c:Ag):List Ag→List (List Ag)
 | []=>[[]]
 | b::l=>if b=c then []::CP c l else match CP c l with
  | []=>[[b]]
  | h::t=>(b::h)::t
theorem Ot{c:Ag}:∀{l:List Ag},c ∉ l→CP c l=[l]
 | [],_=>rfl
 | b::l,h=>by
  rw [List.mem_cons,not_or] at h
  rw [CP,if_neg (fun e=>h.1 e.symm),Ot h.2]
theorem Ou{c:Ag}:∀{A B:List Ag},c ∉ A→CP c (A++c::B)=A::CP c B
 | [],B,_=>by rw [List.nil_append,CP,if_pos rfl]
 | b::A,B,h=>by
  rw [List.mem_cons,not_or] at h
  rw [List.cons_append,CP,if_neg (fun e=>h.1 e.symm),Ou h.2]
theorem I4(c:Ag):∀ l:List Ag,(CP c l).length=l.count c+1
 | []=>rfl
 | b::l=>by
  have e:=I4 c l
  rw [CP]
  by_cases h:b=c
  rw [if_pos h,List.length_cons,e,List.count_cons,if_pos (by simp [h])]
  rw [if_neg h,List.count_cons,if_neg (by simpa using h)]
  cases f:CP c l with
  | nil=>rw [f] at e; simp at e
  | cons a t=>rw [f] at e; simpa using e
theorem Acn{α:Type}(l:List α){k:Nat}(h:k≤l.length):sl l 0 (k:Int)=some (l.take k):=KS l h
theorem SD{α:Type}(l:List α){k:Nat}(h:k≤l.length):sl l (k:Int) (List.length l:Int)=some (l.drop k):=by
 unfold sl
 rw [if_pos (by omega)]
 simp
theorem Aco(c:Ag):(UInt8.toNat c:Int).toNat.toUInt8=c:=by
 rw [Int.toNat_natCast]
 exact UInt8.ofNat_toNat
theorem Ni{b c:Ag}(h:b≠c):((b.toNat:Nat):Int)≠(c.toNat:Int):=fun e=>h (UInt8.toNat_inj.1 (by omega))
theorem Af6(l:List Ag)(c:Ag):(MY l (c.toNat:Int)=-1∧c ∉ l)∨∃ A B,l=A++c::B∧c ∉ A∧MY l (c.toNat:Int)=(A.length:Int):=by
 unfold MY
 rw [Aco]
 cases h:(List.range l.length).find? (fun i=>l[i]? == some c) with
 | none =>
  left
  refine ⟨rfl,fun g=>?_⟩
  obtain ⟨k,f,e⟩:=List.getElem_of_mem g
  have:=List.find?_eq_none.1 h k (List.mem_range.2 f)
  rw [BP f,e] at this
  simp at this
 | some i =>
  right
  have m:=List.find?_some h
  have hi:i<l.length:=List.mem_range.1 (List.mem_of_find?_eq_some h)
  have he:l[i]=c:=by
   rw [BP hi] at m
   simpa using m
  have v:c ∉ l.take i:=by
   intro g
   obtain ⟨k,f,e⟩:=List.getElem_of_mem g
   rw [List.getElem_take] at e
   have u:k<i:=by simp at f; omega
   have aa:k<l.length:=by omega
   have s:=(List.find?_range_eq_some.1 h).2.2 k u
   rw [BP aa,e] at s
   simp at s
  have hl:l=l.take i++c::l.drop (i+1):=by
   conv=>rhs; rw [← he]
   rw [List.getElem_cons_drop,List.take_append_drop]
  exact ⟨l.take i,l.drop (i+1),hl,v,by simp; omega⟩
theorem Zd{c:Ag}:∀{A A' B B':List Ag},c ∉ A→c ∉ A'→A++c::B=A'++c::B'→A=A'∧B=B'
 | [],[],B,B',_,_,e=>by simpa using e
 | [],a::A',B,B',_,h,e=>by
  rw [List.nil_append,List.cons_append,List.cons.injEq] at e
  exact absurd (by rw [e.1]; simp) h
 | a::A,[],B,B',h,_,e=>by
  rw [List.nil_append,List.cons_append,List.cons.injEq] at e
  exact absurd (by rw [e.1]; simp) h
 | a::A,a'::A',B,B',h,h',e=>by
  rw [List.cons_append,List.cons_append,List.cons.injEq] at e
  rw [List.mem_cons,not_or] at h h'
  obtain ⟨g,f⟩:=Zd h.2 h'.2 e.2
  exact ⟨by rw [e.1,g],f⟩
theorem Aek{A B:List Ag}{c:Ag}(h:c ∉ A):MY (A++c::B) (c.toNat:Int)=(A.length:Int):=by
 rcases Af6 (A++c::B) c with ⟨_,f⟩|⟨A',B',e,g,l⟩
 exact absurd (by simp) f
 rw [l,(Zd h g e).1]
theorem Agr(l:List Ag)(c:Ag):GL l [c]=some (MY l (c.toNat:Int)):=by
 unfold GL Ig GF Bf
 dsimp only
 by_cases h:l=[c]
 subst h
 have:=Aek (A:=[]) (B:=[]) (c:=c) (by simp)
 rw [List.nil_append] at this
 rw [this]
 simp
 have f:([c]==l)=false:=by
  rw [beq_eq_false_iff_ne]
  exact fun e=>h e.symm
 rw [if_neg (by simp),f,if_neg (by simp),if_pos (by simp)]
 rfl
theorem Ags(l:List Ag)(c:Ag):H9 l [c]=some ((l.count c:Nat):Int):=by
 unfold H9
 rw [if_neg (by simp),if_pos (by simp)]
 show some (Abr l (UInt8.toNat c:Int))=_
 unfold Abr
 rw [Aco]
theorem Af5{α:Type}(L:List α)(i:Nat)(x:α)(h:i<L.length):(BL L (i:Int) x).take (i+1)=L.take i++[x]:=by
 unfold BL
 rw [Int.toNat_natCast,List.take_add_one,List.getElem?_set_self h,List.take_set_of_le (Nat.le_refl _)]
 rfl
theorem ZW(l:List Ag)(c:Ag)(hl:l.length≤4194304):Ff l [c]=some (CP c l):=by
 have hc:l.count c≤l.length:=List.count_le_length
 unfold Ff I8 Bf Sa
 dsimp only
 have h:Fq ((l.count c:Int)+1) ((l.length:Int)+1)=((l.count c+1:Nat):Int):=by
  unfold Fq
  split <;> omega
 rw [if_neg (by simp),if_neg (by simp),if_pos (by simp),Ags,Aa,AA (x:=((l.count c:Nat):Int)+1) (by omega) (by omega),AA (x:=(List.length l:Int)+1) (by omega) (by omega),h,Oe (by omega),Aa]
 have am:∀(d i m:Nat)(y:List Ag)(L:List (List Ag)),l.count c-i=d→i≤l.count c→d<m→y.count c=d→L.length=l.count c+1→y.length≤4194304 →
   Di ((l.count c:Int)+1) l [c] (fun ad u g=>Option.bind (AG u g) fun aq=>Option.bind (sl (BL u g ad) 0 (Ah (g+1))) fun ae=>some ae) 0 m y L (i:Int)=some (L.take i++CP c y):=by
  intro d
  induction d with
  | zero =>
   intro i m y L hd hi hm f v ao
   have:i=l.count c:=by omega
   subst this
   cases m with
   | zero=>omega
   | succ m =>
    rw [Di,AA (x:=(List.length l:Int)+1) (by omega) (by omega),h,AA (x:=((l.count c+1:Nat):Int)-1) (by omega) (by omega),if_neg (by simp <;> omega),Ic (by omega),Aa,AC (by omega),Acn _ (by simp [BL]; omega),Aa,Af5 _ _ _ (by omega),Ot (List.count_eq_zero.1 f)]
  | succ d ih =>
   intro i m y L hd hi hm f v ao
   cases m with
   | zero=>omega
   | succ m =>
    rcases Af6 y c with ⟨_,h0⟩|⟨A,B,e,s,hx⟩
    rw [List.count_eq_zero.2 h0] at f; omega
    have ar:y.length=A.length+(B.length+1):=by rw [e]; simp
    have hB:y.drop (A.length+1)=B:=by rw [e,show A++c::B=(A++[c])++B by simp]; exact List.drop_left' (by simp)
    have an:y.take A.length=A:=by rw [e]; exact List.take_left' rfl
    have al:B.count c=d:=by
     rw [e,List.count_append,List.count_eq_zero.2 s,List.count_cons_self] at f
     omega
    rw [Di,AA (x:=(List.length l:Int)+1) (by omega) (by omega),h,AA (x:=((l.count c+1:Nat):Int)-1) (by omega) (by omega),if_pos (by simp <;> omega),Agr,Aa,hx,if_neg (by simp),AA (x:=(A.length:Int)+0) (by omega) (by omega),Int.add_zero,Acn _ (by omega),Aa,Ic (by omega),Aa]
    rw [show (List.length ([c]:List Ag):Int)=1 by rfl,AC (by omega),SD _ (by omega),Aa,AC (by omega),hB,an]
    rw [ih (i+1) m B _ (by omega) (by omega) (by omega) al (by simp [BL]; exact v) (by omega),Af5 _ _ _ (by omega)]
    conv=>rhs; rw [e]
    rw [Ou s,List.append_assoc]
    rfl
 have hr:=am (l.count c) 0 FU l (List.replicate (l.count c+1) []) (by omega) (by omega) (Dw (by omega)) rfl (by simp) hl
 rw [show ((0:Nat):Int)=0 by rfl] at hr
 rw [hr]
 rfl
def BW(a lo hi:Int):Bool:=decide (lo≤a)&&decide (a≤hi)
theorem Dg(a e f:Int):Ca a e f=some (BW a e f):=by
 unfold Ca Bf BW
 by_cases h:e≤a <;> simp [h]
theorem Df(a e f:Int):Ck a e f=some (BW a e f):=by
 unfold Ck Bf BW
 by_cases h:e≤a <;> simp [h]
def Dk(s:Int×Int):Bool:=BW s.1 0 1280&&BW s.2 0 672
theorem Q5(s:Int×Int):IZ s=some (Dk s):=by
 unfold IZ Bf Dk
 dsimp only
 rw [Dg,Aa,Dg]
 cases BW s.1 0 1280 <;> simp
theorem ME(s:Int×Int):Hd s=some (Dk s):=by
 unfold Hd Bf Dk
 dsimp only
 rw [Df,Aa,Df]
 cases BW s.1 0 1280 <;> simp
theorem Uj(x y:Int×Int):Lv x y=decide (x=y):=by
 obtain ⟨a,b⟩:=x
 obtain ⟨c,d⟩:=y
 simp [Lv]
 by_cases h1:a=c <;> by_cases e:b=d <;> simp [h1,e]
def RC(l:List (Int×Int))(k:Nat):Bool:=match l[k]? with
 | some s=>Dk s&&(l.take k).all (fun u=>!decide (s=u))
 | none=>true
theorem PK{l:List (Int×Int)}{k:Nat}{s:Int×Int}(h:l[k]? = some s):RC l k=(Dk s&&(l.take k).all (fun u=>!decide (s=u))):=by
 unfold RC
 rw [h]
def C4(l:List (Int×Int)):Bool:=BW (l.length:Int) 1 12&&(List.range l.length).all (RC l)
theorem KJ(l:List (Int×Int))(h:l.length<4611686018427387904):G3 l=some (C4 l):=by
 unfold G3
 rw [N3 (EG l) l.length (RC l) (some (BW (l.length:Int) 1 12)) (some false) h (fun m k f=>?_) (fun m=>?_)]
 unfold C4
 cases (List.range l.length).all (RC l) <;> simp
 obtain ⟨s,e⟩:∃ s,l[k]? = some s:=⟨_,BP f⟩
 rw [EG,if_pos (by simp; omega),AY,e,Aa,Q5,Aa,PK e]
 cases Dk s with
 | false=>simp
 | true =>
  rw [if_neg (by simp),KS l (by omega),Aa,Bool.true_and]
  have ab:(l.take k).length=k:=by simp; omega
  rw [Ow (Gu (l.take k) s (EG l m) (k:Int)) (l.take k) (fun u=>!decide (s=u)) (EG l m ((k+1:Nat):Int)) (some false) (by omega) (fun v j x hj g=>?_) (fun v=>?_)]
  rw [Gu,if_pos (by simp; omega),AY,g,Aa,Uj,AC (by omega)]
  by_cases hq:s=x <;> simp [hq]
  rw [Gu,if_neg (by simp),AC (by omega)]
 rw [EG,if_neg (by simp),Dg]
 rfl
theorem XE(l:List (Int×Int))(s:Int×Int)(hl:l.length<4611686018427387904):D0 l s=some (!l.all (fun u=>!decide (s=u))):=by
 unfold D0 EV
 have ab:∀ d k m,l.length-k=d→k≤l.length→l.length-k<m→∃ i,Cz l s m (k:Int)=some i∧decide (0≤i)=!(l.drop k).all (fun u=>!decide (s=u)):=by
  intro d
  induction d with
  | zero =>
   intro k m hd hk v
   cases m with
   | zero=>omega
   | succ m =>
    rw [Cz,if_neg (by simp; omega)]
    exact ⟨-1,rfl,by rw [List.drop_eq_nil_of_le (by omega)]; simp⟩
  | succ d h =>
   intro k m hd hk v
   cases m with
   | zero=>omega
   | succ m =>
    have g:k<l.length:=by omega
    rw [Cz,if_pos (by simp; omega),Ic g,Aa,Uj,AC (by omega),List.drop_eq_getElem_cons g,List.all_cons]
    by_cases e:s=l[k]
    exact ⟨k,by simp [e],by simp [e]⟩
    rw [if_neg (by simp [e])]
    obtain ⟨i,h1,f⟩:=h (k+1) m (by omega) (by omega) (by omega)
    exact ⟨i,h1,by simp [e,f]⟩
 obtain ⟨i,h1,f⟩:=ab _ 0 FU rfl (by omega) (Dw (by omega))
 rw [show ((0:Nat):Int)=0 from rfl] at h1
 rw [h1,Aa,f]
 simp
theorem GW(l:List (Int×Int))(g:l.length<4611686018427387904):DD l=some (C4 l):=by
 unfold DD C4
 rw [Df,Aa]
 cases h:BW (l.length:Int) 1 12 with
 | false=>simp
 | true =>
  rw [if_neg (by simp),N3 (FZ l) l.length (RC l) (some true) (some false) g (fun m k f=>?_) (fun m=>?_)]
  cases (List.range l.length).all (RC l) <;> simp
  obtain ⟨s,e⟩:∃ s,l[k]? = some s:=⟨_,BP f⟩
  rw [FZ,if_pos (by simp; omega),AY,e,Aa]
  unfold Bf
  dsimp only
  rw [PK e,ME,Aa]
  rw [KS l (by omega),Aa,XE _ _ (by simp; omega),Aa,AC (by omega)]
  cases Dk s with
  | false=>simp
  | true=>simp only [Bool.not_true,Bool.false_eq_true,if_false,Bool.true_and]; cases (List.take k l).all (fun u=>!decide (s=u)) <;> simp
  rw [FZ,if_neg (by simp)]
def YE(l:List Int):Bool:=l.all fun u=>BW u 1 64
theorem Ql(x:Int):HP x=some (BW x 0 80):=by
 unfold HP
 rw [Dg]; rfl
theorem SR(x:Int):JB x=some (BW x 0 80):=by
 unfold JB
 rw [Df]; rfl
def Yz(cs:List Akg):Bool:=cs.all fun c=>C4 c&&(match cs[0]? with|some d=>decide (c.length=d.length)|none=>true)
abbrev VH:=(List Akg)×(List Int)×Int×Int
def Adb(x:VH):Bool:=BW (x.1.length:Int) 2 8&&decide (x.2.1.length+1=x.1.length)&&Yz x.1&&YE x.2.1&&BW x.2.2.1 0 80&&BW x.2.2.2 1 24
theorem Lw{b:Ag}:Ie b=true↔48≤b.toNat∧b.toNat≤57:=by
 unfold Ie
 simp
theorem Xd{b:Ag}(h:Ie b=true):Ah (NP ((b.toNat:Int)-48))=(b.toNat:Int)-48:=by
 have:=Lw.1 h
 have e:NP ((b.toNat:Int)-48)=(b.toNat:Int)-48:=by
  unfold NP
  show ((b.toNat:Int)-48)%256=_
  omega
 rw [e,AA (by omega) (by omega)]
def Nz(l:List Ag):Int×Bool:=if l=[]∨9<l.length∨(1<l.length∧l[0]? = some 48) then (0,false) else if l.all Ie then (QA l,true) else (0,false)
theorem YW(l:List Ag)(n:Int)(i:Nat)(g:0≤n)(h:n<10 ^ i)(m:i+l.length≤9):n≤1000000000:=by
 have:(10:Nat) ^ i≤10 ^ 9:=Nat.pow_le_pow_right (by omega) (by omega)
 have f:((10 ^ i:Nat):Int)≤((10 ^ 9:Nat):Int):=Int.ofNat_le.2 this
 rw [Int.natCast_pow] at f
 have e:((10 ^ 9:Nat):Int)=1000000000:=by decide
 rw [e] at f
 exact Int.le_of_lt (Int.lt_of_lt_of_le h f)
theorem Ae1(l:List Ag)(h9:l.length≤9):∀(d i m:Nat)(n:Int),l.length-i=d→i≤l.length→d<m→0≤n→n<10 ^ i →
  FW l m n (i:Int)=some (if (l.drop i).all Ie then ((l.drop i).foldl (fun a b=>10*a+((b.toNat:Int)-48)) n,true) else (0,false)):=by
 intro d
 induction d with
 | zero =>
  intro i m n v hi s f h1
  have:i=l.length:=by omega
  subst this
  cases m with
  | zero=>omega
  | succ m =>
   rw [FW,if_neg (by simp),List.drop_length]
   rfl
 | succ d h =>
  intro i m n v hi s f h1
  cases m with
  | zero=>omega
  | succ m =>
   have g:i<l.length:=by omega
   have hb:=YW (l.drop i) n i f h1 (by simp; omega)
   rw [FW,if_pos (by simp; omega)]
   unfold Bf
   dsimp only
   rw [Ic g,Aa,Aa]
   rw [List.drop_eq_getElem_cons g,List.all_cons,List.foldl_cons]
   by_cases e:Ie l[i]=true
   have u:=Lw.1 e
   rw [if_neg (by simp; omega),Aa,if_neg (by simp; omega),e,Bool.true_and,Xd e,AA (x:=10*n) (by omega) (by omega),AA (x:=10*n+_) (by omega) (by omega),AC (by omega)]
   refine h (i+1) m _ (by omega) (by omega) (by omega) (by omega) ?_
   rw [Int.pow_succ]
   omega
   have u:¬ (48≤l[i].toNat∧l[i].toNat≤57):=fun x=>e (Lw.2 x)
   have hf:Ie l[i]=false:=by simpa using e
   rw [hf,Bool.false_and,if_neg (c:=false=true) (by simp)]
   by_cases ac:l[i].toNat<48
   rw [if_pos (by simp; omega),if_pos rfl]
   rw [if_neg (by simp; omega),Aa,if_pos (by simp; omega)]
theorem YS(l:List Ag)(h:l.length<4611686018427387904):Lh l=some (Nz l):=by
 unfold Lh Nz Bf
 dsimp only
 by_cases f:l=[]
 rw [if_pos (by simp [f]),if_pos rfl,if_pos (Or.inl f)]
 rw [if_neg (by simpa using f)]
 by_cases m:9<l.length
 rw [if_pos (by simp; omega),if_pos rfl,if_pos (Or.inr (Or.inl m))]
 rw [if_neg (by simp; omega)]
 have v:0<l.length:=List.length_pos_iff.2 f
 have u:=Ae1 l (by omega) l.length 0 FU 0 rfl (by omega) (Dw (by omega)) (by omega) (by simp)
 rw [show ((0:Nat):Int)=0 by rfl] at u
 by_cases h1:1<l.length
 rw [if_pos (by simp; omega),U7,BP v,Aa]
 by_cases g:l[0]=48
 rw [g,if_pos (by decide),if_pos (Or.inr (Or.inr ⟨h1,rfl⟩))]
 have:((l[0].toNat:Int)==48)=false:=by
  rw [beq_eq_false_iff_ne]
  exact Ni (c:=48) g
 have s:¬ (l=[]∨9<l.length∨(1<l.length∧some l[0]=some 48)):=by
  rintro (e|e|⟨_,e⟩)
  exact f e
  exact m e
  exact g (Option.some.inj e)
 rw [this,if_neg (by simp),u,if_neg s]
 rfl
 have s:¬ (l=[]∨9<l.length∨(1<l.length∧l[0]? = some 48)):=by
  rintro (e|e|⟨e,_⟩)
  exact f e
  exact m e
  exact h1 e
 rw [if_neg (by simp; omega),if_neg (by simp),u,if_neg s]
 rfl
theorem Eb{a e f:Int}:BW a e f=true↔e≤a∧a≤f:=by simp [BW]
theorem G6{s:Int×Int}:Dk s=true↔(0≤s.1∧s.1≤1280)∧0≤s.2∧s.2≤672:=by
 unfold Dk
 rw [Cq,Eb,Eb]
theorem Qp{α:Type}{l m:List α}(h:l.length+m.length≤1073741824):BB l m=some (l++m):=by
 unfold BB
 rw [if_pos h]
def O1(n:Int):List Ag:=Lib.decDigits (n.toNat / 8)++if 0<n.toNat%8 then 43::Lib.decDigits (n.toNat%8) else []
def R5(s:Int×Int):List Ag:=O1 s.1++44::O1 s.2
theorem HN{k u:Nat}(h:u<10 ^ (k+1)):(Lib.decDigits u).length≤k+1:=(Xy k u h).2.2.2.1
theorem MV{n:Int}(h:0≤n)(e:n≤9223372036854775807):Dn n=some (Lib.decDigits n.toNat):=by
 unfold Dn Lib.itoa
 rw [if_pos (by omega),if_neg (by omega)]
theorem Nf{n:Int}(h:0≤n∧n≤1280):(O1 n).length≤5:=by
 unfold O1
 have h1:=HN (k:=2) (u:=n.toNat / 8) (by omega)
 have e:=HN (k:=0) (u:=n.toNat%8) (by omega)
 rw [Cy]
 split
 rw [List.length_cons]; omega
 simp; omega
theorem Ri{n:Int}(h:0≤n∧n≤1280):Iv n=some (O1 n):=by
 have h1:=HN (k:=2) (u:=n.toNat / 8) (by omega)
 have f:=HN (k:=0) (u:=n.toNat%8) (by omega)
 unfold Iv O1 Bf
 dsimp only
 rw [Int.tdiv_eq_ediv_of_nonneg h.1,Int.tmod_eq_emod_of_nonneg h.1,AA (by omega) (by omega),MV (by omega) (by omega),Aa,show (n / 8).toNat=n.toNat / 8 by omega]
 by_cases e:0<n.toNat%8
 rw [if_pos (by simp; omega),MV (by omega) (by omega),Aa,show (n%8).toNat=n.toNat%8 by omega,Qp (by simp; omega),Aa,Qp (by simp; omega),Aa,if_pos e]
 rfl
 rw [if_neg (by simp; omega),if_neg e,List.append_nil]
theorem XD{s:Int×Int}(h:Dk s=true):KD s=some (R5 s,true):=by
 unfold KD
 rw [ME,Aa,h,if_neg (by simp)]
 have g:=G6.1 h
 have e:=Nf (n:=s.1) (by omega)
 have f:=Nf (n:=s.2) (by omega)
 rw [Ri (by omega),Aa,Qp (by simp; omega),Aa,Ri (by omega),Aa,Qp (by simp; omega),Aa]
 unfold R5
 rw [List.append_assoc]
 rfl
theorem Acd{s:Int×Int}(h:Dk s=true):(R5 s).length≤11:=by
 have g:=G6.1 h
 have e:=Nf (n:=s.1) (by omega)
 have f:=Nf (n:=s.2) (by omega)
 unfold R5
 rw [Cy,List.length_cons]
 omega
theorem RB{a e f:Int}:BW a e f=true↔e≤a∧a≤f:=by simp [BW]
structure Ad8 (x:VH):Prop where
 n0:2≤x.1.length
 n1:x.1.length≤8
 nc:x.2.1.length+1=x.1.length
 ch:∀ c ∈ x.1,C4 c=true
 cl:∀ c ∈ x.1,1≤c.length∧c.length≤12
 ce:∀ c ∈ x.1,∀ d,x.1[0]? = some d→c.length=d.length
 cn:∀ u ∈ x.2.1,1≤u∧u≤64
 le:0≤x.2.2.1∧x.2.2.1≤80
 st:1≤x.2.2.2∧x.2.2.2≤24
theorem ZH{c:List (Int×Int)}(h:C4 c=true):1≤c.length∧c.length≤12:=by
 unfold C4 at h
 rw [Cq,RB] at h
 omega
theorem Ake{x:VH}(h:Adb x=true):Ad8 x:=by
 unfold Adb Yz YE at h
 simp only [Cq,RB,C9,List.all_eq_true] at h
 obtain ⟨⟨⟨⟨⟨h1,u⟩,f⟩,m⟩,l⟩,g⟩:=h
 refine ⟨by omega,by omega,u,fun c e=>(f c e).1,fun c e=>ZH (f c e).1,fun c e d s=>?_,m,l,g⟩
 have:=(f c e).2
 rw [s] at this
 simpa using this
theorem Zq{α:Type}{l m:List α}(h:l.length+m.length≤1073741824):BB l m=some (l++m):=by
 unfold BB
 rw [if_pos h]
abbrev GK:=(Int×Int)×(Int×Int)×Int
def H3(a b:Int×Int):Int:=Ah ((Ah ((Ah (a.1-b.1))*(Ah (a.1-b.1))))+(Ah ((Ah (a.2-b.2))*(Ah (a.2-b.2)))))
theorem MN(a b:Int×Int):HA a b=some (H3 a b):=rfl
theorem HX(a b:Int×Int):E8 a b=some (H3 a b):=rfl
def Vd(m:GK):Int:=H3 m.1 m.2.1
theorem N0{x y A B:Int}(h1:-A≤x)(g:x≤A)(l:-B≤y)(f:y≤B):-(A*B)≤x*y∧x*y≤A*B:=by
 have h:(x*y).natAbs≤A.toNat*B.toNat:=by rw [Int.natAbs_mul]; exact Nat.mul_le_mul (by omega) (by omega)
 have e:((A.toNat*B.toNat:Nat):Int)=A*B:=by
  rw [Int.natCast_mul,Int.toNat_of_nonneg (by omega),Int.toNat_of_nonneg (by omega)]
 omega
def Jt(a b:Int):Int×Int:=(Ah (Int.tdiv a (Nat.gcd a.toNat b.toNat:Int)),Ah (Int.tdiv b (Nat.gcd a.toNat b.toNat:Int)))
theorem Afd:∀(y x m:Nat),y<m→HF m (x:Int) (y:Int)=some ((Nat.gcd x y:Nat):Int):=by
 intro y
 induction y using Nat.strongRecOn with
 | _ y ih =>
  intro x m g
  cases m with
  | zero=>omega
  | succ m =>
   rw [HF]
   by_cases h:y=0
   subst h
   simp
   have e:((y:Int) != 0)=true:=by simp; omega
   have f:¬ (y:Int)=0:=by omega
   rw [if_pos e,if_neg f,← Int.ofNat_tmod,ih (x%y) (Nat.mod_lt _ (by omega)) y m (by have:=Nat.mod_lt x (show 0<y by omega); omega)]
   congr 2
   rw [Nat.gcd_comm x y,Nat.gcd_rec y x]
   exact Nat.gcd_comm _ _
theorem Ac5(a b:Int):∀(y x m:Nat),y<m→0<Nat.gcd x y→Hh a b m (x:Int) (y:Int)=some (Ah (Int.tdiv a (Nat.gcd x y:Int)),Ah (Int.tdiv b (Nat.gcd x y:Int))):=by
 intro y
 induction y using Nat.strongRecOn with
 | _ y ih =>
  intro x m u f
  cases m with
  | zero=>omega
  | succ m =>
   rw [Hh]
   by_cases h:y=0
   subst h
   have l:¬ x=0:=by simp at f; omega
   simp [l]
   have g:decide (0<(y:Int))=true:=by simp; omega
   have s:¬ (y:Int)=0:=by omega
   have e:Nat.gcd x y=Nat.gcd y (x%y):=by rw [Nat.gcd_comm x y,Nat.gcd_rec y x]; exact Nat.gcd_comm _ _
   rw [if_pos g,if_neg s,← Int.ofNat_tmod,ih (x%y) (Nat.mod_lt _ (by omega)) y m (by have:=Nat.mod_lt x (show 0<y by omega); omega) (by rw [← e]; exact f),e]
theorem MX(a b:Int)(h:0≤a)(m:a≤4000000000000000000)(s:0<b)(u:b≤1000000000000000):Gy a b=some (Jt a b):=by
 unfold Gy NI Jt
 have f:Gj a (Ah (0-a))=((a.toNat:Nat):Int):=by unfold Gj; rw [AA (by omega) (by omega)]; split <;> omega
 have g:Gj b (Ah (0-b))=((b.toNat:Nat):Int):=by unfold Gj; rw [AA (by omega) (by omega)]; split <;> omega
 rw [f,g,Afd b.toNat a.toNat FU (Dw (by omega)),Aa]
 have l:0<Nat.gcd a.toNat b.toNat:=Nat.gcd_pos_of_pos_right _ (by omega)
 have e:¬ ((Nat.gcd a.toNat b.toNat:Nat):Int)=0:=by omega
 rw [if_neg e,if_neg e]
theorem Ub(a b:Int)(l:0≤a)(m:a≤4000000000000000000)(s:0<b)(u:b≤1000000000000000):Ke a b=some (Jt a b):=by
 unfold Ke NF HY Jt
 have f:(if decide (Ah (0-a)<a)=true then some a else some (Ah (0-a)))=some ((a.toNat:Nat):Int):=by
  rw [AA (by omega) (by omega)]
  by_cases h:0-a<a
  rw [if_pos (by simp; omega)]; congr 1; omega
  rw [if_neg (by simp; omega)]; congr 1; omega
 have g:b=((b.toNat:Nat):Int):=by omega
 rw [f,Aa,Aa]
 have e:0<Nat.gcd a.toNat b.toNat:=Nat.gcd_pos_of_pos_right _ (by omega)
 have:=Ac5 a b b.toNat a.toNat FU (Dw (by omega)) e
 rw [← g] at this
 exact this
def Abc(px py qx qy:Int):Int×Int :=
 if 0≤px*(qx-px)+py*(qy-py) then (px*px+py*py,1)
 else if (qx-px)*(qx-px)+(qy-py)*(qy-py)≤0-(px*(qx-px)+py*(qy-py)) then (qx*qx+qy*qy,1)
 else Jt ((px*qy-py*qx)*(px*qy-py*qx)) ((qx-px)*(qx-px)+(qy-py)*(qy-py))
def Wj(a b:GK):Int×Int:=Abc (a.1.1-b.1.1) (a.1.2-b.1.2) (a.2.1.1-b.2.1.1) (a.2.1.2-b.2.1.2)
structure InB (px py qx qy:Int):Prop where
 a1:-1280≤px
 a2:px≤1280
 b1:-672≤py
 b2:py≤672
 c1:-1280≤qx
 c2:qx≤1280
 d1:-672≤qy
 d2:qy≤672
theorem NR{x A:Int}(h1:-A≤x)(e:x≤A):0≤x*x∧x*x≤A*A:=by
 have:=N0 h1 e h1 e
 refine ⟨?_,this.2⟩
 have:(0:Int)≤((x.natAbs*x.natAbs:Nat):Int):=Int.natCast_nonneg _
 rwa [Int.natAbs_mul_self] at this
structure Ajg (px py qx qy:Int):Prop where
 m1:-3276800≤px*(qx-px)∧px*(qx-px)≤3276800
 m2:-903168≤py*(qy-py)∧py*(qy-py)≤903168
 m3:0≤(qx-px)*(qx-px)∧(qx-px)*(qx-px)≤6553600
 m4:0≤(qy-py)*(qy-py)∧(qy-py)*(qy-py)≤1806336
 m5:0≤px*px∧px*px≤1638400
 m6:0≤py*py∧py*py≤451584
 m7:0≤qx*qx∧qx*qx≤1638400
 m8:0≤qy*qy∧qy*qy≤451584
 m9:-860160≤px*qy∧px*qy≤860160
 m10:-860160≤py*qx∧py*qx≤860160
 m11:0≤(px*qy-py*qx)*(px*qy-py*qx)∧(px*qy-py*qx)*(px*qy-py*qx)≤2959500902400
theorem Agd{e l s u:Int}(h:InB e l s u):Ajg e l s u:=by
 obtain ⟨v,g,m,f,c1,c2,d1,d2⟩:=h
 have m9:=N0 v g d1 d2
 have ae:=N0 m f c1 c2
 have ah:=NR (x:=e*u-l*s) (A:=1720320) (by omega) (by omega)
 exact ⟨N0 (A:=1280) (B:=2560) v g (by omega) (by omega),N0 (A:=672) (B:=1344) m f (by omega) (by omega),NR (A:=2560) (by omega) (by omega),NR (A:=1344) (by omega) (by omega),NR v g,NR m f,NR c1 c2,NR d1 d2,by omega,by omega,by omega⟩
theorem inB{a b:GK}(f:Dk a.1=true)(e:Dk a.2.1=true)(g:Dk b.1=true)(h:Dk b.2.1=true):InB (a.1.1-b.1.1) (a.1.2-b.1.2) (a.2.1.1-b.2.1.1) (a.2.1.2-b.2.1.2):=by
 unfold Dk at f e g h
 rw [Cq,RB,RB] at f e g h
 refine ⟨by omega,by omega,by omega,by omega,by omega,by omega,by omega,by omega⟩
theorem V6(a b:GK)(l:Dk a.1=true)(g:Dk a.2.1=true)(hb:Dk b.1=true)(u:Dk b.2.1=true):Jm a b=some (Wj a b):=by
 have f:=inB l g hb u
 unfold Jm M0 E8 Wj
 generalize a.1.1-b.1.1=px at *
 generalize a.1.2-b.1.2=py at *
 generalize a.2.1.1-b.2.1.1=qx at *
 generalize a.2.1.2-b.2.1.2=qy at *
 obtain ⟨m1,m2,m3,m4,m5,m6,m7,m8,m9,ar,aq⟩:=Agd f
 obtain ⟨v,m,s,h,c1,c2,d1,d2⟩:=f
 have k:(px*(qy-py)-py*(qx-px))=px*qy-py*qx:=by
  rw [Int.mul_sub,Int.mul_sub,Int.mul_comm px py]; omega
 have ah:=N0 (x:=px) (y:=qy-py) (A:=1280) (B:=1344) v m (by omega) (by omega)
 have ak:=N0 (x:=py) (y:=qx-px) (A:=672) (B:=2560) s h (by omega) (by omega)
 simp only [Aa,AA (x:=px) (by omega) (by omega),AA (x:=py) (by omega) (by omega),AA (x:=qx) (by omega) (by omega),AA (x:=qy) (by omega) (by omega),
  AA (x:=qx-px) (by omega) (by omega),AA (x:=qy-py) (by omega) (by omega),AA (x:=px*(qx-px)) (by omega) (by omega),AA (x:=py*(qy-py)) (by omega) (by omega),
  AA (x:=px*(qx-px)+py*(qy-py)) (by omega) (by omega),AA (x:=0-(px*(qx-px)+py*(qy-py))) (by omega) (by omega),
  AA (x:=(qx-px)*(qx-px)) (by omega) (by omega),AA (x:=(qy-py)*(qy-py)) (by omega) (by omega),AA (x:=(qx-px)*(qx-px)+(qy-py)*(qy-py)) (by omega) (by omega),
  AA (x:=px*px) (by omega) (by omega),AA (x:=py*py) (by omega) (by omega),AA (x:=px*px+py*py) (by omega) (by omega),
  AA (x:=qx*qx) (by omega) (by omega),AA (x:=qy*qy) (by omega) (by omega),AA (x:=qx*qx+qy*qy) (by omega) (by omega),
  AA (x:=px*(qy-py)) (by omega) (by omega),AA (x:=py*(qx-px)) (by omega) (by omega),k,AA (x:=px*qy-py*qx) (by omega) (by omega),AA (x:=(px*qy-py*qx)*(px*qy-py*qx)) (by omega) (by omega)]
 unfold Abc
 by_cases h1:0≤px*(qx-px)+py*(qy-py)
 rw [if_pos (by simpa using h1),if_pos h1]
 rw [if_neg (by simpa using h1),if_neg h1]
 by_cases e:(qx-px)*(qx-px)+(qy-py)*(qy-py)≤0-(px*(qx-px)+py*(qy-py))
 rw [if_pos (by simpa using e),if_pos e]
 rw [if_neg (by simpa using e),if_neg e,MX _ _ (by omega) (by omega) (by omega) (by omega)]
 rfl
theorem Yu(a b:GK)(m:Dk a.1=true)(l:Dk a.2.1=true)(u:Dk b.1=true)(s:Dk b.2.1=true):Le a b=some (Wj a b):=by
 have g:=inB m l u s
 unfold Le Mz LA Wj Bf
 generalize a.1.1-b.1.1=px at *
 generalize a.1.2-b.1.2=py at *
 generalize a.2.1.1-b.2.1.1=qx at *
 generalize a.2.1.2-b.2.1.2=qy at *
 obtain ⟨m1,m2,m3,m4,m5,m6,m7,m8,m9,ax,aw⟩:=Agd g
 obtain ⟨a1,a2,b1,b2,c1,c2,d1,v⟩:=g
 simp only [Aa,AA (x:=px) (by omega) (by omega),AA (x:=py) (by omega) (by omega),AA (x:=qx) (by omega) (by omega),AA (x:=qy) (by omega) (by omega),
  AA (x:=qx-px) (by omega) (by omega),AA (x:=qy-py) (by omega) (by omega),AA (x:=px*(qx-px)) (by omega) (by omega),AA (x:=py*(qy-py)) (by omega) (by omega),
  AA (x:=px*(qx-px)+py*(qy-py)) (by omega) (by omega),AA (x:=0-(px*(qx-px)+py*(qy-py))) (by omega) (by omega),
  AA (x:=(qx-px)*(qx-px)) (by omega) (by omega),AA (x:=(qy-py)*(qy-py)) (by omega) (by omega),AA (x:=(qx-px)*(qx-px)+(qy-py)*(qy-py)) (by omega) (by omega),
  AA (x:=px*px) (by omega) (by omega),AA (x:=py*py) (by omega) (by omega),AA (x:=px*px+py*py) (by omega) (by omega),
  AA (x:=qx*qx) (by omega) (by omega),AA (x:=qy*qy) (by omega) (by omega),AA (x:=qx*qx+qy*qy) (by omega) (by omega),
  AA (x:=px*qy) (by omega) (by omega),AA (x:=py*qx) (by omega) (by omega),AA (x:=px*qy-py*qx) (by omega) (by omega),AA (x:=(px*qy-py*qx)*(px*qy-py*qx)) (by omega) (by omega)]
 have q1:qx*qx=px*px+2*(px*(qx-px))+(qx-px)*(qx-px):=by
  have:qx*qx=(px+(qx-px))*(px+(qx-px)):=by rw [show px+(qx-px)=qx by omega]
  rw [this,Int.add_mul,Int.mul_add,Int.mul_add,Int.mul_comm (qx-px) px]; omega
 have q2:qy*qy=py*py+2*(py*(qy-py))+(qy-py)*(qy-py):=by
  have:qy*qy=(py+(qy-py))*(py+(qy-py)):=by rw [show py+(qy-py)=qy by omega]
  rw [this,Int.add_mul,Int.mul_add,Int.mul_add,Int.mul_comm (qy-py) py]; omega
 unfold Abc FD
 generalize hd:px*(qx-px)+py*(qy-py)=dot at *
 generalize hz:(qx-px)*(qx-px)+(qy-py)*(qy-py)=size at *
 by_cases h1:0≤dot
 have f:0-dot≤0:=by omega
 rw [if_pos h1]
 simp only [f,decide_true,if_true,Aa]
 rw [if_neg (by simp)]
 by_cases h:px*px+py*py<qx*qx+qy*qy
 rw [if_pos (by simpa using h)]; rfl
 rw [if_neg (by simpa using h),Aa]
 have:qx*qx+qy*qy=px*px+py*py:=by omega
 rw [this]
 have f:¬ 0-dot≤0:=by omega
 rw [if_neg h1]
 by_cases e:size≤0-dot
 rw [if_pos e]
 simp only [f,e,decide_true,decide_false,Bool.false_eq_true,if_false,if_true,Aa]
 rw [if_neg (by simp),if_neg (by simp; omega)]
 rfl
 rw [if_neg e]
 simp only [f,e,decide_true,decide_false,Bool.false_eq_true,if_false,if_true,Aa]
 rw [if_pos (by simp; omega),Ub _ _ (by omega) (by omega) (by omega) (by omega)]
 rfl
theorem Ae3{β R:Type}(f:Nat→List β→Int→Ae R)(n B:Nat)(p:Nat→Bool)(g:Nat→β)(rest:List β→Ae R)(hn:n<4611686018427387904)
  (hs:∀ m s k,k<n→s.length<B→f (m+1) s (k:Int)=f m (if p k then s++[g k] else s) ((k+1:Nat):Int)) (he:∀ m s,f (m+1) s (n:Int)=rest s) :
  ∀(k:Nat)(s:List β),k≤n→s.length+(n-k)≤B→f FU s (k:Int)=rest (s++((List.range' k (n-k)).filter p).map g):=by
 have ab:∀ d k m s,n-k=d→k≤n→n-k<m→s.length+(n-k)≤B→f m s (k:Int)=rest (s++((List.range' k (n-k)).filter p).map g):=by
  intro d
  induction d with
  | zero =>
   intro k m s u e v h
   have:k=n:=by omega
   subst this
   cases m with
   | zero=>omega
   | succ m=>rw [he]; simp
  | succ d l =>
   intro k m s u e v h
   cases m with
   | zero=>omega
   | succ m =>
    rw [hs m s k (by omega) (by omega),u,List.range'_succ,List.filter_cons]
    cases hp:p k with
    | false =>
     simp only [Bool.false_eq_true,if_false]
     rw [l (k+1) m s (by omega) (by omega) (by omega) (by omega),show n-(k+1)=d by omega]
    | true =>
     simp only [if_true,List.map_cons]
     rw [l (k+1) m (s++[g k]) (by omega) (by omega) (by omega) (by simp; omega),show n-(k+1)=d by omega]
     simp
 exact fun k s e h=>ab _ k FU s rfl e (Dw (by omega)) h
def Ur(u v:GK)(least:Int):Bool:=decide (Ah (Ah (least*least)*(Wj u v).2)≤(Wj u v).1)
def JE(u:GK):Prop:=Dk u.1=true∧Dk u.2.1=true
theorem Wn(u v:GK)(e:Int)(g:JE u)(f:JE v):JJ u v e=some (Ur u v e):=by
 unfold JJ Ur
 rw [V6 u v g.1 g.2 f.1 f.2]
 rfl
theorem ZD(u v:GK)(e:Int)(g:JE u)(f:JE v):L8 u v e=some (Ur u v e):=by
 unfold L8 Ur
 rw [Yu u v g.1 g.2 f.1 f.2]
 rfl
theorem Nk{a e f:Int}:BW a e f=true↔e≤a∧a≤f:=by simp [BW]
abbrev Hn:=List (Int×Int)
abbrev Aiy:=Int×(List Ag)
def Hk(u:Int×Int):Bool:=BW u.1 1 12&&BW u.2 40 220
def GQ(x:Hn):Bool:=BW (x.length:Int) 1 40&&x.all Hk
theorem Wb(u:Int×Int):JG u=some (Hk u):=by
 unfold JG Bf Hk
 dsimp only
 rw [Dg,Aa,Dg,Aa]
 cases BW u.1 1 12 <;> simp
theorem Uc(x:Hn)(h:x.length<4611686018427387904):Kf x=some (GQ x):=by
 unfold Kf GQ
 rw [Ow (Gr x) x Hk (some (BW (x.length:Int) 1 40)) (some false) h (fun m k u f e=>?_) (fun m=>?_)]
 cases x.all Hk <;> simp
 rw [Gr,if_pos (by simp; omega),AY,e,Aa,Wb,Aa,AC (by omega)]
 cases Hk u <;> simp
 rw [Gr,if_neg (by simp),Dg]
 rfl
theorem PN(x:Hn)(h:x.length<4611686018427387904):Hv x=some (GQ x):=by
 unfold Hv GQ
 rw [Ow (FY x) x Hk (some (BW (x.length:Int) 1 40)) (some false) h (fun m k u f e=>?_) (fun m=>?_)]
 cases x.all Hk <;> simp
 rw [FY,if_pos (by simp; omega),AY,e,Aa]
 unfold Bf Hk
 dsimp only
 rw [Df,Aa,Df,Aa,AC (by omega)]
 cases BW u.1 1 12 <;> cases BW u.2 40 220 <;> simp
 rw [FY,if_neg (by simp),Df]
 rfl
def Uq(x:Hn):Int:=x.foldl (fun a u=>Ah (a+u.1)) 0
theorem X9(x:Hn)(h:x.length<4611686018427387904):Kx x=some (Uq x):=by
 unfold Kx Uq
 rw [YN (Fk x) x (fun a u=>Ah (a+u.1)) some h (fun m s k u f e=>?_) (fun m s=>?_)]
 rw [Fk,if_pos (by simp; omega),AY,e,Aa,AC (by omega)]
 rw [Fk,if_neg (by simp)]
theorem XC(x:Hn)(h:x.length<4611686018427387904):KC x=some (Uq x):=by
 unfold KC Uq
 rw [YN (Fm x) x (fun a u=>Ah (a+u.1)) some h (fun m s k u f e=>?_) (fun m s=>?_)]
 rw [Fm,if_pos (by simp; omega),AY,e,Aa,AC (by omega)]
 rw [Fm,if_neg (by simp)]
theorem Nl{x:Hn}(h:GQ x=true):1≤x.length∧x.length≤40∧x.all Hk=true:=by
 unfold GQ at h
 rw [Cq,Nk] at h
 exact ⟨by omega,by omega,h.2⟩
structure CueLens (x:Hn) (l:List Aiy):Prop where
 hx:x.length<4611686018427387904
 hl:l.length<1073741824
 hn:∀ c ∈ l,c.2.length<4611686018427387904
theorem CueLens.hl'{x:Hn}{l:List Aiy}(h:CueLens x l):l.length<4611686018427387904:=by have:=h.hl; omega
theorem Ab9(x:Hn):∀(m:Nat)(a b c:Int),Hi x m a b c=Dy x m a b c:=by
 intro m
 induction m with
 | zero=>intro a b c; rfl
 | succ m e =>
  intro a b c
  rw [Hi,Dy]
  split
  cases AG x c with
  | none=>rfl
  | some u =>
   simp only [Aa,Iq,e]
   by_cases h:u.2=0 <;> simp [h]
  rfl
theorem Wm(x:Hn)(c:Int):Km x c=Gz x c:=by
 unfold Km Gz
 exact Ab9 x FU c 0 0
theorem Ab8(x:Hn)(v:x.all Hk=true)(hl:x.length<4611686018427387904)(c:Int):∃ t,Gz x c=some t:=by
 unfold Gz
 have u:∀ d k m (a b:Int),x.length-k=d→k≤x.length→x.length-k<m→∃ t,Dy x m a b (k:Int)=some t:=by
  intro d
  induction d with
  | zero =>
   intro k m a b hd l s
   cases m with
   | zero=>omega
   | succ m =>
    rw [Dy,if_neg (by simp; omega)]
    exact ⟨_,rfl⟩
  | succ d g =>
   intro k m a b hd l s
   cases m with
   | zero=>omega
   | succ m =>
    have e:k<x.length:=by omega
    have f:=List.all_eq_true.1 v x[k] (List.getElem_mem e)
    unfold Hk at f
    rw [Cq,Nk,Nk] at f
    have h:¬ x[k].2=0:=by omega
    rw [Dy,if_pos (by simp; omega),Ic e,Aa]
    simp only [Iq,if_neg h,Aa,AC (k:=k) (by omega)]
    split
    exact ⟨_,rfl⟩
    exact g (k+1) m _ _ (by omega) (by omega) (by omega)
 exact u _ 0 FU c 0 rfl (by omega) (Dw (by omega))
def Tw(x:Hn)(c:Int):Int:=(Gz x c).getD 0
theorem Q6(x:Hn)(h:GQ x=true)(c:Int):Gz x c=some (Tw x c):=by
 obtain ⟨h1,g,f⟩:=Nl h
 obtain ⟨t,e⟩:=Ab8 x f (by omega) c
 unfold Tw
 rw [e]
 rfl
theorem ZJ(x:Hn)(h:GQ x=true)(c:Int):Km x c=some (Tw x c):=by
 rw [Wm,Q6 x h]
def rd(x c:Int):Int:=Int.tdiv (2*x+c) (2*c)
theorem Agi(t:List Ag):(Lt t).length=t.length:=by unfold Lt; rw [List.length_map]
theorem Ahm{t u:List Ag}(h:t.length+u.length≤1073741824):bwr (Lt t) u=some (Lt (t++u)):=by
 unfold bwr
 rw [Agi,if_pos (by omega)]
 unfold Lt
 rw [List.map_append]
theorem Agj(t:List Ag):W8 (Lt t)=some t:=by
 unfold W8 Lt
 rw [if_pos]
 rw [List.map_map]
 congr 1
 conv=>rhs; rw [← List.map_id t]
 apply List.map_congr_left
 intro b _
 show UInt8.ofNat (b.toNat:Int).toNat=b
 rw [Int.toNat_natCast]
 exact UInt8.ofNat_toNat
 rw [List.all_eq_true]
 intro x e
 obtain ⟨b,_,rfl⟩:=List.mem_map.1 e
 have:=UInt8.toNat_lt b
 simp
 omega
def DA(L:List (List Ag)):List Ag:=(L.map (·++[10])).flatten
theorem H7(a:List Ag)(L:List (List Ag)):DA (a::L)=a++10::DA L:=by
 unfold DA
 rw [List.map_cons,List.flatten_cons,List.append_assoc]
 rfl
theorem N5(L M:List (List Ag)):DA (L++M)=DA L++DA M:=by
 unfold DA
 rw [List.map_append,List.flatten_append]
theorem SO(B:Nat):∀(L:List (List Ag)),(∀ a ∈ L,a.length≤B)→(DA L).length≤(B+1)*L.length
 | [],_=>by simp [DA]
 | a::L,h=>by
  have f:=SO B L fun b e=>h b (List.mem_cons_of_mem _ e)
  have g:=h a (by simp)
  rw [H7,Cy,List.length_cons,List.length_cons,Nat.mul_add]
  omega
theorem TX(b:List Ag)(e:(10:Ag) ∉ b):∀(I:List (List Ag)),(∀ a ∈ I,(10:Ag) ∉ a)→CP 10 (DA I++b)=I++[b]
 | [],_=>Ot e
 | a::I,h=>by
  rw [H7,List.append_assoc,List.cons_append,Ou (h a (by simp)),TX b e I fun c f=>h c (List.mem_cons_of_mem _ f)]
  rfl
theorem Adg{α:Type}(l:List α){j k:Nat}(h:j≤k)(e:k≤l.length):sl l (j:Int) (k:Int)=some ((l.take k).drop j):=by
 unfold sl
 rw [if_pos (by omega)]
 simp
theorem Ajb{α:Type}{l:List α}{k:Nat}(h:k<l.length){e:Nat}(f:e≤k):l.drop e=(l.take k).drop e++l[k]::l.drop (k+1):=by
 conv=>lhs; rw [← List.take_append_drop k l]
 rw [List.drop_append_of_le_length (by simp; omega),List.drop_eq_getElem_cons h]
theorem Vf(l:List Ag)(c:Ag)(hl:l.length≤4194304):E3 l (c.toNat:Int)=some (CP c l):=by
 unfold E3
 have ah:∀(d k m f:Nat)(s:List (List Ag)),l.length-k=d→k≤l.length→d<m→f≤k→c ∉ (l.take k).drop f→s++CP c (l.drop f)=CP c l →
   DN l (c.toNat:Int) m s (f:Int) (k:Int)=some (CP c l):=by
  have hn:(CP c l).length≤l.length+1:=by
   have:=List.count_le_length (a:=c) (l:=l)
   rw [I4]; omega
  intro d
  induction d with
  | zero =>
   intro k m f s hd hk hm v u g
   have:k=l.length:=by omega
   subst this
   have aj:s.length≤l.length+1:=by rw [← g,Cy] at hn; omega
   rw [List.take_length] at u
   cases m with
   | zero=>omega
   | succ m=>rw [DN,if_neg (by simp),SD _ v,Aa,Bg (by simp; omega),Aa,← g,Ot u]
  | succ d ih =>
   intro k m f s hd hk hm v u g
   have aa:k<l.length:=by omega
   have aj:s.length≤l.length+1:=by rw [← g,Cy] at hn; omega
   have ae:=Ajb aa v
   cases m with
   | zero=>omega
   | succ m =>
    rw [DN,if_pos (by simp; omega)]
    unfold Fx
    dsimp only
    rw [Ic aa,Aa]
    by_cases h:l[k]=c
    rw [h,if_pos (by simp),Adg _ v hk,Aa,Bg (by simp; omega),Aa,AC (by omega)]
    refine ih (k+1) m (k+1) _ (by omega) (by omega) (by omega) (by omega) ?_ ?_
    rw [List.drop_eq_nil_of_le (by simp; omega)]; simp
    rw [h] at ae
    rw [← g,ae,Ou u,List.append_assoc]
    rfl
    rw [if_neg (by simpa using Ni h),AC (by omega)]
    refine ih (k+1) m f s (by omega) (by omega) (by omega) (by omega) ?_ g
    rw [List.take_succ_eq_append_getElem aa,List.drop_append_of_le_length (by simp; omega),AV,not_or]
    exact ⟨u,by simpa using fun e=>h e.symm⟩
 exact ah l.length 0 FU 0 [] rfl (by omega) (Dw (by omega)) (by omega) (by simp) (by simp)
def Cx(l:List Ag):List (List Ag):=if l=[] then [] else CP 10 (l.take (l.length-1))
theorem Ve(c:Ag):∀ A:List Ag,CP c (A++[c])=CP c A++[[]]
 | []=>by simp [CP]
 | b::A=>by
  rw [List.cons_append,CP,CP,Ve c A]
  by_cases h:b=c
  rw [if_pos h,if_pos h]; rfl
  rw [if_neg h,if_neg h]
  cases e:CP c A with
  | nil=>have:=I4 c A; rw [e] at this; simp at this
  | cons a t=>rfl
theorem QG{l:List Ag}(h:l=[]∨l.getLast? = some 10):CP 10 l=Cx l++[[]]:=by
 unfold Cx
 by_cases e:l=[]
 rw [if_pos e,e]; rfl
 rw [if_neg e]
 obtain ⟨b,_,f,g⟩:=Ps e
 have m:b=10:=by
  rcases h with h|h
  exact absurd h e
  rw [f] at h; exact Option.some.inj h
 subst m
 conv=>lhs; rw [g]
 exact Ve 10 _
theorem Pc{l:List Ag}(h:l=[]∨l.getLast? = some 10):(Cx l).length=Dc l:=by
 have h1:=congrArg List.length (QG h)
 rw [I4,Cy] at h1
 unfold Dc
 simpa using h1.symm
theorem Abf{l a:List Ag}(h:a ∈ Cx l):a.length≤l.length:=by
 have s:∀(m:List Ag),∀ b ∈ CP 10 m,b.length≤m.length:=by
  intro m
  induction m with
  | nil=>intro b e; simp [CP] at e; simp [e]
  | cons x m f =>
   intro b e
   rw [CP] at e
   split at e
   rcases List.mem_cons.1 e with rfl|e
   simp
   have:=f b e; simp; omega
   cases g:CP 10 m with
   | nil=>have:=I4 10 m; rw [g] at this; simp at this
   | cons a t =>
    rw [g] at e f
    rcases List.mem_cons.1 e with rfl|e
    have:=f a (List.mem_cons_self ..); simp; omega
    have:=f b (List.mem_cons_of_mem _ e); simp; omega
 unfold Cx at h
 split at h
 cases h
 have:=s _ a h
 simp at this
 omega
def Po(l:List Ag):List (List Ag)×Bool:=if BH l=true then (Cx l,true) else ([],false)
theorem E4{l:List Ag}:BH l=true↔l.length≤2000∧(l=[]∨l.getLast? = some 10)∧Dc l≤40:=by
 unfold BH
 simp [and_assoc]
theorem Abp(l:List Ag)(hl:l.length≤4194304):FE l=some (Po l):=by
 unfold FE Bf Po
 dsimp only
 by_cases h1:l.length≤2000
 rw [if_neg (by simp; omega)]
 have m (e:l=[]∨l.getLast? = some 10):(Option.bind (E3 l 10) fun v=>Option.bind (sl v 0 (Ah ((List.length v:Int)-1))) fun s=>(if (decide (40<(List.length s:Int)))=true then some (([]:List (List Ag)),false) else some (s,true)))=some (if BH l=true then (Cx l,true) else ([],false)):=by
  have hs:E3 l 10=some (CP 10 l):=Vf l 10 hl
  have hc:Dc l≤l.length:=List.count_le_length
  have hL:=Pc e
  rw [hs,Aa,QG e,Cy,List.length_singleton,AA (by omega) (by omega),show (((Cx l).length+1:Nat):Int)-1=((Cx l).length:Int) by omega,Mt _ (by simp),Aa,List.take_left']
  by_cases u:Dc l≤40
  rw [if_neg (by simp; omega),if_pos (E4.2 ⟨h1,e,u⟩)]
  rw [if_pos (by simp; omega),if_neg (fun h=>u (E4.1 h).2.2)]
  rfl
 by_cases e:l=[]
 rw [if_neg (by simp [e]),if_neg (by simp)]
 exact m (.inl e)
 obtain ⟨b,hb,g,_⟩:=Ps e
 rw [if_pos (by simp [e]),AA (by omega) (by omega),hb,Aa]
 by_cases f:b=10
 subst f
 rw [if_neg (by decide)]
 exact m (.inr g)
 have ab:((b.toNat:Nat):Int)≠10:=Ni (c:=10) f
 rw [if_pos (by simpa using ab),if_neg (fun h=>?_)]
 rcases (E4.1 h).2.1 with h|h
 exact e h
 rw [g] at h; exact f (Option.some.inj h)
 rw [if_pos (by simp; omega),if_pos rfl,if_neg (fun h=>h1 (E4.1 h).1)]
theorem Abe(l:List Ag)(hl:l.length≤4194304):JA l=some (if l=[]∨l.getLast? = some 10 then (Cx l,true) else ([],false)):=by
 unfold JA Cx
 by_cases e:l=[]
 rw [if_pos (by simp [e]),if_pos (.inl e),if_pos e]
 obtain ⟨b,u,g,hd⟩:=Ps e
 have v:0<l.length:=List.length_pos_iff.2 e
 rw [if_neg (by simpa using e),AA (by omega) (by omega),u,Aa,if_neg e]
 by_cases f:b=10
 subst f
 have m:Ff (l.take (l.length-1)) [10]=some (CP 10 (l.take (l.length-1))):=ZW _ 10 (by simp; omega)
 rw [if_neg (by decide),show (l.length:Int)-1=((l.length-1:Nat):Int) by omega,Mt _ (by omega),Aa,m,Aa,if_pos (.inr g)]
 have s:((b.toNat:Nat):Int)≠10:=Ni (c:=10) f
 rw [if_pos (by simpa using s),if_neg]
 rintro (h|h)
 exact e h
 rw [g] at h; exact f (Option.some.inj h)
theorem Wf(l:List Ag)(g:l.length≤4194304):DX l=some (Po l):=by
 unfold DX Bf Po
 rw [Abe l g,Aa]
 by_cases e:l=[]∨l.getLast? = some 10
 rw [if_pos e]
 dsimp only
 rw [if_neg (by simp)]
 have m:=Pc e
 by_cases h1:l.length≤2000
 rw [if_neg (by simp; omega)]
 by_cases f:Dc l≤40
 rw [if_neg (by simp; omega),if_pos (E4.2 ⟨h1,e,f⟩)]
 rw [if_pos (by simp; omega),if_neg (fun h=>f (E4.1 h).2.2)]
 rw [if_pos (by simp; omega),if_pos rfl,if_neg (fun h=>h1 (E4.1 h).1)]
 rw [if_neg e]
 dsimp only
 rw [if_pos (by simp),if_pos rfl,if_neg (fun h=>e (E4.1 h).2.1)]
def Ms(l:List Ag):Int:=if l=[]∨6<l.length∨(1<l.length∧l[0]? = some 48) then -1 else if l.all Ie then QA l else -1
theorem Acu(l:List Ag)(h9:l.length≤6):∀(d i m:Nat)(n:Int),l.length-i=d→i≤l.length→d<m→0≤n→n<10 ^ i →
  Gt l m n (i:Int)=some (if (l.drop i).all Ie then (l.drop i).foldl (fun a b=>10*a+((b.toNat:Int)-48)) n else -1):=by
 intro d
 induction d with
 | zero =>
  intro i m n v hi s f h1
  have:i=l.length:=by omega
  subst this
  cases m with
  | zero=>omega
  | succ m =>
   rw [Gt,if_neg (by simp),List.drop_length]
   rfl
 | succ d h =>
  intro i m n v hi s f h1
  cases m with
  | zero=>omega
  | succ m =>
   have g:i<l.length:=by omega
   have hb:=YW (l.drop i) n i f h1 (by simp; omega)
   rw [Gt,if_pos (by simp; omega)]
   unfold Bf
   dsimp only
   rw [Ic g,Aa,Aa]
   rw [List.drop_eq_getElem_cons g,List.all_cons,List.foldl_cons]
   by_cases e:Ie l[i]=true
   have u:=Lw.1 e
   rw [if_neg (by simp; omega),Aa,if_neg (by simp; omega),e,Bool.true_and,Xd e,AA (x:=10*n) (by omega) (by omega),AA (x:=10*n+_) (by omega) (by omega),AC (by omega)]
   refine h (i+1) m _ (by omega) (by omega) (by omega) (by omega) ?_
   rw [Int.pow_succ]
   omega
   have u:¬ (48≤l[i].toNat∧l[i].toNat≤57):=fun x=>e (Lw.2 x)
   have hf:Ie l[i]=false:=by simpa using e
   rw [hf,Bool.false_and,if_neg (c:=false=true) (by simp)]
   by_cases ac:l[i].toNat<48
   rw [if_pos (by simp; omega),if_pos rfl]
   rw [if_neg (by simp; omega),Aa,if_pos (by simp; omega)]
theorem Adk(l:List Ag)(h:l.length<4611686018427387904):L6 l=some (Ms l):=by
 unfold L6 Ms Bf
 dsimp only
 rw [Dg,Aa]
 by_cases f:l=[]
 rw [if_pos (by simp [f,BW]),if_pos rfl,if_pos (Or.inl f)]
 have v:0<l.length:=List.length_pos_iff.2 f
 by_cases m:6<l.length
 have e:BW (l.length:Int) 1 6=false:=by rw [← Bool.not_eq_true,Eb]; omega
 rw [e,if_pos (c:=(!false)=true) rfl,if_pos rfl,if_pos (Or.inr (Or.inl m))]
 have e:BW (l.length:Int) 1 6=true:=by rw [Eb]; omega
 rw [e,if_neg (by simp),U7,BP v,Aa]
 have u:=Acu l (by omega) l.length 0 FU 0 rfl (by omega) (Dw (by omega)) (by omega) (by simp)
 rw [show ((0:Nat):Int)=0 by rfl] at u
 by_cases g:l[0]=48
 rw [g,if_pos (by decide)]
 by_cases h1:1<l.length
 rw [if_pos (by simp; omega),if_pos (Or.inr (Or.inr ⟨h1,rfl⟩))]
 have s:¬ (l=[]∨6<l.length∨(1<l.length∧some (48:Ag)=some 48)):=by
  rintro (e|e|⟨e,_⟩)
  exact f e
  exact m e
  exact h1 e
 rw [if_neg (by simp; omega),u,if_neg s]
 rfl
 have:((l[0].toNat:Int)==48)=false:=by
  rw [beq_eq_false_iff_ne]
  exact Ni (c:=48) g
 have s:¬ (l=[]∨6<l.length∨(1<l.length∧some l[0]=some 48)):=by
  rintro (e|e|⟨_,e⟩)
  exact f e
  exact m e
  exact g (Option.some.inj e)
 rw [this,if_neg (by simp),if_neg (by simp),u,if_neg s]
 rfl
theorem Aaf:∀(l:List Ag)(a:Int),(∀ b ∈ l,Ie b=true)→0≤a→a*(10:Int) ^ l.length≤l.foldl (fun a b=>10*a+((b.toNat:Int)-48)) a
 | [],a,_,_=>by simp
 | b::l,a,h,h0=>by
  have g:=Lw.1 (h b (List.mem_cons_self ..))
  have e:=Aaf l (10*a+((b.toNat:Int)-48)) (fun x f=>h x (List.mem_cons_of_mem _ f)) (by omega)
  rw [List.foldl_cons,List.length_cons]
  refine Int.le_trans ?_ e
  rw [Int.pow_succ,Int.mul_comm ((10:Int) ^ l.length) 10,← Int.mul_assoc,Int.mul_comm a 10]
  exact Int.mul_le_mul_of_nonneg_right (by omega) (Int.pow_nonneg (by omega))
def Ra(l:List Ag):Ae Int:=if BW (Ms l) 0 99999=true then some (Ms l) else none
theorem ZI{l:List Ag}(h:BW (Ms l) 0 99999=true):Nz l=(Ms l,true)∧Ms l≤99999:=by
 have f:=Eb.1 h
 refine ⟨?_,f.2⟩
 unfold Nz
 unfold Ms at f ⊢
 split at f
 omega
 rename_i e
 rw [not_or,not_or] at e
 split at f
 rename_i g
 rw [if_neg (by rw [not_or,not_or]; exact ⟨e.1,by omega,e.2.2⟩),if_pos g,if_neg (by rw [not_or,not_or]; exact e),if_pos g]
 omega
theorem YF{l:List Ag}(h:BW (Ms l) 0 99999=false):(Nz l).2=false∨99999<(Nz l).1:=by
 unfold Nz
 split
 exact .inl rfl
 rename_i g
 rw [not_or,not_or] at g
 split
 rename_i u
 right
 show 99999<QA l
 have m:∀ b ∈ l,Ie b=true:=List.all_eq_true.1 u
 by_cases s:6<l.length
 cases l with
 | nil=>exact absurd rfl g.1
 | cons b t =>
  have hb:=Lw.1 (m b (List.mem_cons_self ..))
  have aa:b≠48:=fun e=>g.2.2 ⟨by omega,by rw [e]; rfl⟩
  have ai:49≤b.toNat:=by
   rcases Nat.lt_or_ge b.toNat 49 with f|f
   exact absurd (UInt8.toNat_inj.1 (show b.toNat=(48:Ag).toNat by show b.toNat=48; omega)) aa
   exact f
  have hl:=Aaf t (10*0+((b.toNat:Int)-48)) (fun x hx=>m x (List.mem_cons_of_mem _ hx)) (by omega)
  unfold QA
  rw [List.foldl_cons]
  refine Int.lt_of_lt_of_le ?_ hl
  have hp:(10:Int) ^ 6≤(10:Int) ^ t.length:=by
   have h2:(10:Nat) ^ 6≤10 ^ t.length:=Nat.pow_le_pow_right (by omega) (by simp at s; omega)
   have v:=Int.ofNat_le.2 h2
   rw [Int.natCast_pow,Int.natCast_pow] at v
   exact v
  have e6:(10:Int) ^ 6=1000000:=by decide
  have hm:1*(10:Int) ^ t.length≤(10*0+((b.toNat:Int)-48))*(10:Int) ^ t.length:=Int.mul_le_mul_of_nonneg_right (by omega) (by omega)
  omega
 have e:Ms l=QA l:=by
  unfold Ms
  rw [if_neg (by rw [not_or,not_or]; exact ⟨g.1,s,g.2.2⟩),if_pos u]
 have h0:=(Adc l 0 m (by omega)).1
 rw [e] at h
 rcases Int.lt_or_le 99999 (QA l) with f|f
 exact f
 rw [show BW (QA l) 0 99999=true from Eb.2 ⟨h0,f⟩] at h; cases h
 exact .inl rfl
def JV{α β:Type}(g:α→Ae β):List α→Ae (List β)
 | []=>some []
 | x::t=>(g x).bind fun y=>(JV g t).map (y::·)
theorem YM{α β:Type}{g:α→Ae β}:∀{l:List α}{m:List β},JV g l=some m→m.length=l.length
 | [],m,h=>by cases h; rfl
 | x::t,m,h=>by
  rw [JV,Option.bind_eq_some_iff] at h
  obtain ⟨y,_,h⟩:=h
  rw [Option.map_eq_some_iff] at h
  obtain ⟨f,e,rfl⟩:=h
  simp [YM e]
theorem YL{α β:Type}{g:α→Ae β}{p:β→Prop}(f:∀ x y,g x=some y→p y):∀{l:List α}{m:List β},JV g l=some m→∀ y ∈ m,p y
 | [],m,h,y,e=>by cases h; cases e
 | x::t,m,h,y,e=>by
  rw [JV,Option.bind_eq_some_iff] at h
  obtain ⟨z,s,h⟩:=h
  rw [Option.map_eq_some_iff] at h
  obtain ⟨v,u,rfl⟩:=h
  rcases List.mem_cons.1 e with rfl|e
  exact f _ _ s
  exact YL f u y e
theorem XY{α β R:Type}(f:Nat→List β→Int→Ae R)(l:List α)(g:α→Ae β)(rest:List β→Ae R)(u:Ae R)(hn:l.length<4611686018427387904)
  (hs:∀(m k:Nat) e x,l[k]? = some x→e.length=k→f (m+1) e (k:Int)=match g x with
   | none=>u
   | some y=>f m (e++[y]) ((k+1:Nat):Int))
  (he:∀ m e,e.length=l.length→f (m+1) e (l.length:Int)=rest e):f FU [] 0=match JV g l with
   | none=>u
   | some s=>rest s:=by
 have ae:∀ d k m e,l.length-k=d→k≤l.length→d<m→e.length=k→f m e (k:Int)=match JV g (l.drop k) with
   | none=>u
   | some s=>rest (e++s):=by
  intro d
  induction d with
  | zero =>
   intro k m e hd hk hm h
   have:k=l.length:=by omega
   subst this
   cases m with
   | zero=>omega
   | succ m=>rw [he m e h,List.drop_length,JV]; simp
  | succ d ih =>
   intro k m e hd hk hm h
   have v:k<l.length:=by omega
   cases m with
   | zero=>omega
   | succ m =>
    rw [hs m k e l[k] (BP v) h,List.drop_eq_getElem_cons v,JV]
    cases hg:g l[k] with
    | none=>rfl
    | some y =>
     dsimp only
     rw [ih (k+1) m _ (by omega) (by omega) (by omega) (by simp [h]),Aa]
     cases JV g (l.drop (k+1)) with
     | none=>rfl
     | some s=>simp
 have:=ae l.length 0 FU [] rfl (by omega) (Dw hn) rfl
 simpa using this
def QK(w:List Ag):Int:=(Hp w).getD 0
theorem Ail{R:Type}{c:Prop}[Decidable c]{a b:Ae R}(e:∃ n,a=some n)(f:∃ n,b=some n):∃ n,(if c then a else b)=some n:=by
 split
 exact e
 exact f
theorem Aik{A R:Type}{rest:A→Ae R}{e:(A→Ae R)→Ae R}(h:∀ y,∃ n,rest y=some n)(f:∀ k,(∀ y,∃ n,k y=some n)→∃ n,e k=some n):∃ n,Bf rest e=some n:=f rest h
theorem VA(w:List Ag):Hp w=some (QK w):=by
 have:∃ n,Hp w=some n:=by
  unfold Hp
  repeat' first
   | refine Ail ?_ ?_
   | exact e _
   | refine Aik (fun y=>?_) (fun k e=>?_)
   | exact ⟨_,rfl⟩
 obtain ⟨n,h⟩:=this
 unfold QK
 rw [h]
 rfl
theorem VX(w:List Ag):KB w=some (QK w):=VA w
def UX:List Ag:=[115,112,111,116]
def S3:List Ag:=[112,108,97,99,101]
def QU:List Ag:=[109,105,114,114,111,114]
def UZ:List Ag:=[107,101,101,112]
def QV:List Ag:=[99,111,117,110,116,115]
def Pz:List Ag:=[109,101,97,115,117,114,101]
def S6:List Ag:=[99,97,114,114,121]
def Px:List Ag:=[118,101,114,115,105,111,110]
def Yi:List Ag:=[115,117,109]
def S5:List Ag:=[99,108,111,115,101]
def UY:List Ag:=[107,105,110,100]
def S4:List Ag:=[108,101,97,115,116]
def UV:List Ag:=[116,105,109,101]
def Yh:List Ag:=[119,104,111]
def S0:List Ag:=[115,116,97,116,101]
def UW:List Ag:=[116,101,120,116]
def Py:List Ag:=[115,111,117,110,100]
def JZ:List (List Ag):=[UX,S3,QU,UZ,QV]
def QL:List (List Ag):=[Pz,S6,Px]
def Nd:List (List Ag):=[Yi,S5,UY,S4,UV,Yh,S0,UW,Py]
theorem Ae6{w:List Ag}(h:QK w≠-1):w ∈ JZ++QL++Nd:=by
 refine Classical.byContradiction fun f=>h ?_
 simp only [JZ,QL,Nd,UX,S3,QU,UZ,QV,Pz,S6,Px,Yi,S5,UY,S4,UV,Yh,S0,UW,Py,List.cons_append,List.nil_append,List.mem_cons,List.not_mem_nil,or_false,not_or] at f
 obtain ⟨h1,h2,h3,h4,u,s,g,h8,m,ak,v,ai,l,aa,ab,ag,ad⟩:=f
 have e {a:List Ag} (h:¬ w=a):(w==a)=false:=beq_eq_false_iff_ne.2 h
 unfold QK Hp Bf
 rw [e h1,e h2,e h3,e h4,e u,e s,e g,e h8,e m,e ak,e v,e ai,e l,e aa,e ab,e ag,e ad]
 rfl
theorem JD{l:List (Int×Int)}:C4 l=true↔(1≤l.length∧l.length≤12)∧(∀ s ∈ l,Dk s=true)∧l.Nodup:=by
 unfold C4
 rw [Cq,Eb,List.all_eq_true]
 constructor
 rintro ⟨h1,g⟩
 refine ⟨by omega,fun s hs=>?_,?_⟩
 obtain ⟨k,f⟩:=List.getElem?_of_mem hs
 have:=g k (List.mem_range.2 (List.getElem?_eq_some_iff.1 f).1)
 rw [PK f,Cq] at this
 exact this.1
 rw [List.nodup_iff_pairwise_ne,List.pairwise_iff_getElem]
 intro i j hi v ad e
 have:=g j (List.mem_range.2 v)
 rw [PK (BP v),Cq,List.all_eq_true] at this
 have h:=this.2 l[i] (List.mem_take_iff_getElem.2 ⟨i,by omega,rfl⟩)
 simp [e] at h
 rintro ⟨h1,g,h⟩
 refine ⟨by omega,fun k f=>?_⟩
 have m:=List.mem_range.1 f
 rw [PK (BP m),Cq,List.all_eq_true]
 refine ⟨g _ (List.getElem_mem m),fun u hu=>?_⟩
 obtain ⟨i,hi,rfl⟩:=List.mem_take_iff_getElem.1 hu
 rw [List.nodup_iff_pairwise_ne,List.pairwise_iff_getElem] at h
 have:=h i k (by omega) m (by omega)
 simpa using fun e=>this e.symm
theorem Dm{l:List (Int×Int)}(h:C4 l=true):1≤l.length∧l.length≤12:=(JD.1 h).1
def Rn(l:List (Int×Int)):List (Int×Int)×Bool:=if C4 l=true then (l,true) else ([],false)
theorem Xg(l:List (Int×Int))(e:l.length<4611686018427387904):HO l=some (Rn l):=by
 unfold HO Rn
 rw [KJ l e,Aa]
 cases C4 l <;> rfl
theorem Ui(l:List (Int×Int))(e:l.length<4611686018427387904):GV l=some (Rn l):=by
 unfold GV Rn
 rw [GW l e,Aa]
 cases C4 l <;> rfl
def OE(s:Int×Int):Int×Int:=(1280-s.1,s.2)
theorem Ah6{l:List (Int×Int)}(h:C4 l=true):C4 (l.map OE)=true:=by
 obtain ⟨h1,m,f⟩:=JD.1 h
 refine JD.2 ⟨by simpa using h1,fun s g=>?_,?_⟩
 obtain ⟨u,v,rfl⟩:=List.mem_map.1 g
 have:=G6.1 (m u v)
 exact G6.2 ⟨by unfold OE; dsimp only; omega,this.2⟩
 rw [List.nodup_iff_pairwise_ne,List.pairwise_map]
 rw [List.nodup_iff_pairwise_ne] at f
 refine f.imp fun {a b} hab e=>hab ?_
 obtain ⟨a1,a2⟩:=a
 obtain ⟨b1,b2⟩:=b
 simp only [OE,Prod.mk.injEq] at e ⊢
 omega
theorem Ut{l:List (Int×Int)}(h:C4 l=true):IA l=some (l.map OE,true):=by
 obtain ⟨h1,g,h3⟩:=JD.1 h
 unfold IA
 rw [KJ l (by omega),Aa,h,if_neg (by simp)]
 rw [XY (En l) l (fun s=>if Dk s=true then some (OE s) else none) (fun m=>some (m,true)) none (by omega) (fun m k u x f ha=>?_) (fun m u ha=>?_)]
 have:JV (fun s=>if Dk s=true then some (OE s) else none) l=some (l.map OE):=by
  clear h h1 h3
  induction l with
  | nil=>rfl
  | cons a t v=>rw [JV,if_pos (g a (List.mem_cons_self ..)),Aa,v (fun s e=>g s (List.mem_cons_of_mem _ e))]; rfl
 rw [this]
 have hk:=(List.getElem?_eq_some_iff.1 f).1
 have e:=g x (List.mem_of_getElem? f)
 have ad:=G6.1 e
 rw [En,if_pos (by simp; omega),AY,f,Aa,if_pos e]
 unfold LT
 rw [Aa,Bg (by simp; omega),Aa,AC (by omega),AA (by omega) (by omega)]
 rfl
 rw [En,if_neg (by simp)]
theorem U4{l:List (Int×Int)}(h:C4 l=true):IG l=some (l.map OE,true):=by
 obtain ⟨h1,g,h3⟩:=JD.1 h
 unfold IG
 rw [GW l (by omega),Aa,h,if_neg (by simp)]
 rw [XY (Ew l) l (fun s=>if Dk s=true then some (OE s) else none) (fun m=>some (m,true)) none (by omega) (fun m k u x f ha=>?_) (fun m u ha=>?_)]
 have:JV (fun s=>if Dk s=true then some (OE s) else none) l=some (l.map OE):=by
  clear h h1 h3
  induction l with
  | nil=>rfl
  | cons a t v=>rw [JV,if_pos (g a (List.mem_cons_self ..)),Aa,v (fun s e=>g s (List.mem_cons_of_mem _ e))]; rfl
 rw [this]
 have hk:=(List.getElem?_eq_some_iff.1 f).1
 have e:=g x (List.mem_of_getElem? f)
 have ad:=G6.1 e
 rw [Ew,if_pos (by simp; omega),AY,f,Aa,if_pos e]
 rw [Bg (by simp; omega),Aa,AC (by omega),AA (by omega) (by omega)]
 rfl
 rw [Ew,if_neg (by simp)]
def MC(l:List (Int×Int))(p:Int)(s:Int×Int):List (Int×Int)×Bool:=if BW p 0 ((l.length:Int)-1)=true then Rn (BL l p s) else ([],false)
theorem Sn{l:List (Int×Int)}(h:C4 l=true)(p:Int)(s:Int×Int):Hs l p s=some (MC l p s):=by
 have m:=Dm h
 unfold Hs NG Bf GX MC
 dsimp only
 rw [KJ l (by omega),h,Aa,if_pos rfl,Dg,AA (by omega) (by omega),Aa,Aa]
 cases e:BW p 0 ((l.length:Int)-1) with
 | false=>rfl
 | true =>
  have f:=Eb.1 e
  have g:p.toNat<l.length:=by omega
  rw [if_neg (by simp),Bg (by simp; omega),Aa,Aa,List.nil_append,Il f.1,BP g,Aa,Xg _ (by unfold BL; simp; omega),Aa,if_pos rfl]
theorem Ahb{l:List (Int×Int)}{p:Int}{s:Int×Int}(e:p.toNat<l.length)(f:Dk s=false):Rn (BL l p s)=([],false):=by
 unfold Rn BL
 rw [if_neg]
 intro h
 have:=(JD.1 h).2.1 s (List.mem_iff_getElem.2 ⟨p.toNat,by simpa using e,by simp⟩)
 rw [f] at this
 cases this
theorem So{l:List (Int×Int)}(h:C4 l=true)(p:Int)(s:Int×Int):Hu l p s=some (MC l p s):=by
 have u:=Dm h
 unfold Hu Bf MC
 dsimp only
 rw [GW l (by omega),h,Aa,if_neg (by simp),Df,AA (by omega) (by omega),Aa,ME]
 cases m:BW p 0 ((l.length:Int)-1) with
 | false=>rfl
 | true =>
  have f:=Eb.1 m
  have e:p.toNat<l.length:=by omega
  rw [if_neg (by simp),Aa,if_pos rfl]
  cases g:Dk s with
  | false=>rw [Ahb e g]; rfl
  | true=>rw [if_neg (by simp),Bg (by simp; omega),Aa,List.nil_append,Il f.1,BP e,Aa,Ui _ (by unfold BL; simp; omega),Aa]
theorem FB{x:Int}(h1:0≤x)(e:x<18446744073709551616):Bi x=x:=by
 unfold Bi IntKind.wrap
 simp only [IntKind.bits,IntKind.signed]
 simp only [ge_iff_le,Bool.false_and,Bool.false_eq_true,if_false]
 omega
theorem Aea(x:Int):Bi x=x%18446744073709551616:=by
 unfold Bi IntKind.wrap
 simp only [IntKind.bits,IntKind.signed]
 simp only [ge_iff_le,Bool.false_and,Bool.false_eq_true,if_false]
 omega
theorem Vk(n:Nat):Bu .u64 (n:Int) 32=((n / 4294967296:Nat):Int):=by
 unfold Bu
 have e:(2:Int) ^ (min (32:Int).toNat IntKind.u64.bits)=4294967296:=by decide
 rw [e,Int.fdiv_eq_ediv_of_nonneg _ (by decide)]
 omega
theorem Ab3(n:Nat)(h:n<18446744073709551616):B8 .u64 (n:Int) 4294967295=((n%4294967296:Nat):Int):=by
 have f:BitVec.ofInt 64 (n:Int)=BitVec.ofNat 64 n:=BitVec.ofInt_natCast ..
 have e:BitVec.ofInt 64 4294967295=BitVec.ofNat 64 4294967295:=rfl
 have g:(BitVec.ofNat 64 n &&& BitVec.ofNat 64 4294967295).toNat=n%4294967296:=by
  rw [BitVec.toNat_and,BitVec.toNat_ofNat,BitVec.toNat_ofNat,Nat.mod_eq_of_lt (show n<2 ^ 64 by omega),Nat.mod_eq_of_lt (show 4294967295<2 ^ 64 by omega)]
  exact Nat.and_two_pow_sub_one_eq_mod n 32
 show Bi ((BitVec.ofInt 64 (n:Int) &&& BitVec.ofInt 64 4294967295).toNat:Int)=_
 rw [f,e,g,FB (by omega) (by omega)]
theorem VD(x y:Nat)(f:x<18446744073709551616)(e:y<18446744073709551616):Lk (x:Int) (y:Int)=some (((x*y / 18446744073709551616:Nat):Int),((x*y%18446744073709551616:Nat):Int)):=by
 obtain ⟨h1,g,v,u⟩:=Go.Lib.mul64_hi x y f e
 have l:x*y / 18446744073709551616<18446744073709551616:=by
  have:x*y<18446744073709551616*18446744073709551616:=Nat.mul_lt_mul'' f e
  omega
 unfold Lk
 rw [Vk,Vk,Ab3 x f,Ab3 y e]
 simp only [← Int.natCast_mul,FB (x:=((x%4294967296*(y%4294967296):Nat):Int)) (by omega) (by omega),Vk]
 have h:=Go.Lib.half_mul_le (a:=x / 4294967296) (b:=y / 4294967296) (by omega) (by omega)
 have m:=Go.Lib.half_mul_le (a:=x / 4294967296) (b:=y%4294967296) (by omega) (by omega)
 have s:=Go.Lib.half_mul_le (a:=x%4294967296) (b:=y / 4294967296) (by omega) (by omega)
 rw [Aea ((x*y:Nat):Int)]
 generalize (x / 4294967296)*(y / 4294967296)=A at *
 generalize (x / 4294967296)*(y%4294967296)=B at *
 generalize (x%4294967296)*(y / 4294967296)=C at *
 generalize (x%4294967296)*(y%4294967296)=D at *
 rw [FB (x:=(A:Int)) (by omega) (by omega),FB (x:=(B:Int)) (by omega) (by omega),FB (x:=(C:Int)) (by omega) (by omega)]
 simp only [← Int.natCast_add]
 rw [FB (x:=((B+D / 4294967296:Nat):Int)) (by omega) (by omega),Vk,Ab3 _ g]
 simp only [← Int.natCast_add]
 rw [FB (x:=(((B+D / 4294967296)%4294967296+C:Nat):Int)) (by omega) (by omega),Vk,FB (x:=((A+(B+D / 4294967296) / 4294967296:Nat):Int)) (by omega) (by omega)]
 simp only [← Int.natCast_add]
 rw [FB (by omega) (by omega)]
 congr 2
 omega
theorem Aio(P Q:Nat):(if decide (((P / 18446744073709551616:Nat):Int)<((Q / 18446744073709551616:Nat):Int))=true then some true
  else if (((P / 18446744073709551616:Nat):Int)==((Q / 18446744073709551616:Nat):Int))=true then some (decide (((P%18446744073709551616:Nat):Int)<((Q%18446744073709551616:Nat):Int))) else some false)=some (decide ((P:Int)<(Q:Int))):=by
 by_cases h1:P / 18446744073709551616<Q / 18446744073709551616
 rw [if_pos (by simp; omega)]
 congr 1
 symm
 simp
 omega
 rw [if_neg (by simp; omega)]
 by_cases e:P / 18446744073709551616=Q / 18446744073709551616
 rw [if_pos (by simp; omega)]
 congr 1
 rw [Bool.eq_iff_iff]
 simp
 omega
 rw [if_neg (by simp; omega)]
 congr 1
 symm
 simp
 omega
def T5(a b c d:Int):Bool:=decide (a*d<c*b)
theorem TI(a b c d:Int)(e:0≤a)(m:a<18446744073709551616)(f:0≤b)(s:b<18446744073709551616)(g:0≤c)(l:c<18446744073709551616)(h:0≤d)(u:d<18446744073709551616) :
  Gb a b c d=some (T5 a b c d):=by
 obtain ⟨a,rfl⟩:=Int.eq_ofNat_of_zero_le e
 obtain ⟨b,rfl⟩:=Int.eq_ofNat_of_zero_le f
 obtain ⟨c,rfl⟩:=Int.eq_ofNat_of_zero_le g
 obtain ⟨d,rfl⟩:=Int.eq_ofNat_of_zero_le h
 unfold Gb Bf T5
 rw [FB e m,FB h u,FB g l,FB f s,VD a d (by omega) (by omega),Aa,VD c b (by omega) (by omega),Aa]
 simp only [← Int.natCast_mul]
 exact Aio _ _
theorem ZE(a b c d:Int)(g:0≤a)(ak:a≤4000000000000000000)(m:0<b)(ad:b≤3000000000)(u:0≤c)(an:c≤4000000000000000000)(e:0<d)(ah:d≤3000000000) :
  L9 a b c d=some (T5 a b c d):=by
 have l:¬ b=0:=by omega
 have f:¬ d=0:=by omega
 unfold L9 T5
 rw [if_neg l,if_neg f,if_neg l,if_neg f,if_neg l,if_neg f,Int.tdiv_eq_ediv_of_nonneg g,Int.tdiv_eq_ediv_of_nonneg u,Int.tmod_eq_emod_of_nonneg g,Int.tmod_eq_emod_of_nonneg u]
 have e1:=Int.emod_add_mul_ediv a b
 have e2:=Int.emod_add_mul_ediv c d
 have r1:=Int.emod_nonneg a l
 have r2:=Int.emod_lt_of_pos a m
 have r3:=Int.emod_nonneg c f
 have r4:=Int.emod_lt_of_pos c e
 have q1:=Int.ediv_nonneg g (Int.le_of_lt m)
 have q2:=Int.ediv_nonneg u (Int.le_of_lt e)
 have q3:a / b≤a:=Int.ediv_le_self _ g
 have q4:c / d≤c:=Int.ediv_le_self _ u
 generalize a / b=p at *
 generalize c / d=q at *
 generalize a%b=r at *
 generalize c%d=s at *
 have hP:0<b*d:=Int.mul_pos m e
 have ar:b*d≤3000000000*3000000000:=Int.mul_le_mul ad ah (by omega) (by omega)
 have f1:a*d=r*d+b*d*p:=by rw [← e1,Int.add_mul,Int.mul_assoc,Int.mul_assoc,Int.mul_comm p d]
 have f2:c*b=s*b+b*d*q:=by rw [← e2,Int.add_mul,Int.mul_comm b d,Int.mul_assoc,Int.mul_assoc,Int.mul_comm q b]
 have g1:0≤r*d:=Int.mul_nonneg r1 (by omega)
 have g2:r*d<b*d:=Int.mul_lt_mul_of_pos_right r2 e
 have g3:0≤s*b:=Int.mul_nonneg r3 (by omega)
 have g4:s*b<d*b:=Int.mul_lt_mul_of_pos_right r4 m
 rw [Int.mul_comm d b] at g4
 have v:∀ x y:Int,x+1≤y→b*d*x+b*d≤b*d*y:=fun x y h=>by
  have:=Int.mul_le_mul_of_nonneg_left h (Int.le_of_lt hP)
  rwa [Int.mul_add,Int.mul_one] at this
 rw [AA (x:=p) (by omega) (by omega),AA (x:=q) (by omega) (by omega),AA (x:=r*d) (by omega) (by omega),AA (x:=s*b) (by omega) (by omega)]
 by_cases h1:p=q
 subst h1
 rw [if_neg (by simp)]
 congr 1
 rw [Bool.eq_iff_iff]
 simp
 omega
 rw [if_pos (by simpa using h1)]
 congr 1
 rw [Bool.eq_iff_iff]
 simp
 rcases Int.lt_or_gt_of_ne h1 with h2|h2
 have:=v p q (by omega)
 omega
 have:=v q p (by omega)
 omega
def Dx(n s:Nat):Nat:=(List.range n).foldl (fun a k=>a+(s.testBit k).toNat) 0
theorem Js(n s:Nat):Dx (n+1) s=Dx n s+(s.testBit n).toNat:=by
 unfold Dx
 rw [List.range_succ,List.foldl_append]
 rfl
theorem Xp(n:Nat):Dx n 0=0:=by
 induction n with
 | zero=>rfl
 | succ n e=>rw [Js,e]; simp
theorem Nj(n s:Nat):Dx n s≤n:=by
 induction n with
 | zero=>exact Nat.le_refl _
 | succ n e =>
  rw [Js]
  have:(s.testBit n).toNat≤1:=by cases s.testBit n <;> simp
  omega
theorem Yn(s k i:Nat):(s ^^^ 2 ^ k).testBit i=(s.testBit i ^^ decide (k=i)):=by
 rw [Nat.testBit_xor,Nat.testBit_two_pow]
theorem Acz{n s t:Nat}(h:∀ i,i<n→s.testBit i=t.testBit i):Dx n s=Dx n t:=by
 induction n with
 | zero=>rfl
 | succ n e=>rw [Js,Js,e (fun i f=>h i (by omega)),h n (by omega)]
theorem P9{n s k:Nat}(g:k<n)(h:s.testBit k=true):Dx n (s ^^^ 2 ^ k)+1=Dx n s:=by
 induction n with
 | zero=>omega
 | succ n f =>
  rw [Js,Js,Yn]
  by_cases e:k=n
  subst e
  rw [h,Acz (t:=s) (fun i l=>by rw [Yn,decide_eq_false (by omega)]; simp)]
  simp
  have:=f (by omega)
  simp [e]
  omega
theorem M9:∀{k s:Nat},s.testBit k=true→s ^^^ 2 ^ k<s
 | 0,s,h=>by
  have h1:=Nat.xor_div_two (a:=s) (b:=2 ^ 0)
  have e:s%2=1:=by simpa [Nat.testBit_zero] using h
  have f:¬ ((s ^^^ 2 ^ 0)%2=1):=by rw [Nat.xor_mod_two_eq_one,e]; simp
  simp only [Nat.pow_zero] at h1 f ⊢
  rw [show (1:Nat) / 2=0 by rfl,Nat.xor_zero] at h1
  omega
 | k+1,s,h=>by
  rw [Nat.testBit_succ] at h
  have g:=M9 h
  have h1:=Nat.xor_div_two (a:=s) (b:=2 ^ (k+1))
  rw [show 2 ^ (k+1) / 2=2 ^ k by rw [Nat.pow_succ]; omega] at h1
  omega
theorem Pg{n s:Nat}(f:s<2 ^ n)(g:0<s):∃ k,k<n∧s.testBit k=true:=by
 obtain ⟨k,e⟩:=Nat.exists_testBit_of_ne_zero (by omega:s≠0)
 refine ⟨k,?_,e⟩
 rcases Nat.lt_or_ge k n with h|h
 exact h
 have:=Nat.testBit_lt_two_pow (Nat.lt_of_lt_of_le f (Nat.pow_le_pow_right (by omega) h))
 rw [e] at this
 cases this
theorem Agw{n s:Nat}(f:s<2 ^ n)(h:0<Dx n s):0<s:=by
 rcases Nat.eq_zero_or_pos s with e|e
 rw [e,Xp] at h; omega
 exact e
theorem Rm{n s i:Nat}(f:s<2 ^ n)(e:i<n):(2 ^ n-1-s).testBit i=!s.testBit i:=by
 rw [show 2 ^ n-1-s=2 ^ n-(s+1) by omega,Nat.testBit_two_pow_sub_succ f]
 simp [e]
theorem W6{n s:Nat}(e:s<2 ^ n):∀ m,m≤n→Dx m (2 ^ n-1-s)+Dx m s=m
 | 0,_=>rfl
 | m+1,h=>by
  have:=W6 e m (by omega)
  rw [Js,Js,Rm e (by omega)]
  cases s.testBit m <;> simp <;> omega
theorem Zf{n s k:Nat}(g:s<2 ^ n)(l:k<n)(h:s.testBit k=true):(2 ^ n-1-s) ||| 2 ^ k=2 ^ n-1-(s ^^^ 2 ^ k):=by
 have m:=M9 h
 apply Nat.eq_of_testBit_eq
 intro i
 rw [Nat.testBit_or,Nat.testBit_two_pow]
 rcases Nat.lt_or_ge i n with f|f
 rw [Rm g f,Rm (by omega) f,Yn]
 by_cases e:k=i
 subst e; simp [h]
 simp [e]
 have p:=Nat.pow_le_pow_right (n:=2) (by omega) f
 rw [Nat.testBit_lt_two_pow (by omega:2 ^ n-1-s<2 ^ i),Nat.testBit_lt_two_pow (by omega:2 ^ n-1-(s ^^^ 2 ^ k)<2 ^ i)]
 simp
 omega
def mf(g:Nat→Bool)(v:Nat→Int)(a:Int)(n:Nat):Int:=(List.range n).foldl (fun a k=>if g k then min a (v k) else a) a
theorem Pq(g:Nat→Bool)(v:Nat→Int)(a:Int)(n:Nat):mf g v a (n+1)=if g n then min (mf g v a n) (v n) else mf g v a n:=by
 unfold mf
 rw [List.range_succ,List.foldl_append]
 rfl
theorem T4(g:Nat→Bool)(v:Nat→Int)(a:Int):∀(n k:Nat),k<n→g k=true→mf g v a n≤v k
 | n+1,k,hk,hg=>by
  rw [Pq]
  by_cases e:k=n
  subst e; rw [if_pos hg]; omega
  have:=T4 g v a n k (by omega) hg
  split <;> omega
theorem Vx(g:Nat→Bool)(v:Nat→Int)(a:Int):∀(n:Nat),mf g v a n=a∨∃ k,k<n∧g k=true∧mf g v a n=v k
 | 0=>.inl rfl
 | n+1=>by
  rw [Pq]
  have m:=Vx g v a n
  by_cases e:g n=true
  rw [if_pos e]
  rcases Int.le_total (mf g v a n) (v n) with h|h
  rw [Int.min_eq_left h]
  exact m.imp id fun ⟨k,h1,f,l⟩=>⟨k,by omega,f,l⟩
  rw [Int.min_eq_right h]
  exact .inr ⟨n,by omega,e,rfl⟩
  rw [if_neg e]
  exact m.imp id fun ⟨k,h1,f,l⟩=>⟨k,by omega,f,l⟩
theorem Ah7{g:Nat→Bool}{v:Nat→Int}{a b:Int}{n k:Nat}(e:k<n)(f:g k=true)(ha:v k<a)(hb:v k<b):mf g v a n=mf g v b n:=by
 have h1:=T4 g v a n k e f
 have h2:=T4 g v b n k e f
 rcases Vx g v a n with h|⟨i,u,l,h⟩
 omega
 rcases Vx g v b n with s|⟨j,hj,m,s⟩
 omega
 have h3:=T4 g v a n j hj m
 have h4:=T4 g v b n i u l
 omega
theorem YK{g f:Nat→Bool}{v l:Nat→Int}{a:Int}:∀{n:Nat},(∀ k,k<n→g k=f k∧(g k=true→v k=l k))→mf g v a n=mf f l a n
 | 0,_=>rfl
 | n+1,h=>by
  have h1:=h n (by omega)
  rw [Pq,Pq,YK (fun k m=>h k (by omega)),← h1.1]
  by_cases e:g n=true
  rw [if_pos e,if_pos e,h1.2 e]
  rw [if_neg e,if_neg e]
def X5:Int:=1000000000
def RX(n:Nat)(c:Nat→Nat→Int):Nat→List Int
 | 0=>[0]
 | m+1=>RX n c m++[mf (m+1).testBit (fun k=>c (n-Dx n (m+1)) k+(RX n c m).getD ((m+1) ^^^ 2 ^ k) 0) X5 n]
def VV(n:Nat)(c:Nat→Nat→Int)(s:Nat):Int:=(RX n c s).getD s 0
theorem IJ(n:Nat)(c:Nat→Nat→Int):∀ m,(RX n c m).length=m+1
 | 0=>rfl
 | m+1=>by rw [RX,Cy,IJ n c m]; rfl
theorem Tz(n:Nat)(c:Nat→Nat→Int){s:Nat}:∀{m:Nat},s≤m→(RX n c m)[s]? = some (VV n c s)
 | 0,h=>by
  have:s=0:=by omega
  subst this; rfl
 | m+1,h=>by
  by_cases e:s=m+1
  subst e
  have f:=IJ n c (m+1)
  unfold VV
  rw [List.getD_eq_getElem?_getD,BP (by omega)]
  rfl
  rw [RX,List.getElem?_append_left (by rw [IJ]; omega)]
  exact Tz n c (by omega)
theorem TH(n:Nat)(c:Nat→Nat→Int):VV n c 0=0:=rfl
theorem XZ(n:Nat)(c:Nat→Nat→Int){s:Nat}(h:0<s):VV n c s=mf s.testBit (fun k=>c (n-Dx n s) k+VV n c (s ^^^ 2 ^ k)) X5 n:=by
 cases s with
 | zero=>omega
 | succ m =>
  conv=>lhs; unfold VV
  rw [RX,List.getD_eq_getElem?_getD,List.getElem?_append_right (by rw [IJ]; omega),IJ]
  simp only [Nat.sub_self,List.getElem?_cons_zero,Option.getD_some]
  refine YK fun k f=>⟨rfl,fun e=>?_⟩
  have:=M9 e
  rw [List.getD_eq_getElem?_getD,Tz n c (by omega)]
  rfl
theorem Aau{n:Nat}(hn:n≤12){c:Nat→Nat→Int}(hc:∀ i k,i<n→k<n→0≤c i k∧c i k≤2100000):∀(d s:Nat),s≤d→s<2 ^ n→(0≤VV n c s∧VV n c s≤2100000*(Dx n s:Int))∧(0<s→∃ k,k<n∧s.testBit k=true∧c (n-Dx n s) k+VV n c (s ^^^ 2 ^ k)=VV n c s):=by
 intro d
 induction d with
 | zero =>
  intro s h v
  have:s=0:=by omega
  subst this
  exact ⟨⟨by rw [TH]; omega,by rw [TH]; omega⟩,fun h=>by omega⟩
 | succ d ih =>
  intro s h v
  by_cases g:0<s
  obtain ⟨k,e,f⟩:=Pg v g
  have ag:=Nj n s
  have aa:∀ k,k<n→s.testBit k=true→(0≤c (n-Dx n s) k+VV n c (s ^^^ 2 ^ k))∧c (n-Dx n s) k+VV n c (s ^^^ 2 ^ k)≤2100000*(Dx n s:Int):=by
   intro k e f
   have hx:=M9 f
   have hp:=P9 e f
   have h1:=(ih (s ^^^ 2 ^ k) (by omega) (by omega)).1
   have h2:=hc (n-Dx n s) k (by omega) e
   omega
  have ad:=T4 s.testBit (fun k=>c (n-Dx n s) k+VV n c (s ^^^ 2 ^ k)) X5 n k e f
  rw [← XZ n c g] at ad
  have ht:=aa k e f
  have ab:=Vx s.testBit (fun k=>c (n-Dx n s) k+VV n c (s ^^^ 2 ^ k)) X5 n
  rw [← XZ n c g] at ab
  rcases ab with l|⟨j,u,m,l⟩
  unfold X5 at l; omega
  have ah:=aa j u m
  exact ⟨by omega,fun _=>⟨j,u,m,l.symm⟩⟩
  have:s=0:=by omega
  subst this
  exact ⟨⟨by rw [TH]; omega,by rw [TH]; omega⟩,fun h=>by omega⟩
theorem Ya{n:Nat}(g:n≤12){c:Nat→Nat→Int}(e:∀ i k,i<n→k<n→0≤c i k∧c i k≤2100000){s:Nat}(f:s<2 ^ n):0≤VV n c s∧VV n c s≤25200000:=by
 have h1:=(Aau g e s s (Nat.le_refl _) f).1
 have h:=Nj n s
 omega
def LM(n:Nat)(c:Nat→Nat→Int)(m:Nat):List Int:=List.replicate (2 ^ n-1-m) 0++(RX n c m).reverse
theorem RJ(n:Nat)(c:Nat→Nat→Int){m:Nat}(h:m<2 ^ n):(LM n c m).length=2 ^ n:=by
 unfold LM
 rw [Cy,List.length_replicate,List.length_reverse,IJ]
 omega
theorem Oj(n:Nat)(c:Nat→Nat→Int){m s:Nat}(h:m<2 ^ n)(e:s≤m):(LM n c m)[2 ^ n-1-s]? = some (VV n c s):=by
 unfold LM
 rw [List.getElem?_append_right (by simp; omega),List.length_replicate,List.getElem?_reverse (by rw [IJ]; omega),IJ,show m+1-1-(2 ^ n-1-s-(2 ^ n-1-m))=s by omega]
 exact Tz n c e
theorem Afs(n:Nat)(c:Nat→Nat→Int){m:Nat}(h:m+1<2 ^ n):(LM n c m).set (2 ^ n-1-(m+1)) (VV n c (m+1))=LM n c (m+1):=by
 apply List.ext_getElem?
 intro i
 have s:=RJ n c (m:=m) (by omega)
 have l:=RJ n c h
 rcases Nat.lt_trichotomy i (2 ^ n-1-(m+1)) with g|g|g
 rw [List.getElem?_set_ne (by omega)]
 unfold LM
 rw [List.getElem?_append_left (by simp; omega),List.getElem?_append_left (by simp; omega)]
 rw [List.getElem?_replicate,List.getElem?_replicate,if_pos (by omega),if_pos (by omega)]
 subst g
 rw [List.getElem?_set_self (by omega),Oj n c h (Nat.le_refl _)]
 rw [List.getElem?_set_ne (by omega)]
 rcases Nat.lt_or_ge i (2 ^ n) with f|f
 have e:i=2 ^ n-1-(2 ^ n-1-i):=by omega
 rw [e,Oj n c (by omega) (by omega),Oj n c h (by omega)]
 rw [List.getElem?_eq_none (by rw [s]; exact f),List.getElem?_eq_none (by rw [l]; exact f)]
theorem VC(n:Nat):BitVec.ofInt 64 (n:Int)=BitVec.ofNat 64 n:=BitVec.ofInt_natCast ..
theorem Ad4(k:Nat):((2:Int) ^ k)=((2 ^ k:Nat):Int):=by rw [Int.natCast_pow]; rfl
theorem MH{k:Nat}(h:k≤30):LL .i64 1 (k:Int)=((2 ^ k:Nat):Int):=by
 have e:2 ^ k≤2 ^ 30:=Nat.pow_le_pow_right (by omega) h
 show Ah (1*2 ^ (min ((k:Int).toNat) 64))=_
 rw [Int.toNat_natCast,Nat.min_eq_left (by omega),Int.one_mul,Ad4]
 generalize 2 ^ k=P at e ⊢
 exact AA (by omega) (by omega)
theorem Aip{s k:Nat}(h:k≤30):Bu .i64 (s:Int) (k:Int)=((s / 2 ^ k:Nat):Int):=by
 show Int.fdiv (s:Int) (2 ^ (min ((k:Int).toNat) 64))=_
 rw [Int.toNat_natCast,Nat.min_eq_left (by omega),Ad4,Int.fdiv_eq_ediv_of_nonneg _ (Int.natCast_nonneg _)]
 rfl
theorem Ag5{x:Nat}(h:x<4611686018427387904):B8 .i64 (x:Int) 1=((x%2:Nat):Int):=by
 have e:(BitVec.ofNat 64 x &&& BitVec.ofNat 64 1).toNat=x%2:=by
  rw [BitVec.toNat_and,BitVec.toNat_ofNat,BitVec.toNat_ofNat,Nat.mod_eq_of_lt (show x<2 ^ 64 by omega),Nat.mod_eq_of_lt (show 1<2 ^ 64 by omega)]
  exact Nat.and_two_pow_sub_one_eq_mod x 1
 show Ah ((BitVec.ofInt 64 (x:Int) &&& BitVec.ofInt 64 1).toNat:Int)=_
 rw [VC,show BitVec.ofInt 64 1=BitVec.ofNat 64 1 by rfl,e,AA (by omega) (by omega)]
theorem Ab0{x y:Nat}(g:x<1073741824)(e:y<1073741824):Vt .i64 (x:Int) (y:Int)=((x ||| y:Nat):Int):=by
 have f:x ||| y<2 ^ 30:=Nat.or_lt_two_pow (by omega) (by omega)
 show Ah ((BitVec.ofInt 64 (x:Int) ||| BitVec.ofInt 64 (y:Int)).toNat:Int)=_
 rw [VC,VC,BitVec.toNat_or,BitVec.toNat_ofNat,BitVec.toNat_ofNat,Nat.mod_eq_of_lt (show x<2 ^ 64 by omega),Nat.mod_eq_of_lt (show y<2 ^ 64 by omega),AA (by omega) (by omega)]
theorem Zl{x y:Nat}(g:x<1073741824)(e:y<1073741824):Up .i64 (x:Int) (y:Int)=((x ^^^ y:Nat):Int):=by
 have f:x ^^^ y<2 ^ 30:=Nat.xor_lt_two_pow (by omega) (by omega)
 show Ah ((BitVec.ofInt 64 (x:Int) ^^^ BitVec.ofInt 64 (y:Int)).toNat:Int)=_
 rw [VC,VC,BitVec.toNat_xor,BitVec.toNat_ofNat,BitVec.toNat_ofNat,Nat.mod_eq_of_lt (show x<2 ^ 64 by omega),Nat.mod_eq_of_lt (show y<2 ^ 64 by omega),AA (by omega) (by omega)]
theorem Zm{s k:Nat}(f:s<1073741824)(h:k≤30):B8 .i64 (Bu .i64 (s:Int) (k:Int)) 1=(((s.testBit k).toNat:Nat):Int):=by
 have:s / 2 ^ k≤s:=Nat.div_le_self _ _
 rw [Aip h,Ag5 (by omega),Nat.testBit_eq_decide_div_mod_eq]
 have:s / 2 ^ k%2<2:=Nat.mod_lt _ (by omega)
 by_cases e:s / 2 ^ k%2=1
 simp [e]
 have:s / 2 ^ k%2=0:=by omega
 simp [this]
theorem WB{s k:Nat}(e:s<1073741824)(h:k≤30):(B8 .i64 (Bu .i64 (s:Int) (k:Int)) 1==1)=s.testBit k:=by
 rw [Zm e h]; cases s.testBit k <;> rfl
theorem Aat{s k:Nat}(e:s<1073741824)(h:k≤30):(B8 .i64 (Bu .i64 (s:Int) (k:Int)) 1==0)=!s.testBit k:=by
 rw [Zm e h]; cases s.testBit k <;> rfl
theorem ES{S R:Type}(f:Nat→S→Int→Ae R)(n:Nat)(e:Nat→S)(rest:Ae R)(hn:n<4611686018427387904){j:Nat}(hj:j≤n)
  (s:∀ m k,j≤k→k<n→f (m+1) (e k) (k:Int)=f m (e (k+1)) ((k+1:Nat):Int)) (he:∀ m,f (m+1) (e n) (n:Int)=rest):f FU (e j) (j:Int)=rest:=by
 have u:∀ d k m,n-k=d→j≤k→k≤n→d<m→f m (e k) (k:Int)=rest:=by
  intro d
  induction d with
  | zero =>
   intro k m hd g v l
   have:k=n:=by omega
   subst this
   cases m with
   | zero=>omega
   | succ m=>exact he m
  | succ d h =>
   intro k m hd g v l
   cases m with
   | zero=>omega
   | succ m=>rw [s m k g (by omega)]; exact h (k+1) m (by omega) (by omega) (by omega) (by omega)
 exact u (n-j) j FU rfl (Nat.le_refl _) hj (Dw (by omega))
theorem Ah8{S R:Type}(f:Nat→S→Int→Ae R)(n:Nat)(g:Nat→Bool)(l:Nat→S)(rest u:Ae R)(hn:n<4611686018427387904)
  (hs:∀ m k,k<n→(∀ i,i<k→g i=true)→f (m+1) (l k) (k:Int)=if g k=true then f m (l (k+1)) ((k+1:Nat):Int) else u) (he:∀ m,f (m+1) (l n) (n:Int)=rest):f FU (l 0) 0=if (List.range n).all g=true then rest else u:=by
 have ae:∀ d k m,n-k=d→k≤n→d<m→(∀ i,i<k→g i=true)→f m (l k) (k:Int)=if (List.range n).all g=true then rest else u:=by
  intro d
  induction d with
  | zero =>
   intro k m hd hk hm s
   have:k=n:=by omega
   subst this
   cases m with
   | zero=>omega
   | succ m=>rw [he,if_pos (List.all_eq_true.2 fun i v=>s i (List.mem_range.1 v))]
  | succ d ih =>
   intro k m hd hk hm s
   cases m with
   | zero=>omega
   | succ m =>
    rw [hs m k (by omega) s]
    by_cases h:g k=true
    rw [if_pos h]
    exact ih (k+1) m (by omega) (by omega) (by omega) (fun i v=>by
     by_cases e:i=k
     subst e; exact h
     exact s i (by omega))
    rw [if_neg h,if_neg]
    intro ha
    exact h (List.all_eq_true.1 ha k (List.mem_range.2 (by omega)))
 exact ae n 0 FU rfl (by omega) (Dw hn) (fun i v=>by omega)
theorem Vy{R:Type}(f:Nat→Int→Ae R)(n:Nat)(p:Nat→Bool)(e:Nat→Ae R)(g:Ae R)(hn:n<4611686018427387904)
  (v:∀ m k,k<n→f (m+1) (k:Int)=if p k=true then e k else f m ((k+1:Nat):Int)) (he:∀ m,f (m+1) (n:Int)=g):f FU 0=match (List.range n).find? p with
   | some k=>e k
   | none=>g:=by
 have aa:∀ d k m,n-k=d→k≤n→d<m→f m (k:Int)=match (List.range' k d).find? p with
   | some k=>e k
   | none=>g:=by
  intro d
  induction d with
  | zero =>
   intro k m hd u s
   have:k=n:=by omega
   subst this
   cases m with
   | zero=>omega
   | succ m=>rw [he]; rfl
  | succ d l =>
   intro k m hd u s
   cases m with
   | zero=>omega
   | succ m =>
    rw [v m k (by omega),List.range'_succ,List.find?_cons]
    by_cases h:p k=true
    rw [if_pos h,h]
    have h':p k=false:=by simpa using h
    rw [if_neg h,h']
    exact l (k+1) m (by omega) (by omega) (by omega)
 have:=aa n 0 FU rfl (by omega) (Dw hn)
 rw [List.range_eq_range']
 exact this
theorem Abb(u:Nat)(h:u<4096):Iz (u:Int)=some (Dx 12 u:Int):=by
 have:∀ a:Nat,a<64→∀ b:Nat,b<64→Iz ((64*a+b:Nat):Int)=some (Dx 12 (64*a+b):Int):=by decide +kernel
 have:=this (u / 64) (by omega) (u%64) (by omega)
 rwa [Nat.div_add_mod] at this
structure CO (x:List (List Int)) (n:Nat) (c:Nat→Nat→Int):Prop where
 len:x.length=n
 row:∀ i,i<n→∃ r,x[i]? = some r∧r.length=n∧∀ k,k<n→r[k]? = some (c i k)
 bd:∀ i k,i<n→k<n→0≤c i k∧c i k≤2100000
 n1:1≤n
 n12:n≤12
theorem Qn{n:Nat}(h:n≤12):1≤2 ^ n∧2 ^ n≤4096:=⟨Nat.one_le_two_pow,Nat.pow_le_pow_right (n:=2) (by omega) h⟩
def KT(n:Nat)(c:Nat→Nat→Int)(m:Nat):List Int:=RX n c m++List.replicate (2 ^ n-1-m) 0
theorem PC(n:Nat)(c:Nat→Nat→Int){m:Nat}(h:m<2 ^ n):(KT n c m).length=2 ^ n:=by
 unfold KT
 rw [Cy,List.length_replicate,IJ]
 omega
theorem MU(n:Nat)(c:Nat→Nat→Int){m s:Nat}(e:s≤m):(KT n c m)[s]? = some (VV n c s):=by
 unfold KT
 rw [List.getElem?_append_left (by rw [IJ]; omega)]
 exact Tz n c e
theorem Aez(n:Nat)(c:Nat→Nat→Int){m:Nat}(h:m+1<2 ^ n):(KT n c m).set (m+1) (VV n c (m+1))=KT n c (m+1):=by
 apply List.ext_getElem?
 intro i
 have l:=PC n c (m:=m) (by omega)
 have g:=PC n c h
 rcases Nat.lt_trichotomy i (m+1) with f|f|f
 rw [List.getElem?_set_ne (by omega),MU n c (by omega),MU n c (by omega)]
 subst f
 rw [List.getElem?_set_self (by omega),MU n c (Nat.le_refl _)]
 rw [List.getElem?_set_ne (by omega)]
 unfold KT
 rw [List.getElem?_append_right (by rw [IJ]; omega),List.getElem?_append_right (by rw [IJ]; omega),IJ,IJ,List.getElem?_replicate,List.getElem?_replicate]
 by_cases e:i-(m+1)<2 ^ n-1-m
 rw [if_pos e,if_pos (by omega)]
 rw [if_neg e,if_neg (by omega)]
theorem Ls(a b:Int):FD a b=some (min a b):=by
 unfold FD
 by_cases h:a<b
 rw [if_pos (by simpa using h),Int.min_eq_left (by omega)]
 rw [if_neg (by simpa using h),Int.min_eq_right (by omega)]
theorem Agy(a b:Int):Fq a b=min a b:=by
 unfold Fq
 by_cases h:b<a
 rw [if_pos h,Int.min_eq_right (by omega)]
 rw [if_neg h,Int.min_eq_left (by omega)]
theorem Ack(x:List (List Int)){n:Nat}(f:x.length=n)(hn:n≤12){s:Nat}(h:s<1073741824)(l:List Int)(e:List Int→Int→Ae (List Int)) :
  ET x (s:Int) l e FU 0 0=Option.bind (AG l (s:Int)) fun v=>Option.bind (AG x ((n:Int)-(Dx n s:Int))) fun g=>DM g (s:Int) e FU (BL l (s:Int) 1000000000) 0:=by
 have:=ES (ET x (s:Int) l e) n (fun k=>(Dx k s:Int)) (Option.bind (AG l (s:Int)) fun v=>Option.bind (AG x ((n:Int)-(Dx n s:Int))) fun g=>DM g (s:Int) e FU (BL l (s:Int) 1000000000) 0) (by omega) (j:=0) (by omega) (fun m k _ hk=>?_) (fun m=>?_)
 simpa [Dx] using this
 have u:=Nj k s
 rw [ET,if_pos (by rw [f]; simp; omega),FB (by omega) (by omega),if_pos (by simp),Zm h (by omega),AC (by omega),Js]
 have hb:(s.testBit k).toNat≤1:=by cases s.testBit k <;> simp
 rw [AA (by omega) (by omega)]
 rfl
 have u:=Nj n s
 rw [ET,if_neg (by rw [f]; simp),f,AA (by omega) (by omega)]
theorem Agl{x:List (List Int)}{n:Nat}{c:Nat→Nat→Int}(h:CO x n c){m:Nat}(l:m+1<2 ^ n){r:List Int}(u:r.length=n)(hc:∀ k,k<n→r[k]? = some (c (n-Dx n (m+1)) k))(g:List Int→Int→Ae (List Int)) :
  DM r ((m+1:Nat):Int) g FU (BL (KT n c m) ((m+1:Nat):Int) 1000000000) 0=g (KT n c (m+1)) ((m+2:Nat):Int):=by
 have aa:=Qn h.n12
 have hn:=h.n12
 have hp:0<Dx n (m+1):=by
  obtain ⟨k,f,v⟩:=Pg l (by omega)
  have:=P9 f v
  omega
 have aj:=Nj n (m+1)
 have ag:=PC n c (m:=m) (by omega)
 have ab:=ES (DM r ((m+1:Nat):Int) g) n (fun k=>(KT n c m).set (m+1) (mf (m+1).testBit (fun k=>c (n-Dx n (m+1)) k+VV n c ((m+1) ^^^ 2 ^ k)) X5 k)) (g (KT n c (m+1)) ((m+2:Nat):Int)) (by omega) (j:=0) (by omega) (fun q k _ f=>?_) (fun q=>?_)
 rw [Lq]
 exact ab
 have v:=h.bd (n-Dx n (m+1)) k (by omega) f
 rw [DM,if_pos (by rw [u]; simp; omega)]
 unfold Bf
 dsimp only
 rw [AY,hc k f,Aa,FB (by omega) (by omega),if_pos (by simp),WB (by omega) (by omega),Pq]
 by_cases e:(m+1).testBit k=true
 have hx:=M9 e
 have hv:=Ya h.n12 h.bd (s:=(m+1) ^^^ 2 ^ k) (by omega)
 have ah:2 ^ k≤4096:=Az (Nat.pow_le_pow_right (by omega) (by omega:k≤n)) aa.2
 rw [if_pos e,AY,List.getElem?_set_self (by omega),Aa,MH (by omega),Zl (by omega) (by omega),AY,List.getElem?_set_ne (by omega),MU n c (by omega),Aa,AA (x:=c _ k+_) (by omega) (by omega),Ls,Aa,Aa,Lq,List.set_set,AC (by omega),if_pos e]
 rw [if_neg e,if_neg e,AC (by omega)]
 rw [DM,if_neg (by rw [u]; simp),← XZ n c (by omega),Aez n c l,AA (by omega) (by omega)]
 rfl
theorem Yr{x:List (List Int)}{n:Nat}{c:Nat→Nat→Int}(h:CO x n c):KY x=some (KT n c (2 ^ n-1)):=by
 have ac:=Qn h.n12
 have hn:=h.n12
 unfold KY
 rw [h.len,FB (by omega) (by omega),if_pos (by simp),MH (by omega),Oe (by omega),Aa]
 have l:List.replicate (2 ^ n) (0:Int)=KT n c 0:=by
  unfold KT RX
  rw [show 2 ^ n=(2 ^ n-1-0)+1 by omega,List.replicate_succ]
  simp
 have g:=ES (FN x) (2 ^ n) (fun s=>KT n c (s-1)) (some (KT n c (2 ^ n-1))) (by omega) (j:=1) (by omega) (fun q s ag e=>?_) (fun q=>?_)
 rw [l]; exact g
 rw [FN,h.len,FB (by omega) (by omega),MH (by omega),if_pos (decide_eq_true (Int.ofNat_lt.2 e)),Ack x h.len h.n12 (by omega)]
 obtain ⟨m,rfl⟩:∃ m,s=m+1:=⟨s-1,by omega⟩
 have hp:0<Dx n (m+1):=by
  obtain ⟨k,f,hb⟩:=Pg e (by omega)
  have:=P9 f hb
  omega
 have ai:=Nj n (m+1)
 have ae:=PC n c (m:=m) (by omega)
 obtain ⟨r,v,aa,u⟩:=h.row (n-Dx n (m+1)) (by omega)
 rw [Nat.add_sub_cancel,Ic (by omega),Aa,show (n:Int)-(Dx n (m+1):Int)=((n-Dx n (m+1):Nat):Int) by omega,AY,v,Aa,Agl h e aa u]
 rfl
 rw [FN,h.len,FB (by omega) (by omega),MH (by omega),if_neg (by simp)]
theorem Aac{n s:Nat}(e:s<2 ^ n):∀ m,Dx (n+m) s=Dx n s
 | 0=>rfl
 | m+1=>by
  rw [← Nat.add_assoc,Js,Aac e m,Nat.testBit_lt_two_pow (Nat.lt_of_lt_of_le e (Nat.pow_le_pow_right (by omega) (by omega)))]
  rfl
theorem Ae0{n s:Nat}(f:n≤12)(e:s<2 ^ n):Iz ((2 ^ n-1-s:Nat):Int)=some ((n-Dx n s:Nat):Int):=by
 have g:=Qn f
 rw [Abb _ (by omega)]
 have h1:=Aac (n:=n) (s:=2 ^ n-1-s) (by omega) (12-n)
 rw [show n+(12-n)=12 by omega] at h1
 have h:=W6 e n (Nat.le_refl _)
 rw [h1,show Dx n (2 ^ n-1-s)=n-Dx n s by omega]
theorem Ag6{x:List (List Int)}{n:Nat}{c:Nat→Nat→Int}(h:CO x n c){s:Nat}(h0:0<s)(v:s<2 ^ n)(g:List Int→Int→Ae (List Int)) :
  Ei x ((2 ^ n-1-s:Nat):Int) ((n-Dx n s:Nat):Int) g FU (BL (LM n c (s-1)) ((2 ^ n-1-s:Nat):Int) 13194139533312) 0=g (LM n c s) (Ah (((2 ^ n-1-s:Nat):Int)-1)):=by
 have ac:=Qn h.n12
 have hn:=h.n12
 obtain ⟨j,u,l⟩:=Pg v h0
 have hp:0<Dx n s:=by
  have:=P9 u l
  omega
 have ak:=Nj n s
 have am:=RJ n c (m:=s-1) (by omega)
 obtain ⟨r,hr,ap,ae⟩:=h.row (n-Dx n s) (by omega)
 have ab:∀ k,k<n→s.testBit k=true→0≤c (n-Dx n s) k+VV n c (s ^^^ 2 ^ k)∧c (n-Dx n s) k+VV n c (s ^^^ 2 ^ k)≤27300000:=fun k f e=>by
  have hx:=M9 e
  have hb:=h.bd (n-Dx n s) k (by omega) f
  have hv:=Ya h.n12 h.bd (s:=s ^^^ 2 ^ k) (by omega)
  omega
 have ad:=ES (Ei x ((2 ^ n-1-s:Nat):Int) ((n-Dx n s:Nat):Int) g) n (fun k=>(LM n c (s-1)).set (2 ^ n-1-s) (mf s.testBit (fun k=>c (n-Dx n s) k+VV n c (s ^^^ 2 ^ k)) 13194139533312 k)) (g (LM n c s) (Ah (((2 ^ n-1-s:Nat):Int)-1))) (by omega) (j:=0) (by omega) (fun q k _ f=>?_) (fun q=>?_)
 rw [Lq]
 exact ad
 have hb:=h.bd (n-Dx n s) k (by omega) f
 have an:2 ^ k≤4096:=Az (Nat.pow_le_pow_right (by omega) (by omega:k≤n)) ac.2
 rw [Ei,if_pos (by rw [h.len]; simp; omega)]
 unfold Bf
 dsimp only
 rw [if_pos (by simp),Aat (by omega) (by omega),Rm v f,Bool.not_not,Pq]
 by_cases e:s.testBit k=true
 have hx:=M9 e
 have hv:=ab k f e
 rw [if_pos e,AY,List.getElem?_set_self (by omega),Aa,AY,hr,Aa,AY,ae k f,Aa,MH (by omega),Ab0 (by omega) (by omega),Zf v f e,AY,List.getElem?_set_ne (by omega),Oj n c (by omega) (by omega),Aa,Aa,Lq,List.set_set,AC (by omega),if_pos e,AA (by omega) (by omega),Agy]
 rw [if_neg e,if_neg e,AC (by omega)]
 have e:=ab j u l
 rw [Ei,if_neg (by rw [h.len]; simp),Ah7 (b:=X5) u l (by omega) (by unfold X5; omega),← XZ n c h0]
 have:=Afs n c (m:=s-1) (by omega)
 rw [show s-1+1=s by omega] at this
 rw [this]
theorem Wp{x:List (List Int)}{n:Nat}{c:Nat→Nat→Int}(h:CO x n c):JM x=some (LM n c (2 ^ n-1)):=by
 have v:=Qn h.n12
 have hn:=h.n12
 have u:=h.n1
 have ae:2≤2 ^ n:=Az (by decide:2≤2 ^ 1) (Nat.pow_le_pow_right (by omega) u)
 unfold JM
 rw [h.len,if_pos (by simp),MH (by omega),Oe (by omega),Aa]
 have g:List.replicate (2 ^ n) (0:Int)=LM n c 0:=by
  unfold LM RX
  rw [show [(0:Int)].reverse=List.replicate 1 0 by rfl,List.replicate_append_replicate,show 2 ^ n-1-0+1=2 ^ n by omega]
 have f:=ES (fun m l (k:Int)=>EQ x m l (((2 ^ n-1:Nat):Int)-k)) (2 ^ n) (fun s=>LM n c (s-1)) (some (LM n c (2 ^ n-1))) (by omega) (j:=1) (by omega) (fun q s ac e=>?_) (fun q=>?_)
 rw [g,AA (by omega) (by omega),show ((2 ^ n:Nat):Int)-2=((2 ^ n-1:Nat):Int)-((1:Nat):Int) by omega]
 exact f
 have ad:=Nj n s
 have ab:=RJ n c (m:=s-1) (by omega)
 rw [show ((2 ^ n-1:Nat):Int)-(s:Int)=((2 ^ n-1-s:Nat):Int) by omega,EQ,if_pos (by simp),FB (by omega) (by omega),Ae0 h.n12 e,Aa,Ic (by omega),Aa,Ag6 h (by omega) e,AA (by omega) (by omega),show ((2 ^ n-1-s:Nat):Int)-1=((2 ^ n-1:Nat):Int)-((s+1:Nat):Int) by omega]
 rfl
 rw [EQ,if_neg (by rw [C9]; omega)]
def Re(n:Nat)(c:Nat→Nat→Int)(r s k:Nat):Bool:=s.testBit k&&decide (c r k+VV n c (s ^^^ 2 ^ k)=VV n c s)
def Rd(n:Nat)(c:Nat→Nat→Int)(r s:Nat):Nat:=((List.range n).find? (Re n c r s)).getD 0
def Fy(n:Nat)(c:Nat→Nat→Int):Nat→Nat
 | 0=>2 ^ n-1
 | r+1=>Fy n c r ^^^ 2 ^ Rd n c r (Fy n c r)
def Ma(n:Nat)(c:Nat→Nat→Int)(r:Nat):List Int:=(List.range r).map fun i=>(Rd n c i (Fy n c i):Int)
theorem Xr(n:Nat)(c:Nat→Nat→Int)(r:Nat):Ma n c (r+1)=Ma n c r++[(Rd n c r (Fy n c r):Int)]:=by
 unfold Ma
 rw [List.range_succ,List.map_append]
 rfl
theorem PB(n:Nat)(c:Nat→Nat→Int)(r:Nat):(Ma n c r).length=r:=by unfold Ma; simp
theorem Afe(n:Nat):Dx n (2 ^ n-1)=n:=by
 have h1:=W6 (n:=n) (s:=0) (Nat.two_pow_pos n) n (Nat.le_refl _)
 rw [Xp] at h1
 simpa using h1
theorem Xh{x:List (List Int)}{n:Nat}{c:Nat→Nat→Int}(h:CO x n c):∀ r,r≤n→(Fy n c r<2 ^ n∧Dx n (Fy n c r)=n-r)∧(r<n→(List.range n).find? (Re n c r (Fy n c r))=some (Rd n c r (Fy n c r))∧Rd n c r (Fy n c r)<n∧(Fy n c r).testBit (Rd n c r (Fy n c r))=true):=by
 have ak:=Qn h.n12
 have v:∀ r s,r<n→s<2 ^ n→Dx n s=n-r→(List.range n).find? (Re n c r s)=some (Rd n c r s)∧Rd n c r s<n∧s.testBit (Rd n c r s)=true:=by
  intro r s g m f
  have h0:=Agw m (by omega)
  obtain ⟨k,hk,hb,u⟩:=(Aau h.n12 h.bd s s (Nat.le_refl _) m).2 h0
  rw [f,show n-(n-r)=r by omega] at u
  cases l:(List.range n).find? (Re n c r s) with
  | none =>
   have:=List.find?_eq_none.1 l k (List.mem_range.2 hk)
   unfold Re at this
   simp [hb,u] at this
  | some j =>
   have f:=List.find?_some l
   have hj:j<n:=List.mem_range.1 (List.mem_of_find?_eq_some l)
   have e:Rd n c r s=j:=by unfold Rd; rw [l]; rfl
   rw [e]
   unfold Re at f
   rw [Cq] at f
   exact ⟨rfl,hj,f.1⟩
 intro r
 induction r with
 | zero =>
  intro _
  have h1:Fy n c 0<2 ^ n∧Dx n (Fy n c 0)=n-0:=⟨by unfold Fy; omega,Afe n⟩
  exact ⟨h1,fun g=>v 0 _ g h1.1 h1.2⟩
 | succ r ih =>
  intro g
  obtain ⟨⟨i1,i2⟩,i3⟩:=ih (by omega)
  obtain ⟨_,i4,i5⟩:=i3 (by omega)
  have h1:Fy n c (r+1)<2 ^ n∧Dx n (Fy n c (r+1))=n-(r+1):=by
   have hx:=M9 i5
   have f:=P9 i4 i5
   refine ⟨by unfold Fy; omega,by unfold Fy; omega⟩
  exact ⟨h1,fun g=>v (r+1) _ g h1.1 h1.2⟩
theorem Adt(p:Nat→Bool)(k:Nat):(List.range (k+1)).find? p=match (List.range k).find? p with
  | some j=>some j
  | none=>if p k=true then some k else none:=by
 rw [List.range_succ,List.find?_append]
 cases (List.range k).find? p with
 | some j=>rfl
 | none =>
  rw [Option.none_or,List.find?_cons]
  cases p k <;> rfl
def Ws(o:Ae Nat):Int:=match o with
 | some j=>(j:Int)
 | none=>-1
theorem Ys{x:List (List Int)}{n:Nat}{c:Nat→Nat→Int}(h:CO x n c):KZ x=some (Ma n c n,VV n c (2 ^ n-1)):=by
 have l:=Qn h.n12
 have hn:=h.n12
 have v:=PC n c (m:=2 ^ n-1) (by omega)
 unfold KZ
 rw [Yr h,Aa,v,AA (by omega) (by omega),show ((2 ^ n:Nat):Int)-1=((2 ^ n-1:Nat):Int) by omega]
 have ad:=ES (fun m (s:Int×List Int) k=>Ez x (KT n c (2 ^ n-1)) m s.1 s.2 k) n (fun r=>((Fy n c r:Int),Ma n c r)) (some (Ma n c n,VV n c (2 ^ n-1))) (by omega) (j:=0) (by omega) (fun q r _ g=>?_) (fun q=>?_)
 exact ad
 dsimp only
 obtain ⟨u,ai,ab,ae⟩:=h.row r g
 obtain ⟨⟨i1,i2⟩,i3⟩:=Xh h r (by omega)
 obtain ⟨i6,i4,i5⟩:=i3 g
 rw [Ez,if_pos (by rw [h.len]; simp; omega),AY,ai,Aa]
 have JR:=ES (FO u (Fy n c r:Int) (KT n c (2 ^ n-1)) (Ma n c r) (Ez x (KT n c (2 ^ n-1)) q) (r:Int)) n (fun k=>Ws ((List.range k).find? (Re n c r (Fy n c r)))) (Ez x (KT n c (2 ^ n-1)) q (Fy n c (r+1):Int) (Ma n c (r+1)) ((r+1:Nat):Int)) (by omega) (j:=0) (by omega) (fun q k _ hk=>?_) (fun q=>?_)
 exact JR
 have hb:=h.bd r k g hk
 rw [FO,if_pos (by rw [ab]; simp; omega)]
 unfold Bf
 dsimp only
 rw [AY,ae k hk,Aa,Adt]
 cases hf:(List.range k).find? (Re n c r (Fy n c r)) with
 | some j =>
  unfold Ws
  dsimp only
  rw [if_neg (by simp),if_neg (by simp),AC (by omega)]
 | none =>
  unfold Ws
  dsimp only
  have ag:2 ^ k≤4096:=Az (Nat.pow_le_pow_right (by omega) (by omega:k≤n)) l.2
  rw [if_pos (by simp),FB (by omega) (by omega),if_pos (by simp),WB (by omega) (by omega)]
  by_cases e:(Fy n c r).testBit k=true
  have hx:=M9 e
  have hv:=Ya h.n12 h.bd (s:=Fy n c r ^^^ 2 ^ k) (by omega)
  rw [if_pos e,AY,MU n c (by omega),Aa,MH (by omega),Zl (by omega) (by omega),AY,MU n c (by omega),Aa,AA (by omega) (by omega),AC (by omega)]
  unfold Re
  rw [e,Bool.true_and]
  by_cases f:c r k+VV n c (Fy n c r ^^^ 2 ^ k)=VV n c (Fy n c r)
  rw [if_pos (by simpa using f),if_pos (by simpa using f)]
  rw [if_neg (by simpa using f),if_neg (by simpa using f)]
  rw [if_neg e,if_neg (by simp),AC (by omega),if_neg]
  unfold Re
  simp [e]
 have ag:2 ^ Rd n c r (Fy n c r)≤4096:=Az (Nat.pow_le_pow_right (by omega) (by omega:Rd n c r (Fy n c r)≤n)) l.2
 rw [FO,if_neg (by rw [ab]; simp),i6]
 unfold Ws
 dsimp only
 rw [Bg (by rw [PB]; simp; omega),Aa,FB (by omega) (by omega),if_pos (by simp),MH (by omega),Zl (by omega) (by omega),AC (by omega),Xr]
 rfl
 dsimp only
 rw [Ez,if_neg (by rw [h.len]; simp),v,AA (by omega) (by omega),show ((2 ^ n:Nat):Int)-1=((2 ^ n-1:Nat):Int) by omega,AY,MU n c (by omega),Aa]
theorem SQ{x:List (List Int)}{n:Nat}{c:Nat→Nat→Int}(h:CO x n c):HE x=some (Ma n c n):=by
 have ab:=Qn h.n12
 have hn:=h.n12
 unfold HE
 rw [Wp h,Aa]
 have u:=ES (fun m (s:Int×List Int) k=>DJ x (LM n c (2 ^ n-1)) m s.1 s.2 k) n (fun r=>(((2 ^ n-1-Fy n c r:Nat):Int),Ma n c r)) (some (Ma n c n)) (by omega) (j:=0) (by omega) (fun q r _ hr=>?_) (fun q=>?_)
 have e:((2 ^ n-1-Fy n c 0:Nat):Int)=0:=by unfold Fy; omega
 dsimp only at u
 rw [e] at u
 exact u
 dsimp only
 obtain ⟨ag,aj,ao,ah⟩:=h.row r hr
 obtain ⟨⟨l,i2⟩,i3⟩:=Xh h r (by omega)
 obtain ⟨i6,i4,i5⟩:=i3 hr
 rw [DJ,if_pos (by rw [h.len]; simp; omega)]
 unfold Fx
 dsimp only
 have JR:=fun (v:Int→List Int→Ae (List Int))=>Vy (DI x (Ma n c r) v ((2 ^ n-1-Fy n c r:Nat):Int) (r:Int) (LM n c (2 ^ n-1))) n (Re n c r (Fy n c r)) (fun k=>v (((2 ^ n-1-Fy n c r:Nat) ||| 2 ^ k:Nat):Int) (Ma n c r++[(k:Int)])) (v ((2 ^ n-1-Fy n c r:Nat):Int) (Ma n c r)) (by omega) (fun q k g=>?_) (fun q=>?_)
 rw [JR,i6]
 dsimp only
 rw [Zf l i4 i5,AC (by omega),Xr]
 rfl
 have hb:=h.bd r k hr g
 have al:2 ^ k≤4096:=Az (Nat.pow_le_pow_right (by omega) (by omega:k≤n)) ab.2
 rw [DI,if_pos (by rw [h.len]; simp; omega)]
 unfold Bf
 dsimp only
 rw [if_pos (by simp),Aat (by omega) (by omega),Rm l g,Bool.not_not]
 by_cases f:(Fy n c r).testBit k=true
 have hx:=M9 f
 have hv:=Ya h.n12 h.bd (s:=Fy n c r ^^^ 2 ^ k) (by omega)
 rw [if_pos f,AY,aj,Aa,AY,ah k g,Aa,AY,Oj n c (by omega) (by omega),Aa,MH (by omega),Ab0 (by omega) (by omega),Zf l g f,AY,Oj n c (by omega) (by omega),Aa,AA (by omega) (by omega),AC (by omega),Bg (by rw [PB]; simp; omega),Aa,if_pos (c:=decide (0≤(k:Int))=true) (by simp)]
 unfold Re
 rw [f,Bool.true_and]
 rfl
 rw [if_neg f,if_neg (by simp),AC (by omega),if_neg]
 unfold Re
 simp [f]
 rw [DI,if_neg (by rw [h.len]; simp)]
 dsimp only
 rw [DJ,if_neg (by rw [h.len]; simp)]
theorem Pa(c:List (Int×Int))(h:c.length≤1048576):GX c=some c:=by
 unfold GX
 rw [Zq (by simp; omega)]
 rfl
theorem R6(c:List Int)(h:c.length≤1048576):JH c=some c:=by
 unfold JH
 rw [Zq (by simp; omega)]
 rfl
theorem OG(c:List Int)(h:c.length≤1048576):Gg c=some c:=by
 unfold Gg
 rw [Zq (by simp; omega)]
 rfl
def Ajh(x:VH)(p n:Int):VH:=(x.1,BL x.2.1 p n,x.2.2.1,x.2.2.2)
theorem Aa7(l:List Int)(n:Int)(h:l.length<4611686018427387904):Mj l n=some (l.any (·==n)):=by
 unfold Mj
 rw [Ow (GM l n) l (fun u=>!(u==n)) (some false) (some true) h (fun m k u f e=>?_) (fun m=>?_)]
 have:l.any (·==n)=!l.all (fun u=>!(u==n)):=by simp [List.any_eq_not_all_not]
 rw [this]
 cases l.all (fun u=>!(u==n)) <;> simp
 rw [GM,if_pos (by simp; omega),AY,e,Aa,AC (by omega)]
 cases u==n <;> simp
 rw [GM,if_neg (by simp)]
abbrev Ci:=Akg×Akg×Int×(List Int)
def JS(l:List Int)(i:Nat):Int:=(l[i]?).getD 0
theorem KV{l:List Int}{i:Nat}(h:i<l.length):l[i]? = some (JS l i):=by unfold JS; rw [BP h]; rfl
def QF(l:List Int)(n i:Nat):Bool:=BW (JS l i) 0 ((n:Int)-1)&&!(l.take i).any (·==JS l i)
def T3(l:List Int)(n:Nat):Bool:=(List.range l.length).all (QF l n)&&((l.length:Int)==(n:Int))
theorem XA{l:List Int}{n:Nat}(f:l.length<4611686018427387904)(g:n≤12):Ky l (n:Int)=some (T3 l n):=by
 unfold Ky T3
 rw [N3 (Fl l (n:Int)) l.length (QF l n) (some ((l.length:Int)==(n:Int))) (some false) f (fun m k e=>?_) (fun m=>?_)]
 cases (List.range l.length).all (QF l n) <;> simp
 rw [Fl,if_pos (by simp; omega),AY,KV e,Aa]
 unfold Bf QF
 dsimp only
 rw [Dg,Aa,AA (by omega) (by omega),KS _ (by omega),Aa,Aa7 _ _ (by simp; omega),Aa,AC (by omega)]
 cases BW (JS l k) 0 ((n:Int)-1) with
 | false=>rfl
 | true=>cases (l.take k).any (·==JS l k) <;> rfl
 rw [Fl,if_neg (by simp)]
def S7(l:List Int)(i:Nat):Nat:=(l.take i).foldl (fun a k=>a ||| 2 ^ k.toNat) 0
theorem Xe{l:List Int}{i:Nat}(h:i<l.length):S7 l (i+1)=S7 l i ||| 2 ^ (JS l i).toNat:=by
 unfold S7
 rw [List.take_add_one,KV h,List.foldl_append]
 rfl
theorem Vb{l:List Int}{n:Nat}(f:n≤12):∀ i,i≤l.length→(∀ j,j<i→QF l n j=true)→S7 l i<2 ^ 12∧∀ b:Nat,(S7 l i).testBit b=(l.take i).any (·==(b:Int))
 | 0,_,_=>⟨by unfold S7; simp,fun b=>by unfold S7; simp⟩
 | i+1,h,hk=>by
  obtain ⟨h1,m⟩:=Vb f i (by omega) (fun j s=>hk j (by omega))
  have e:=hk i (by omega)
  unfold QF at e
  rw [Cq,Eb] at e
  have g:2 ^ (JS l i).toNat<2 ^ 12:=Nat.pow_lt_pow_right (by omega) (by omega)
  rw [Xe (by omega)]
  refine ⟨Nat.or_lt_two_pow h1 g,fun b=>?_⟩
  rw [Nat.testBit_or,m,Nat.testBit_two_pow,List.take_add_one,KV (by omega),List.any_append]
  congr 1
  rw [Bool.eq_iff_iff]
  simp
  omega
theorem V7{l:List Int}{n:Nat}(v:l.length<4611686018427387904)(s:n≤12):Jn l (n:Int)=some (T3 l n):=by
 unfold Jn T3
 have:=Ah8 (EA l (n:Int)) l.length (QF l n) (fun i=>(S7 l i:Int)) (some ((l.length:Int)==(n:Int))) (some false) v (fun m k f h=>?_) (fun m=>?_)
 refine Eq.trans this ?_
 cases (List.range l.length).all (QF l n) <;> simp
 obtain ⟨h1,h2⟩:=Vb s k (by omega) h
 rw [EA,if_pos (by simp; omega),AY,KV f,Aa]
 unfold Bf QF
 dsimp only
 rw [Df,Aa,AA (by omega) (by omega),AC (by omega)]
 cases ho:BW (JS l k) 0 ((n:Int)-1) with
 | false=>rfl
 | true =>
  have u:=Eb.1 ho
  have e:JS l k=((JS l k).toNat:Int):=by omega
  have hp:2 ^ (JS l k).toNat<2 ^ 12:=Nat.pow_lt_pow_right (by omega) (by omega)
  have g:=h2 (JS l k).toNat
  rw [← e] at g
  rw [if_neg (by simp),if_pos (by simpa using u.1)]
  conv=>lhs; rw [e]
  rw [WB (by omega) (by omega),MH (by omega),Ab0 (by omega) (by omega),g,Xe f]
  cases (l.take k).any (·==JS l k)
  rw [if_neg (by simp),if_pos (decide_eq_true (Int.natCast_nonneg _)),if_pos (by simp)]
  simp
 rw [EA,if_neg (by simp)]
def Nc(a b:List (Int×Int))(n:Int):Bool:=C4 a&&(C4 b&&(((a.length:Int)==(b.length:Int))&&BW n 1 64))
theorem Rj{a b:List (Int×Int)}{n:Int}(e:a.length<4611686018427387904)(f:b.length<4611686018427387904):Ix a b n=some (Nc a b n):=by
 unfold Ix Bf Nc
 dsimp only
 rw [GW a e,Aa,GW b f,Df,Aa,Aa]
 cases C4 a <;> cases C4 b <;> cases ((a.length:Int)==(b.length:Int)) <;> rfl
theorem Ud{a b:List (Int×Int)}(e:a.length<4611686018427387904)(f:b.length<4611686018427387904):Kh a b=some (C4 a&&(C4 b&&((a.length:Int)==(b.length:Int)))):=by
 unfold Kh Bf
 dsimp only
 rw [KJ a e,Aa,KJ b f,Aa]
 cases C4 a <;> cases C4 b <;> rfl
theorem S9{a b:List (Int×Int)}{n:Int}(e:a.length<4611686018427387904)(f:b.length<4611686018427387904):J8 a b n=some (Nc a b n):=by
 unfold J8 Bf Nc
 dsimp only
 rw [Ud e f,Aa,Dg,Aa]
 cases C4 a <;> cases C4 b <;> cases ((a.length:Int)==(b.length:Int)) <;> rfl
structure Af1 (a b:List (Int×Int)) (n:Int):Prop where
 ca:C4 a=true
 cb:C4 b=true
 le:a.length=b.length
 l1:1≤a.length
 l12:a.length≤12
 n1:1≤n
 n64:n≤64
theorem Nb{a b:List (Int×Int)}{n:Int}:Nc a b n=true↔Af1 a b n:=by
 unfold Nc
 rw [Cq,Cq,Cq,Eb,beq_iff_eq]
 constructor
 rintro ⟨h1,f,g,e⟩
 have:=Dm h1
 exact ⟨h1,f,by omega,this.1,this.2,e.1,e.2⟩
 rintro h
 exact ⟨h.ca,h.cb,by have:=h.le; omega,h.n1,h.n64⟩
def M5(t:Ci):Bool:=Nc t.1 t.2.1 t.2.2.1&&T3 t.2.2.2 t.1.length
theorem M6{t:Ci}(h1:t.1.length<4611686018427387904)(g:t.2.1.length<4611686018427387904)(e:t.2.2.2.length<4611686018427387904):Gc t=some (M5 t):=by
 unfold Gc Bf M5 Nc
 dsimp only
 rw [GW _ h1,Aa,GW _ g,Df,Aa,Aa]
 cases f:C4 t.1 with
 | false=>rfl
 | true =>
  rw [V7 e (Dm f).2,Aa]
  cases C4 t.2.1 <;> cases ((t.1.length:Int)==(t.2.1.length:Int)) <;> cases BW t.2.2.1 1 64 <;> rfl
theorem Q8{t:Ci}(h1:t.1.length<4611686018427387904)(g:t.2.1.length<4611686018427387904)(e:t.2.2.2.length<4611686018427387904):Jb t=some (M5 t):=by
 unfold Jb Bf M5 Nc
 dsimp only
 rw [Ud h1 g,Aa,Dg,Aa]
 cases f:C4 t.1 with
 | false=>rfl
 | true =>
  rw [XA e (Dm f).2,Aa]
  cases C4 t.2.1 <;> cases ((t.1.length:Int)==(t.2.1.length:Int)) <;> cases BW t.2.2.1 1 64 <;> rfl
def RZ:Ci:=([],[],0,[])
def SI(n:Nat):List Int:=(List.range n).map fun (i:Nat)=>(i:Int)
def EI(a b:List (Int×Int))(n:Int):Ci×Bool:=if Nc a b n=true then ((a,b,n,SI a.length),true) else (RZ,false)
theorem Mc{a b:List (Int×Int)}{n:Int}{p:List Int}(f:a.length≤1000)(g:b.length≤1000)(e:p.length≤1000):Fw a b n p=some (a,b,n,p):=by
 unfold Fw
 rw [Bg (by simp; omega),Aa,Bg (by simp; omega),Aa,OG _ (by omega),Aa,List.nil_append,List.nil_append]
theorem Q7{a b:List (Int×Int)}{n:Int}{p:List Int}(f:a.length≤1000)(g:b.length≤1000)(e:p.length≤1000):Ja a b n p=some (a,b,n,p):=by
 unfold Ja
 rw [Pa _ (by omega),Aa,Pa _ (by omega),Aa,R6 _ (by omega),Aa]
theorem PA(n:Nat):(SI n).length=n:=by unfold SI; simp
theorem Xq(n:Nat):SI (n+1)=SI n++[(n:Int)]:=by unfold SI; rw [List.range_succ,List.map_append]; rfl
theorem N7{a b:List (Int×Int)}{n:Int}(g:a.length<4611686018427387904)(h:b.length<4611686018427387904):FG a b n=some (EI a b n):=by
 unfold FG EI
 rw [Rj g h,Aa]
 cases e:Nc a b n with
 | false=>rfl
 | true =>
  have f:=Nb.1 e
  have:=f.l12
  have:=f.le
  rw [if_neg (by simp),if_pos rfl]
  refine ES (Dv a b n) a.length SI _ (by omega) (j:=0) (by omega) (fun m k _ l=>?_) (fun m=>?_)
  rw [Dv,if_pos (by simp; omega),Bg (by simp [PA]; omega),Aa,AC (by omega),Xq]
  rw [Dv,if_neg (by simp),Mc (by omega) (by omega) (by rw [PA]; omega),Aa]
theorem Nt{a b:List (Int×Int)}{n:Int}(g:a.length<4611686018427387904)(h:b.length<4611686018427387904):GY a b n=some (EI a b n):=by
 unfold GY EI
 rw [S9 g h,Aa]
 cases e:Nc a b n with
 | false=>rfl
 | true =>
  have f:=Nb.1 e
  have:=f.l12
  have:=f.le
  rw [if_neg (by simp),if_pos rfl]
  refine ES (Du a b n) a.length SI _ (by omega) (j:=0) (by omega) (fun m k _ l=>?_) (fun m=>?_)
  rw [Du,if_pos (by simp; omega),Bg (by simp [PA]; omega),Aa,AC (by omega),Xq]
  rw [Du,if_neg (by simp),Q7 (by omega) (by omega) (by rw [PA]; omega),Aa]
structure TrF (t:Ci):Prop where
 can:Af1 t.1 t.2.1 t.2.2.1
 mat:t.2.2.2.length=t.1.length
 inR:∀ i,i<t.1.length→0≤JS t.2.2.2 i∧(JS t.2.2.2 i).toNat<t.2.1.length
theorem PG{t:Ci}(h:M5 t=true):TrF t:=by
 unfold M5 T3 at h
 rw [Cq,Cq,List.all_eq_true,beq_iff_eq] at h
 obtain ⟨h1,g,m⟩:=h
 have f:=Nb.1 h1
 refine ⟨f,by omega,fun i l=>?_⟩
 have e:=g i (List.mem_range.2 (by omega))
 unfold QF at e
 rw [Cq,Eb] at e
 have:=f.le
 omega
def E0(l:List (Int×Int))(i:Nat):Int×Int:=(l[i]?).getD (0,0)
theorem D9{l:List (Int×Int)}{i:Nat}(h:i<l.length):l[i]? = some (E0 l i):=by unfold E0; rw [BP h]; rfl
theorem JC{l:List (Int×Int)}(h:C4 l=true){i:Nat}(e:i<l.length):Dk (E0 l i)=true:=(JD.1 h).2.1 _ (List.mem_of_getElem? (D9 e))
def HW(t:Ci)(i:Nat):GK:=(E0 t.1 i,E0 t.2.1 (JS t.2.2.2 i).toNat,t.2.2.1)
def Hl(t:Ci):List GK:=(List.range t.1.length).map (HW t)
theorem E2(t:Ci):(Hl t).length=t.1.length:=by unfold Hl; simp
theorem J0(t:Ci){i:Nat}(h:i<t.1.length):(Hl t)[i]? = some (HW t i):=by unfold Hl; simp [h]
theorem YG(t:Ci)(k:Nat):(List.range (k+1)).map (HW t)=(List.range k).map (HW t)++[HW t k]:=by rw [List.range_succ,List.map_append]; rfl
theorem Lr{t:Ci}(f:TrF t){i:Nat}(h:i<t.1.length):JE (HW t i):=⟨JC f.can.ca h,JC f.can.cb (f.inR i h).2⟩
theorem PM{t:Ci}(f:TrF t):Iw t=some (Hl t):=by
 unfold Iw
 have:=f.can.l12
 refine ES (FX t) t.1.length (fun k=>(List.range k).map (HW t)) _ (by omega) (j:=0) (by omega) (fun m k _ e=>?_) (fun m=>?_)
 have h:=f.mat
 have g:=f.inR k e
 rw [FX,if_pos (by simp; omega),AY,KV (by omega),Aa,AY,D9 e,Aa,Il g.1,D9 g.2,Aa,Bg (by simp; omega),Aa,AC (by omega),YG]
 rfl
 rw [FX,if_neg (by rw [f.mat]; simp)]
 rfl
theorem Ns{t:Ci}(f:TrF t):Hr t=some (Hl t):=by
 unfold Hr
 have:=f.can.l12
 refine ES (FSx t) t.1.length (fun k=>(List.range k).map (HW t)) _ (by omega) (j:=0) (by omega) (fun m k _ e=>?_) (fun m=>?_)
 have h:=f.mat
 have g:=f.inR k e
 rw [FSx,if_pos (by simp; omega),AY,KV (by omega),Aa,AY,D9 e,Aa,Il g.1,D9 g.2,Aa,Bg (by simp; omega),Aa,AC (by omega),YG]
 rfl
 rw [FSx,if_neg (by rw [f.mat]; simp)]
 rfl
theorem Nh{a b:Int×Int}(f:Dk a=true)(e:Dk b=true):H3 a b=(a.1-b.1)*(a.1-b.1)+(a.2-b.2)*(a.2-b.2)∧0≤H3 a b∧H3 a b≤2089984:=by
 have f:=G6.1 f
 have e:=G6.1 e
 have h1:=NR (x:=a.1-b.1) (A:=1280) (by omega) (by omega)
 have g:=NR (x:=a.2-b.2) (A:=672) (by omega) (by omega)
 unfold H3
 rw [AA (x:=a.1-b.1) (by omega) (by omega),AA (x:=a.2-b.2) (by omega) (by omega)]
 generalize (a.1-b.1)*(a.1-b.1)=A at *
 generalize (a.2-b.2)*(a.2-b.2)=B at *
 rw [AA (x:=A) (by omega) (by omega),AA (x:=B) (by omega) (by omega),AA (by omega) (by omega)]
 omega
def P2(t:Ci)(k:Nat):Int:=((List.range k).map fun i=>Vd (HW t i)).sum
theorem S8(t:Ci)(k:Nat):P2 t (k+1)=P2 t k+Vd (HW t k):=by unfold P2; rw [List.range_succ,List.map_append,List.sum_append]; simp
theorem T0{t:Ci}(f:TrF t):∀ k,k≤t.1.length→0≤P2 t k∧P2 t k≤2089984*(k:Int)
 | 0,_=>by simp [P2]
 | k+1,h=>by
  have e:=T0 f k (by omega)
  have g:=Lr f (i:=k) (by omega)
  have:=(Nh g.1 g.2).2
  rw [S8]
  unfold Vd
  omega
def NY(t:Ci):Int×Bool:=if M5 t=true then (P2 t t.1.length,true) else (0,false)
theorem Wq{t:Ci}(h1:t.1.length<4611686018427387904)(s:t.2.1.length<4611686018427387904)(u:t.2.2.2.length<4611686018427387904):Iy t=some (NY t):=by
 unfold Iy NY
 rw [M6 h1 s u,Aa]
 cases v:M5 t with
 | false=>rfl
 | true =>
  have f:=PG v
  have:=f.can.l12
  have e:JL t=some (P2 t t.1.length):=by
   unfold JL
   refine ES (EO t) t.1.length (P2 t) _ (by omega) (j:=0) (by omega) (fun m k _ h=>?_) (fun m=>?_)
   have hm:=f.mat
   have l:=f.inR k h
   have hb:=T0 f k (by omega)
   have g:=Lr f h
   have hq:=(Nh g.1 g.2).2
   have e:H3 (E0 t.1 k) (E0 t.2.1 (JS t.2.2.2 k).toNat)=Vd (HW t k):=rfl
   rw [EO,if_pos (by simp; omega),AY,KV (by omega),Aa,AY,D9 h,Aa,Il l.1,D9 l.2,Aa,HX,Aa,AC (by omega),e,AA (by unfold Vd; omega) (by unfold Vd; omega),S8]
   rw [EO,if_neg (by rw [f.mat]; simp)]
  rw [if_neg (by simp),e,if_pos rfl]
  rfl
theorem Wc{t:Ci}(h1:t.1.length<4611686018427387904)(l:t.2.1.length<4611686018427387904)(s:t.2.2.2.length<4611686018427387904):Ir t=some (NY t):=by
 unfold Ir NY
 rw [Q8 h1 l s,Aa]
 cases u:M5 t with
 | false=>rfl
 | true =>
  have f:=PG u
  have:=f.can.l12
  have e:Mk t=some (P2 t t.1.length):=by
   unfold Mk
   rw [Ns f,Aa]
   refine ES (GO (Hl t)) t.1.length (P2 t) _ (by omega) (j:=0) (by omega) (fun m k _ h=>?_) (fun m=>?_)
   have v:=T0 f k (by omega)
   have g:=Lr f h
   have hq:=(Nh g.1 g.2).2
   have e:H3 (HW t k).1 (HW t k).2.1=Vd (HW t k):=rfl
   rw [GO,if_pos (by rw [E2]; simp; omega),AY,J0 t h,Aa,MN,Aa,AC (by omega),e,AA (by unfold Vd; omega) (by unfold Vd; omega),S8]
   rw [GO,if_neg (by rw [E2]; simp)]
  rw [if_neg (by simp),e,if_pos rfl]
  rfl
def Ze(a b:List (Int×Int))(i k:Nat):Int:=H3 (E0 a i) (E0 b k)
def OI(a b:List (Int×Int))(i n:Nat):List Int:=(List.range n).map (Ze a b i)
def N9(a b:List (Int×Int))(n:Nat):List (List Int):=(List.range n).map fun i=>OI a b i b.length
theorem Xz(a b:List (Int×Int))(i n:Nat):OI a b i (n+1)=OI a b i n++[Ze a b i n]:=by unfold OI; rw [List.range_succ,List.map_append]; rfl
theorem X2(a b:List (Int×Int))(n:Nat):N9 a b (n+1)=N9 a b n++[OI a b n b.length]:=by unfold N9; rw [List.range_succ,List.map_append]; rfl
theorem Wo{a b:List (Int×Int)}(g:a.length≤1000)(h:b.length≤1000):JK a b=some (N9 a b a.length):=by
 unfold JK
 refine ES (Eg a b) a.length (N9 a b) _ (by omega) (j:=0) (by omega) (fun m i _ f=>?_) (fun m=>?_)
 rw [Eg,if_pos (by simp; omega),AY,D9 f,Aa]
 refine ES (EN b (E0 a i) (N9 a b i) (Eg a b m) (i:Int)) b.length (OI a b i) _ (by omega) (j:=0) (by omega) (fun m k _ e=>?_) (fun m=>?_)
 rw [EN,if_pos (by simp; omega),AY,D9 e,Aa,HX,Aa,Bg (by simp [OI]; omega),Aa,AC (by omega),Xz]
 rfl
 rw [EN,if_neg (by simp),Bg (by simp [N9]; omega),Aa,AC (by omega),X2]
 rw [Eg,if_neg (by simp)]
theorem Yt{a b:List (Int×Int)}(g:a.length≤1000)(h:b.length≤1000):Ld a b=some (N9 a b a.length):=by
 unfold Ld
 refine ES (EU a b) a.length (N9 a b) _ (by omega) (j:=0) (by omega) (fun m i _ f=>?_) (fun m=>?_)
 rw [EU,if_pos (by simp; omega),AY,D9 f,Aa]
 refine ES (FT b (E0 a i) (N9 a b i) (EU a b m) (i:Int)) b.length (OI a b i) _ (by omega) (j:=0) (by omega) (fun m k _ e=>?_) (fun m=>?_)
 rw [FT,if_pos (by simp; omega),AY,D9 e,Aa,MN,Aa,Bg (by simp [OI]; omega),Aa,AC (by omega),Xz]
 rfl
 rw [FT,if_neg (by simp),Bg (by simp [N9]; omega),Aa,AC (by omega),X2]
 rw [EU,if_neg (by simp)]
theorem Adw{a b:List (Int×Int)}{n:Int}(f:Af1 a b n):CO (N9 a b a.length) a.length (Ze a b):=by
 have g:=f.le
 refine ⟨by simp [N9],fun i e=>⟨OI a b i b.length,by simp [N9,e],by simp [OI,g],fun k h=>?_⟩,fun i k e h=>?_,f.l1,f.l12⟩
 have:k<b.length:=by omega
 simp [OI,this]
 have:=(Nh (JC f.ca e) (JC f.cb (by omega:k<b.length))).2
 unfold Ze
 omega
def Gk(a b:List (Int×Int))(n:Int):Ci×Bool:=if Nc a b n=true then ((a,b,n,Ma a.length (Ze a b) a.length),true) else (RZ,false)
theorem RF{a b:List (Int×Int)}{n:Int}(g:a.length<4611686018427387904)(h:b.length<4611686018427387904):Ha a b n=some (Gk a b n):=by
 unfold Ha Gk
 rw [Rj g h,Aa]
 cases e:Nc a b n with
 | false=>rfl
 | true =>
  have f:=Nb.1 e
  have:=f.l12
  have:=f.le
  rw [if_neg (by simp),if_pos rfl,Wo (by omega) (by omega),Aa,SQ (Adw f),Aa,Mc (by omega) (by omega) (by rw [PB]; omega),Aa]
theorem R7{a b:List (Int×Int)}{n:Int}(g:a.length<4611686018427387904)(h:b.length<4611686018427387904):GZ a b n=some (Gk a b n):=by
 unfold GZ Gk
 rw [S9 g h,Aa]
 cases e:Nc a b n with
 | false=>rfl
 | true =>
  have f:=Nb.1 e
  have:=f.l12
  have:=f.le
  rw [if_neg (by simp),if_pos rfl,Yt (by omega) (by omega),Aa,Ys (Adw f),Aa,Q7 (by omega) (by omega) (by rw [PB]; omega),Aa]
structure SmT (t:Ci):Prop where
 h1:t.1.length≤12
 h2:t.2.1.length≤12
 h3:t.2.2.2.length≤12
theorem SmT.sum{t:Ci}(h:SmT t):Iy t=some (NY t)∧Ir t=some (NY t):=by
 have:=h.h1
 have:=h.h2
 have:=h.h3
 exact ⟨Wq (by omega) (by omega) (by omega),Wc (by omega) (by omega) (by omega)⟩
theorem Add:SmT RZ:=⟨by simp [RZ],by simp [RZ],by simp [RZ]⟩
theorem Xs(a b:List (Int×Int))(n:Int):SmT (EI a b n).1:=by
 unfold EI
 split
 rename_i h
 have f:=Nb.1 h
 have:=f.l12
 have:=f.le
 exact ⟨by dsimp only; omega,by dsimp only; omega,by dsimp only; rw [PA]; omega⟩
 exact Add
theorem Adi(a b:List (Int×Int))(n:Int):SmT (Gk a b n).1:=by
 unfold Gk
 split
 rename_i h
 have f:=Nb.1 h
 have:=f.l12
 have:=f.le
 exact ⟨by dsimp only; omega,by dsimp only; omega,by dsimp only; rw [PB]; omega⟩
 exact Add
theorem Ux:M5 RZ=false:=by decide
theorem Ago(t:Ci):0≤(NY t).1∧(NY t).1≤100000000:=by
 unfold NY
 split
 rename_i h
 have f:=PG h
 have:=f.can.l12
 have:=T0 f t.1.length (by omega)
 dsimp only
 omega
 simp
def Y5(bad:Nat→Nat→Bool)(n i:Nat):List (List Int):=((List.range' (i+1) (n-(i+1))).filter (bad i)).map fun (k:Nat)=>[(i:Int),(k:Int)]
def KN(bad:Nat→Nat→Bool)(n j:Nat):List (List Int):=(List.range j).foldl (fun s i=>s++Y5 bad n i) []
theorem Aeo(e:Nat→Nat→Bool)(n i:Nat):(Y5 e n i).length≤n:=by
 unfold Y5
 rw [List.length_map]
 refine Az (List.length_filter_le _ _) ?_
 simp
theorem RA(e:Nat→Nat→Bool)(n j:Nat):KN e n (j+1)=KN e n j++Y5 e n j:=by unfold KN; rw [List.range_succ,List.foldl_append]; rfl
theorem SJ(e:Nat→Nat→Bool)(n:Nat):∀ j,(KN e n j).length≤n*j
 | 0=>by simp [KN]
 | j+1=>by
  have:=SJ e n j
  have:=Aeo e n j
  rw [RA,Cy,Nat.mul_succ]
  omega
theorem Pb(F1:Nat→List (List Int)→Int→Ae Akl)(F2:(List (List Int)→Int→Ae Akl)→Nat→Nat→List (List Int)→Int→Ae Akl)(e:Nat→Nat→Bool)(n:Nat)(h:n≤100)
  (h1:∀ m s i,i<n→F1 (m+1) s (i:Int)=F2 (F1 m) i FU s ((i+1:Nat):Int))
  (u:∀ nx i m s k,i<n→k<n→s.length≤1000000→F2 nx i (m+1) s (k:Int)=F2 nx i m (if e i k then s++[[(i:Int),(k:Int)]] else s) ((k+1:Nat):Int))
  (v:∀ nx i m s,i<n→F2 nx i (m+1) s (n:Int)=nx s ((i+1:Nat):Int))
  (l:∀ m s,F1 (m+1) s (n:Int)=some s):F1 FU [] 0=some (KN e n n):=by
 refine ES F1 n (KN e n) _ (by omega) (j:=0) (by omega) (fun m i _ f=>?_) (fun m=>l m _)
 have hl:=SJ e n i
 have hm:n*i≤100*100:=Nat.mul_le_mul h (by omega)
 rw [h1 m _ i f,Ae3 (F2 (F1 m) i) n 1000000 (e i) (fun (k:Nat)=>[(i:Int),(k:Int)]) (fun s=>F1 m s ((i+1:Nat):Int)) (by omega) (fun q s k g hs=>u _ i q s k f g (by omega)) (fun q s=>v _ i q s f) (i+1) (KN e n i) (by omega) (by omega),RA]
 rfl
theorem Ac8{f:Nat→Nat→Bool}{n j:Nat}{q:List Int}(h:q ∈ KN f n j):∃ i k:Nat,q=[(i:Int),(k:Int)]∧i<j∧i<k∧k<n∧f i k=true:=by
 induction j with
 | zero=>cases h
 | succ j g =>
  rw [RA,AV] at h
  rcases h with h|h
  obtain ⟨i,k,h1,m,l⟩:=g h
  exact ⟨i,k,h1,by omega,l⟩
  unfold Y5 at h
  obtain ⟨k,e,rfl⟩:=List.mem_map.1 h
  rw [List.mem_filter,List.mem_range'_1] at e
  exact ⟨j,k,rfl,by omega,by omega,by omega,e.2⟩
def cfB(t:Ci)(least:Int)(i k:Nat):Bool:=!Ur (HW t i) (HW t k) least
def Mu(t:Ci)(least:Int):Akl×Bool:=if (M5 t&&BW least 0 80)=true then (KN (cfB t least) t.1.length t.1.length,true) else ([],false)
theorem SS{t:Ci}(h:SmT t)(g:Int):HI t g=some (Mu t g):=by
 have:=h.h1
 have:=h.h2
 have:=h.h3
 unfold HI Bf Mu
 dsimp only
 rw [M6 (by omega) (by omega) (by omega),Aa,SR,Aa]
 cases ho:M5 t with
 | false=>rfl
 | true =>
  cases l:BW g 0 80 with
  | false=>rfl
  | true =>
   have f:=PG ho
   have e:HH t g=some (KN (cfB t g) t.1.length t.1.length):=by
    unfold HH
    rw [PM f,Aa]
    refine Pb (DL (Hl t) g) (fun u i=>DK (Hl t) (i:Int) g u) _ _ (by omega) (fun m s i l=>?_) (fun u i m s k l v hs=>?_) (fun u i m s l=>?_) (fun m s=>?_)
    rw [DL,if_pos (by rw [E2]; simp; omega),AC (by omega)]
    rw [DK,if_pos (by rw [E2]; simp; omega)]
    unfold Bf cfB
    dsimp only
    rw [AY,J0 t l,Aa,AY,J0 t v,Aa,Wn _ _ _ (Lr f l) (Lr f v),Aa,Bg (by simp; omega),Aa,AC (by omega)]
    cases Ur (HW t i) (HW t k) g <;> rfl
    rw [DK,if_neg (by rw [E2]; simp),AC (by omega)]
    rw [DL,if_neg (by rw [E2]; simp)]
   rw [e]
   rfl
theorem SB{t:Ci}(h:SmT t)(g:Int):HD t g=some (Mu t g):=by
 have:=h.h1
 have:=h.h2
 have:=h.h3
 unfold HD Mx Bf Mu
 dsimp only
 rw [Q8 (by omega) (by omega) (by omega),Aa,Ql,Aa]
 cases ho:M5 t with
 | false=>rfl
 | true =>
  cases l:BW g 0 80 with
  | false=>rfl
  | true =>
   have f:=PG ho
   have e:Lc t g=some (KN (cfB t g) t.1.length t.1.length):=by
    unfold Lc
    rw [Ns f,Aa]
    refine Pb (FR (Hl t) g) (fun u i=>FQ (Hl t) (HW t i) g (i:Int) u) _ _ (by omega) (fun m s i l=>?_) (fun u i m s k l v hs=>?_) (fun u i m s l=>?_) (fun m s=>?_)
    rw [FR,if_pos (by rw [E2]; simp; omega),AY,J0 t l,Aa,AC (by omega)]
    rw [FQ,if_pos (by rw [E2]; simp; omega)]
    unfold Bf cfB
    dsimp only
    rw [AY,J0 t v,Aa,ZD _ _ _ (Lr f l) (Lr f v),Aa,Bg (by simp; omega),Aa,AC (by omega)]
    cases Ur (HW t i) (HW t k) g <;> rfl
    rw [FQ,if_neg (by rw [E2]; simp),AC (by omega)]
    rw [FR,if_neg (by rw [E2]; simp)]
   rw [e]
   rfl
theorem O7{a b:Int}(v:0≤a)(aa:a≤4000000000000000000)(hb:0<b)(ah:b≤1000000000000000) :
  ∃ g:Int,0<g∧a=(Jt a b).1*g∧b=(Jt a b).2*g∧0≤(Jt a b).1∧(Jt a b).1≤a∧0<(Jt a b).2∧(Jt a b).2≤b:=by
 have l:0<Nat.gcd a.toNat b.toNat:=Nat.gcd_pos_of_pos_right _ (by omega)
 obtain ⟨x,hx⟩:=Nat.gcd_dvd_left a.toNat b.toNat
 obtain ⟨y,u⟩:=Nat.gcd_dvd_right a.toNat b.toNat
 have f:a=((Nat.gcd a.toNat b.toNat*x:Nat):Int):=by omega
 have e:b=((Nat.gcd a.toNat b.toNat*y:Nat):Int):=by omega
 unfold Jt
 generalize Nat.gcd a.toNat b.toNat=g at *
 have ac:x≤g*x:=Nat.le_mul_of_pos_left _ l
 have ae:y≤g*y:=Nat.le_mul_of_pos_left _ l
 have m:Int.tdiv a (g:Int)=(x:Int):=by rw [f,Int.natCast_mul,Int.mul_comm,Int.mul_tdiv_cancel _ (by omega)]
 have s:Int.tdiv b (g:Int)=(y:Int):=by rw [e,Int.natCast_mul,Int.mul_comm,Int.mul_tdiv_cancel _ (by omega)]
 rw [m,s,AA (by omega) (by omega),AA (by omega) (by omega)]
 have y0:0<y:=by
  rcases Nat.eq_zero_or_pos y with h|h
  subst h; simp at e; omega
  exact h
 refine ⟨(g:Int),by omega,?_,?_,by omega,by omega,by omega,by omega⟩
 dsimp only; rw [f,Int.natCast_mul,Int.mul_comm]
 dsimp only; rw [e,Int.natCast_mul,Int.mul_comm]
def Hm(M:Int)(f:Int×Int):Bool:=decide (f.1<M*f.2)
theorem RD{a b g:Int}(e:0<g):a*g<b*g↔a<b :=
 ⟨fun h=>Int.lt_of_mul_lt_mul_right h (Int.le_of_lt e),fun h=>Int.mul_lt_mul_of_pos_right h e⟩
theorem Ad5{M a b e f g:Int}(l:0<g)(h:a=e*g)(m:b=f*g):Hm M (a,b)=Hm M (e,f):=by
 unfold Hm
 rw [decide_eq_decide]
 dsimp only
 rw [h,m,← Int.mul_assoc,RD l]
theorem WC{M a b:Int}(e:0≤a)(h:a≤4000000000000000000)(l:0<b)(s:b≤1000000000000000):Hm M (Jt a b)=Hm M (a,b):=by
 obtain ⟨g,f,h1,m,_⟩:=O7 e h l s
 rw [Ad5 f h1 m]
def QE(a b:Int×Int):Int×Int:=if T5 b.1 b.2 a.1 a.2=true then b else a
theorem Zn{M:Int}{a b:Int×Int}(f:0<a.2)(g:0<b.2):Hm M (QE a b)=(Hm M a||Hm M b):=by
 unfold QE T5
 by_cases h:b.1*a.2<a.1*b.2
 rw [if_pos (decide_eq_true h)]
 rw [Bool.eq_iff_iff,Bool.or_eq_true]
 refine ⟨.inr,fun h1=>h1.elim (fun h1=>?_) id⟩
 unfold Hm at h1 ⊢
 rw [C9] at h1 ⊢
 have l:a.1*b.2<M*a.2*b.2:=Int.mul_lt_mul_of_pos_right h1 g
 have e:b.1*a.2<M*b.2*a.2:=by
  have:M*a.2*b.2=M*b.2*a.2:=by rw [Int.mul_assoc,Int.mul_comm a.2,← Int.mul_assoc]
  omega
 exact (RD f).1 e
 rw [if_neg (by simpa using h)]
 rw [Bool.eq_iff_iff,Bool.or_eq_true]
 refine ⟨.inl,fun h1=>h1.elim id (fun h1=>?_)⟩
 unfold Hm at h1 ⊢
 rw [C9] at h1 ⊢
 have l:b.1*a.2<M*b.2*a.2:=Int.mul_lt_mul_of_pos_right h1 f
 have e:a.1*b.2<M*a.2*b.2:=by
  have:M*a.2*b.2=M*b.2*a.2:=by rw [Int.mul_assoc,Int.mul_comm a.2,← Int.mul_assoc]
  omega
 exact (RD g).1 e
abbrev IM:=Int×Int
def JR(P Q:IM):Bool:=decide (P.1*(Q.1-P.1)+P.2*(Q.2-P.2)<0)&&decide (0-(P.1*(Q.1-P.1)+P.2*(Q.2-P.2))<(Q.1-P.1)*(Q.1-P.1)+(Q.2-P.2)*(Q.2-P.2))
def I1(P Q:IM):Int:=P.1*Q.2-P.2*Q.1
def MA(P Q:IM):Int:=(Q.1-P.1)*(Q.1-P.1)+(Q.2-P.2)*(Q.2-P.2)
def Ku(P:IM):Int:=P.1*P.1+P.2*P.2
def JT(P Q:IM):Int×Int:=if JR P Q=true then (I1 P Q*I1 P Q,MA P Q) else (Ku Q,1)
def Nu(P Q:IM):Int×Int:=if JR P Q=true then (I1 P Q*I1 P Q,MA P Q) else (min (Ku P) (Ku Q),1)
theorem Af4(x:Int):0≤x*x:=by
 have:(0:Int)≤((x.natAbs*x.natAbs:Nat):Int):=Int.natCast_nonneg _
 rwa [Int.natAbs_mul_self] at this
theorem Aju(P Q:IM):I1 P Q*I1 P Q+(P.1*(Q.1-P.1)+P.2*(Q.2-P.2))*(P.1*(Q.1-P.1)+P.2*(Q.2-P.2))=Ku P*MA P Q:=by
 unfold I1 Ku MA
 grind
theorem Ajc(P Q:IM):I1 P Q*I1 P Q+(Q.1*(Q.1-P.1)+Q.2*(Q.2-P.2))*(Q.1*(Q.1-P.1)+Q.2*(Q.2-P.2))=Ku Q*MA P Q:=by
 unfold I1 Ku MA
 grind
theorem Ain(P Q:IM):I1 P Q*I1 P Q≤Ku P*MA P Q∧I1 P Q*I1 P Q≤Ku Q*MA P Q:=by
 have h1:=Aju P Q
 have f:=Ajc P Q
 have g:=Af4 (P.1*(Q.1-P.1)+P.2*(Q.2-P.2))
 have e:=Af4 (Q.1*(Q.1-P.1)+Q.2*(Q.2-P.2))
 omega
theorem U1{P Q:IM}(h:JR P Q=true):0<MA P Q:=by
 unfold JR at h
 rw [Cq,C9,C9] at h
 unfold MA
 omega
theorem Ag7{M a b:Int}:Hm M (min a b,1)=(Hm M (a,1)||Hm M (b,1)):=by
 unfold Hm
 rw [Bool.eq_iff_iff,Bool.or_eq_true]
 simp only [C9]
 omega
theorem X4{M:Int}{P Q:IM}(h:JR P Q=true):(Hm M (Ku P,1)=true→Hm M (JT P Q)=true)∧(Hm M (Ku Q,1)=true→Hm M (JT P Q)=true):=by
 have g:=U1 h
 obtain ⟨l,m⟩:=Ain P Q
 have f:∀ x,I1 P Q*I1 P Q≤x*MA P Q→Hm M (x,1)=true→Hm M (JT P Q)=true:=by
  intro x s e
  unfold Hm JT at *
  rw [if_pos h]
  rw [C9] at e ⊢
  dsimp only at e ⊢
  have:x*MA P Q<M*1*MA P Q:=Int.mul_lt_mul_of_pos_right e g
  rw [Int.mul_one] at this
  omega
 exact ⟨f _ l,f _ m⟩
theorem Zo{M:Int}{P Q:IM}:Hm M (Nu P Q)=if JR P Q=true then Hm M (JT P Q) else (Hm M (Ku P,1)||Hm M (Ku Q,1)):=by
 unfold Nu JT
 split
 rfl
 exact Ag7
def NB(M:Int)(D:Nat→IM):Nat→Bool
 | 0=>Hm M (Ku (D 0),1)
 | k+1=>NB M D k||Hm M (JT (D k) (D (k+1)))
def LN(M:Int)(D:Nat→IM):Nat→Bool
 | 0=>false
 | k+1=>LN M D k||Hm M (Nu (D k) (D (k+1)))
theorem Ahc{M:Int}{D:Nat→IM}:∀ k,Hm M (Ku (D k),1)=true→NB M D k=true
 | 0,h=>h
 | k+1,h=>by
  rw [NB,Bool.or_eq_true]
  right
  by_cases e:JR (D k) (D (k+1))=true
  exact (X4 e).2 h
  unfold JT
  rw [if_neg e]
  exact h
theorem Ait{M:Int}{D:Nat→IM}:∀ k,NB M D (k+1)=LN M D (k+1):=by
 have l:∀ k,LN M D k=true→NB M D k=true:=by
  intro k
  induction k with
  | zero=>intro h; cases h
  | succ k f =>
   intro h
   rw [LN,Bool.or_eq_true,Zo] at h
   rw [NB,Bool.or_eq_true]
   rcases h with h|h
   exact .inl (f h)
   by_cases e:JR (D k) (D (k+1))=true
   rw [if_pos e] at h; exact .inr h
   rw [if_neg e,Bool.or_eq_true] at h
   rcases h with h|h
   exact .inl (Ahc k h)
   right; unfold JT; rw [if_neg e]; exact h
 have m:∀ k,NB M D (k+1)=true→LN M D (k+1)=true:=by
  have g:∀ k,Hm M (JT (D k) (D (k+1)))=true→LN M D (k+1)=true:=by
   intro k h
   rw [LN,Bool.or_eq_true,Zo]
   right
   by_cases e:JR (D k) (D (k+1))=true
   rw [if_pos e]; exact h
   rw [if_neg e,Bool.or_eq_true]
   unfold JT at h
   rw [if_neg e] at h
   exact .inr h
  intro k
  induction k with
  | zero =>
   intro h
   rw [NB,NB,Bool.or_eq_true] at h
   rcases h with h|h
   rw [LN,LN,Bool.false_or,Zo]
   by_cases e:JR (D 0) (D (0+1))=true
   rw [if_pos e]; exact (X4 e).1 h
   rw [if_neg e,Bool.or_eq_true]; exact .inl h
   exact g 0 h
  | succ k f =>
   intro h
   rw [NB,Bool.or_eq_true] at h
   rcases h with h|h
   rw [LN,Bool.or_eq_true]; exact .inl (f h)
   exact g (k+1) h
 intro k
 rw [Bool.eq_iff_iff]
 exact ⟨m k,l (k+1)⟩
def tD(C p k:Int):Int:=max 0 (min C (k-p))
def Ed(m:GK)(p k:Int):IM:=(m.1.1*m.2.2+(m.2.1.1-m.1.1)*tD m.2.2 p k,m.1.2*m.2.2+(m.2.1.2-m.1.2)*tD m.2.2 p k)
theorem Aa2{C p k:Int}(h:1≤C):0≤tD C p k∧tD C p k≤C:=by unfold tD; omega
theorem Vr{a b c k B:Int}(e:0≤a∧a≤B)(g:0≤b∧b≤B)(f:0≤k∧k≤c):0≤a*c+(b-a)*k∧a*c+(b-a)*k≤B*c∧0≤a*c∧a*c≤B*c∧- (B*c)≤(b-a)*k∧(b-a)*k≤B*c:=by
 have h1:a*c+(b-a)*k=a*(c-k)+b*k:=by rw [Int.sub_mul,Int.mul_sub]; omega
 have v:0≤a*(c-k):=Int.mul_nonneg e.1 (by omega)
 have h3:0≤b*k:=Int.mul_nonneg g.1 f.1
 have u:a*(c-k)≤B*(c-k):=Int.mul_le_mul_of_nonneg_right e.2 (by omega)
 have m:b*k≤B*k:=Int.mul_le_mul_of_nonneg_right g.2 f.1
 have l:0≤a*c:=Int.mul_nonneg e.1 (by omega)
 have h:a*c≤B*c:=Int.mul_le_mul_of_nonneg_right e.2 (by omega)
 have s:B*c=B*(c-k)+B*k:=by rw [← Int.mul_add]; congr 1; omega
 exact ⟨by omega,by omega,l,h,by omega,by omega⟩
theorem Aab{m:GK}(g:JE m)(h:1≤m.2.2)(l:m.2.2≤16)(p k:Int):(0≤(Ed m p k).1∧(Ed m p k).1≤20480)∧0≤(Ed m p k).2∧(Ed m p k).2≤10752:=by
 have h1:=G6.1 g.1
 have f:=G6.1 g.2
 have e:=Aa2 (C:=m.2.2) (p:=p) (k:=k) h
 have u:=Vr h1.1 f.1 e
 have s:=Vr h1.2 f.2 e
 unfold Ed
 dsimp only
 omega
theorem Ab2{m:GK}(g:JE m)(s:1≤m.2.2)(h:m.2.2≤16){t:Int}(e:0≤t∧t≤m.2.2):G8 m t=some (m.1.1*m.2.2+(m.2.1.1-m.1.1)*t,m.1.2*m.2.2+(m.2.1.2-m.1.2)*t)∧MJ m t=some (m.1.1*m.2.2+(m.2.1.1-m.1.1)*t,m.1.2*m.2.2+(m.2.1.2-m.1.2)*t):=by
 have h1:=G6.1 g.1
 have f:=G6.1 g.2
 have u:=Vr h1.1 f.1 e
 have l:=Vr h1.2 f.2 e
 unfold G8 MJ
 rw [AA (x:=m.2.1.1-m.1.1) (by omega) (by omega),AA (x:=m.2.1.2-m.1.2) (by omega) (by omega),Int.mul_comm t,Int.mul_comm t,AA (x:=m.1.1*m.2.2) (by omega) (by omega),AA (x:=m.1.2*m.2.2) (by omega) (by omega),AA (x:=(m.2.1.1-m.1.1)*t) (by omega) (by omega),AA (x:=(m.2.1.2-m.1.2)*t) (by omega) (by omega),
  AA (x:=m.1.1*m.2.2+_) (by omega) (by omega),AA (x:=m.1.2*m.2.2+_) (by omega) (by omega)]
 exact ⟨rfl,rfl⟩
theorem OR{m:GK}(g:JE m)(f:1≤m.2.2)(h:m.2.2≤16){p k:Int}(s:0≤p∧p≤4)(l:0≤k∧k≤1000):GR m p k=some (Ed m p k):=by
 unfold GR
 have e:Fq (Gj (Ah (k-p)) 0) m.2.2=tD m.2.2 p k:=by
  rw [AA (by omega) (by omega)]
  unfold Fq Gj tD
  split <;> split <;> omega
 rw [e,(Ab2 g f h (Aa2 f)).1]
 rfl
theorem SM(a b:Int):HY a b=some (max a b):=by
 unfold HY
 by_cases h:b<a
 rw [if_pos (by simpa using h),Int.max_eq_left (by omega)]
 rw [if_neg (by simpa using h),Int.max_eq_right (by omega)]
theorem Qk{m:GK}(g:JE m)(e:1≤m.2.2)(f:m.2.2≤16){p k:Int}(l:0≤p∧p≤4)(h:0≤k∧k≤1000):Jy m p k=some (Ed m p k):=by
 unfold Jy
 rw [AA (by omega) (by omega),Ls,Aa,SM,Aa]
 rw [show max 0 (min m.2.2 (k-p))=tD m.2.2 p k by rfl,(Ab2 g e f (Aa2 e)).2]
 rfl
structure NM (P:IM):Prop where
 a1:-20480≤P.1
 a2:P.1≤20480
 b1:-10752≤P.2
 b2:P.2≤10752
structure Aj3 (P Q:IM):Prop where
 m1:-838860800≤P.1*(Q.1-P.1)∧P.1*(Q.1-P.1)≤838860800
 m2:-231211008≤P.2*(Q.2-P.2)∧P.2*(Q.2-P.2)≤231211008
 m3:0≤(Q.1-P.1)*(Q.1-P.1)∧(Q.1-P.1)*(Q.1-P.1)≤1677721600
 m4:0≤(Q.2-P.2)*(Q.2-P.2)∧(Q.2-P.2)*(Q.2-P.2)≤462422016
 m5:0≤P.1*P.1∧P.1*P.1≤419430400
 m6:0≤P.2*P.2∧P.2*P.2≤115605504
 m7:0≤Q.1*Q.1∧Q.1*Q.1≤419430400
 m8:0≤Q.2*Q.2∧Q.2*Q.2≤115605504
 m9:-220200960≤P.1*Q.2∧P.1*Q.2≤220200960
 m10:-220200960≤P.2*Q.1∧P.2*Q.1≤220200960
 m11:0≤I1 P Q*I1 P Q∧I1 P Q*I1 P Q≤193953851139686400
 m12:-440401920≤P.1*(Q.2-P.2)∧P.1*(Q.2-P.2)≤440401920
 m13:-440401920≤P.2*(Q.1-P.1)∧P.2*(Q.1-P.1)≤440401920
 m14:P.1*(Q.2-P.2)-P.2*(Q.1-P.1)=I1 P Q
theorem Abz{P Q:IM}(hP:NM P)(v:NM Q):Aj3 P Q:=by
 obtain ⟨h,f,g,e⟩:=hP
 obtain ⟨s,u,l,m⟩:=v
 have m9:=N0 h f l m
 have ad:=N0 g e s u
 have ac:=NR (x:=I1 P Q) (A:=440401920) (by unfold I1; omega) (by unfold I1; omega)
 refine ⟨N0 (A:=20480) (B:=40960) h f (by omega) (by omega),N0 (A:=10752) (B:=21504) g e (by omega) (by omega),NR (A:=40960) (by omega) (by omega),NR (A:=21504) (by omega) (by omega),NR h f,NR g e,NR s u,NR l m,by omega,by omega,by omega,N0 (A:=20480) (B:=21504) h f (by omega) (by omega),N0 (A:=10752) (B:=40960) g e (by omega) (by omega),?_⟩
 unfold I1
 grind
theorem ZV{P Q:IM}(g:NM P)(f:NM Q):0≤(JT P Q).1∧(JT P Q).1≤193953851139686400∧0<(JT P Q).2∧(JT P Q).2≤2200000000:=by
 have b:=Abz g f
 have:=b.m3
 have:=b.m4
 have:=b.m7
 have:=b.m8
 have:=b.m11
 unfold JT
 split
 rename_i h
 have:=U1 h
 have e:MA P Q=(Q.1-P.1)*(Q.1-P.1)+(Q.2-P.2)*(Q.2-P.2):=rfl
 dsimp only
 omega
 have e:Ku Q=Q.1*Q.1+Q.2*Q.2:=rfl
 dsimp only
 omega
theorem We{P Q:IM}(g:NM P)(f:NM Q):0≤(Nu P Q).1∧(Nu P Q).1≤193953851139686400∧0<(Nu P Q).2∧(Nu P Q).2≤2200000000:=by
 have b:=Abz g f
 have:=b.m3
 have:=b.m4
 have:=b.m5
 have:=b.m6
 have:=b.m7
 have:=b.m8
 have:=b.m11
 unfold Nu
 split
 rename_i h
 have:=U1 h
 have e:MA P Q=(Q.1-P.1)*(Q.1-P.1)+(Q.2-P.2)*(Q.2-P.2):=rfl
 dsimp only
 omega
 have e:Ku Q=Q.1*Q.1+Q.2*Q.2:=rfl
 have l:Ku P=P.1*P.1+P.2*P.2:=rfl
 dsimp only
 omega
theorem Ah5{P:IM}(e:NM P):0≤Ku P∧Ku P≤535035904:=by
 have b:=Abz e e
 have:=b.m5
 have:=b.m6
 unfold Ku
 omega
def Bnd(f:Int×Int):Prop:=0≤f.1∧f.1≤193953851139686400∧0<f.2∧f.2≤2200000000
theorem Aai{a b:Int×Int}(e:Bnd a)(f:Bnd b):Bnd (QE a b):=by unfold QE; split <;> assumption
def D7(D:Nat→IM):Nat→Int×Int
 | 0=>(Ku (D 0),1)
 | k+1=>QE (D7 D k) (JT (D k) (D (k+1)))
def I7(D:Nat→IM):Nat→Int×Int
 | 0=>(-1,1)
 | k+1=>if (I7 D k).1<0 then Nu (D k) (D (k+1)) else QE (I7 D k) (Nu (D k) (D (k+1)))
theorem RM{D:Nat→IM}(h:∀ k,NM (D k))(M:Int):∀ k,Bnd (D7 D k)∧Hm M (D7 D k)=NB M D k
 | 0=>by
  have:=Ah5 (h 0)
  exact ⟨⟨by unfold D7; dsimp only; omega,by unfold D7; dsimp only; omega,by unfold D7; dsimp only; omega,by unfold D7; dsimp only; omega⟩,rfl⟩
 | k+1=>by
  obtain ⟨h1,f⟩:=RM h M k
  have e:=ZV (h k) (h (k+1))
  refine ⟨Aai h1 e,?_⟩
  rw [D7,Zn h1.2.2.1 e.2.2.1,f,NB]
theorem RL{D:Nat→IM}(h:∀ k,NM (D k))(M:Int):∀ k,Bnd (I7 D (k+1))∧Hm M (I7 D (k+1))=LN M D (k+1)
 | 0=>by
  have e:=We (h 0) (h 1)
  rw [I7,if_pos (by unfold I7; decide),LN,LN,Bool.false_or]
  exact ⟨e,rfl⟩
 | k+1=>by
  obtain ⟨h1,g⟩:=RL h M k
  have e:=We (h (k+1)) (h (k+2))
  have f:¬ (I7 D (k+1)).1<0:=by have:=h1.1; omega
  rw [I7,if_neg f,Zn h1.2.2.1 e.2.2.1,g,LN]
  exact ⟨Aai h1 e,rfl⟩
structure WE (u v:GK) (p q:Int):Prop where
 gu:JE u
 gv:JE v
 c1:1≤u.2.2
 c16:u.2.2≤16
 e:v.2.2=u.2.2
 p0:0≤p∧p≤4
 q0:0≤q∧q≤4
def BS(u v:GK)(p q:Int)(k:Nat):IM:=((Ed u p (k:Int)).1-(Ed v q (k:Int)).1,(Ed u p (k:Int)).2-(Ed v q (k:Int)).2)
theorem Zc{u v:GK}{p q:Int}(f:WE u v p q)(k:Nat):NM (BS u v p q k):=by
 have h1:=Aab f.gu f.c1 f.c16 p (k:Int)
 have g:=Aab f.gv (by rw [f.e]; exact f.c1) (by rw [f.e]; exact f.c16) q (k:Int)
 unfold BS
 exact ⟨by dsimp only; omega,by dsimp only; omega,by dsimp only; omega,by dsimp only; omega⟩
def C0(u:GK)(p q:Int):Nat:=(u.2.2+max p q).toNat
def Mh(u v:GK)(p q least:Int):Bool:=LN (least*least*u.2.2*u.2.2) (BS u v p q) (C0 u p q)
structure Aj2 (P Q:IM):Prop where
 w1:Ah (Q.1-P.1)=Q.1-P.1
 w2:Ah (Q.2-P.2)=Q.2-P.2
 w3:Ah (P.1*(Q.2-P.2))=P.1*(Q.2-P.2)
 w4:Ah (P.2*(Q.1-P.1))=P.2*(Q.1-P.1)
 w5:Ah (P.1*(Q.2-P.2)-P.2*(Q.1-P.1))=I1 P Q
 w6:Ah (I1 P Q*I1 P Q)=I1 P Q*I1 P Q
 w7:Ah ((Q.1-P.1)*(Q.1-P.1))=(Q.1-P.1)*(Q.1-P.1)
 w8:Ah ((Q.2-P.2)*(Q.2-P.2))=(Q.2-P.2)*(Q.2-P.2)
 w9:Ah ((Q.1-P.1)*(Q.1-P.1)+(Q.2-P.2)*(Q.2-P.2))=MA P Q
 w10:Ah (P.1*(Q.1-P.1))=P.1*(Q.1-P.1)
 w11:Ah (P.2*(Q.2-P.2))=P.2*(Q.2-P.2)
 w12:Ah (P.1*(Q.1-P.1)+P.2*(Q.2-P.2))=P.1*(Q.1-P.1)+P.2*(Q.2-P.2)
 w13:Ah (0-(P.1*(Q.1-P.1)+P.2*(Q.2-P.2)))=0-(P.1*(Q.1-P.1)+P.2*(Q.2-P.2))
 w14:Ah (Q.1*Q.1)=Q.1*Q.1
 w15:Ah (Q.2*Q.2)=Q.2*Q.2
 w16:Ah (Q.1*Q.1+Q.2*Q.2)=Ku Q
 w17:Ah (P.1*P.1)=P.1*P.1
 w18:Ah (P.2*P.2)=P.2*P.2
 w19:Ah (P.1*P.1+P.2*P.2)=Ku P
 w20:Ah (P.1*Q.2)=P.1*Q.2
 w21:Ah (P.2*Q.1)=P.2*Q.1
 w22:Ah (P.1*Q.2-P.2*Q.1)=I1 P Q
theorem Afr{P Q:IM}(f:NM P)(e:NM Q):Aj2 P Q:=by
 have b:=Abz f e
 have:=b.m1; have:=b.m2; have:=b.m3; have:=b.m4; have:=b.m5; have:=b.m6; have:=b.m7; have:=b.m8; have:=b.m9; have:=b.m10; have:=b.m11; have:=b.m12; have:=b.m13; have h:=b.m14
 have:=f.a1; have:=f.a2; have:=f.b1; have:=f.b2; have:=e.a1; have:=e.a2; have:=e.b1; have:=e.b2
 have l:MA P Q=(Q.1-P.1)*(Q.1-P.1)+(Q.2-P.2)*(Q.2-P.2):=rfl
 have s:Ku Q=Q.1*Q.1+Q.2*Q.2:=rfl
 have m:Ku P=P.1*P.1+P.2*P.2:=rfl
 have g:I1 P Q=P.1*Q.2-P.2*Q.1:=rfl
 constructor <;> (try rw [AA (by omega) (by omega)]) <;> first|done|omega
theorem Aej{R:Type}{P Q:IM}(f:Int→Int→Ae R):(if JR P Q=true then f (I1 P Q*I1 P Q) (MA P Q) else f (Ku Q) 1)=f (JT P Q).1 (JT P Q).2:=by
 unfold JT
 split <;> rfl
theorem TJ{u v:GK}{p q:Int}(f:WE u v p q):∃ r:Int×Int,GT u v p q=some r∧0<r.2∧r.2≤1000000000000∧∀ K,Hm K r=NB (K*u.2.2*u.2.2) (BS u v p q) (C0 u p q):=by
 have h:=f.c1
 have l:=f.c16
 have hp:=f.p0
 have hq:=f.q0
 have ar:1≤v.2.2:=by rw [f.e]; exact h
 have an:v.2.2≤16:=by rw [f.e]; exact l
 have hT:((C0 u p q:Nat):Int)=u.2.2+max p q:=by unfold C0; omega
 have bm:C0 u p q≤20:=by omega
 have ad:=Zc f
 have ap:=fun M=>RM ad M (C0 u p q)
 obtain ⟨b1,b2,b3,b4⟩:=(ap 0).1
 obtain ⟨g1,bs,l1,l2,l3,l4,l5,l6⟩:=O7 b1 (by omega) b3 (by omega)
 have bk:1≤u.2.2*u.2.2∧u.2.2*u.2.2≤256:=⟨Int.mul_le_mul h h (by omega) (by omega),Int.mul_le_mul l l (by omega) (by omega)⟩
 have d1:(Jt (D7 (BS u v p q) (C0 u p q)).1 (D7 (BS u v p q) (C0 u p q)).2).2*u.2.2≤2200000000*16:=Int.mul_le_mul (by omega) l (by omega) (by omega)
 have d2:1*1≤(Jt (D7 (BS u v p q) (C0 u p q)).1 (D7 (BS u v p q) (C0 u p q)).2).2*u.2.2:=Int.mul_le_mul (by omega) h (by omega) (by omega)
 have d3:(Jt (D7 (BS u v p q) (C0 u p q)).1 (D7 (BS u v p q) (C0 u p q)).2).2*u.2.2*u.2.2≤2200000000*16*16:=Int.mul_le_mul d1 l (by omega) (by omega)
 have d4:1*1≤(Jt (D7 (BS u v p q) (C0 u p q)).1 (D7 (BS u v p q) (C0 u p q)).2).2*u.2.2*u.2.2:=Int.mul_le_mul (by omega) h (by omega) (by omega)
 have ay:GT u v p q=some (Jt (Jt (D7 (BS u v p q) (C0 u p q)).1 (D7 (BS u v p q) (C0 u p q)).2).1 ((Jt (D7 (BS u v p q) (C0 u p q)).1 (D7 (BS u v p q) (C0 u p q)).2).2*u.2.2*u.2.2)):=by
  unfold GT
  have z1:tD u.2.2 p 0=0:=by unfold tD; omega
  have z2:tD v.2.2 q 0=0:=by unfold tD; omega
  have a1:G8 u 0=some (Ed u p 0):=by rw [(Ab2 f.gu h l (t:=0) (by omega)).1]; unfold Ed; rw [z1]
  have a2:G8 v 0=some (Ed v q 0):=by rw [(Ab2 f.gv ar an (t:=0) (by omega)).1]; unfold Ed; rw [z2]
  have h0:=ad 0
  have w0:=Afr h0 h0
  have:=h0.a1; have:=h0.a2; have:=h0.b1; have:=h0.b2
  have e1:Ah ((Ed u p 0).1-(Ed v q 0).1)=(BS u v p q 0).1:=by
   have:(Ed u p 0).1-(Ed v q 0).1=(BS u v p q 0).1:=rfl
   rw [this,AA (by omega) (by omega)]
  have e2:Ah ((Ed u p 0).2-(Ed v q 0).2)=(BS u v p q 0).2:=by
   have:(Ed u p 0).2-(Ed v q 0).2=(BS u v p q 0).2:=rfl
   rw [this,AA (by omega) (by omega)]
  rw [a1,Aa,a2,Aa,e1,e2,w0.w14,w0.w15,w0.w16]
  have a5:=ES (fun m (s:Int×Int×Int×Int) k=>CC u p q v m s.1 s.2.1 s.2.2.1 s.2.2.2 (k+1)) (C0 u p q) (fun k=>((BS u v p q k).1,(BS u v p q k).2,(D7 (BS u v p q) k).1,(D7 (BS u v p q) k).2)) (some (Jt (Jt (D7 (BS u v p q) (C0 u p q)).1 (D7 (BS u v p q) (C0 u p q)).2).1 ((Jt (D7 (BS u v p q) (C0 u p q)).1 (D7 (BS u v p q) (C0 u p q)).2).2*u.2.2*u.2.2))) (by omega) (j:=0) (by omega) (fun m k _ hk=>?_) (fun m=>?_)
  exact a5
  dsimp only
  have hP:=ad k
  have hQ:=ad (k+1)
  have w:=Afr hP hQ
  have:=hQ.a1; have:=hQ.a2; have:=hQ.b1; have:=hQ.b2
  have ag:Gj p q=max p q:=by unfold Gj; split <;> omega
  have c1:Ah ((Ed u p ((k:Int)+1)).1-(Ed v q ((k:Int)+1)).1)=(BS u v p q (k+1)).1:=by
   have:(Ed u p ((k:Int)+1)).1-(Ed v q ((k:Int)+1)).1=(BS u v p q (k+1)).1:=rfl
   rw [this,AA (by omega) (by omega)]
  have c2:Ah ((Ed u p ((k:Int)+1)).2-(Ed v q ((k:Int)+1)).2)=(BS u v p q (k+1)).2:=by
   have:(Ed u p ((k:Int)+1)).2-(Ed v q ((k:Int)+1)).2=(BS u v p q (k+1)).2:=rfl
   rw [this,AA (by omega) (by omega)]
  obtain ⟨⟨i1,i2,i3,i4⟩,_⟩:=RM ad 0 k
  obtain ⟨s1,s2,s3,s4⟩:=ZV hP hQ
  rw [CC,ag,AA (x:=u.2.2+_) (by omega) (by omega),if_pos (by rw [C9]; omega),OR f.gu h l hp (by omega),Aa,OR f.gv ar an hq (by omega),Aa,c1,c2]
  simp only [Bf,Fx,w.w1,w.w2,w.w3,w.w4,w.w5,w.w6,w.w7,w.w8,w.w9,w.w10,w.w11,w.w12,w.w13,w.w14,w.w15,w.w16]
  have a6:∀ a b:Int,0≤a→a≤193953851139686400→0<b→b≤2200000000→(Option.bind (Gb a b (D7 (BS u v p q) k).1 (D7 (BS u v p q) k).2) fun aj=>if aj=true then CC u p q v m (BS u v p q (k+1)).1 (BS u v p q (k+1)).2 a b (Ah ((k:Int)+1+1)) else CC u p q v m (BS u v p q (k+1)).1 (BS u v p q (k+1)).2 (D7 (BS u v p q) k).1 (D7 (BS u v p q) k).2 (Ah ((k:Int)+1+1)))=CC u p q v m (BS u v p q (k+1)).1 (BS u v p q (k+1)).2 (QE (D7 (BS u v p q) k) (a,b)).1 (QE (D7 (BS u v p q) k) (a,b)).2 (((k+1:Nat):Int)+1):=by
   intro a b h1 h2 h3 h4
   rw [TI _ _ _ _ h1 (by omega) (by omega) (by omega) i1 (by omega) (by omega) (by omega),Aa,AA (by omega) (by omega)]
   unfold QE
   split <;> rfl
  have hl:=a6 (JT (BS u v p q k) (BS u v p q (k+1))).1 (JT (BS u v p q k) (BS u v p q (k+1))).2 s1 s2 s3 s4
  rw [D7]
  refine Eq.trans ?_ hl
  rw [← Aej (P:=BS u v p q k) (Q:=BS u v p q (k+1)) (f:=fun a b=>Option.bind (Gb a b (D7 (BS u v p q) k).1 (D7 (BS u v p q) k).2) fun aj=>if aj=true then CC u p q v m (BS u v p q (k+1)).1 (BS u v p q (k+1)).2 a b (Ah ((k:Int)+1+1)) else CC u p q v m (BS u v p q (k+1)).1 (BS u v p q (k+1)).2 (D7 (BS u v p q) k).1 (D7 (BS u v p q) k).2 (Ah ((k:Int)+1+1)))]
  unfold JR
  change _=if (decide _&&decide (_<MA _ _))=true then _ else _
  by_cases h1:(BS u v p q k).1*((BS u v p q (k+1)).1-(BS u v p q k).1)+(BS u v p q k).2*((BS u v p q (k+1)).2-(BS u v p q k).2)<0
  rw [if_pos (decide_eq_true h1),decide_eq_true h1,Bool.true_and]
  rw [if_neg (by simpa using h1),decide_eq_false h1]
  rfl
  dsimp only
  have ag:Gj p q=max p q:=by unfold Gj; split <;> omega
  rw [CC,ag,AA (x:=u.2.2+_) (by omega) (by omega),if_neg (by rw [C9]; omega),MX _ _ b1 (by omega) b3 (by omega),Aa,AA (x:=(Jt (D7 (BS u v p q) (C0 u p q)).1 (D7 (BS u v p q) (C0 u p q)).2).2*u.2.2) (by omega) (by omega),AA (by omega) (by omega),MX _ _ l3 (by omega) (by omega) (by omega),Aa]
 refine ⟨_,ay,?_,?_,fun K=>?_⟩
 obtain ⟨g,_,_,_,_,_,k5,_⟩:=O7 (a:=(Jt (D7 (BS u v p q) (C0 u p q)).1 (D7 (BS u v p q) (C0 u p q)).2).1) (b:=(Jt (D7 (BS u v p q) (C0 u p q)).1 (D7 (BS u v p q) (C0 u p q)).2).2*u.2.2*u.2.2) l3 (by omega) (by omega) (by omega)
 exact k5
 obtain ⟨g,_,_,_,_,_,k5,k6⟩:=O7 (a:=(Jt (D7 (BS u v p q) (C0 u p q)).1 (D7 (BS u v p q) (C0 u p q)).2).1) (b:=(Jt (D7 (BS u v p q) (C0 u p q)).1 (D7 (BS u v p q) (C0 u p q)).2).2*u.2.2*u.2.2) l3 (by omega) (by omega) (by omega)
 omega
 rw [WC l3 (by omega) (by omega) (by omega),← (ap (K*u.2.2*u.2.2)).2]
 have:Hm (K*u.2.2*u.2.2) (D7 (BS u v p q) (C0 u p q))=Hm (K*u.2.2*u.2.2) (Jt (D7 (BS u v p q) (C0 u p q)).1 (D7 (BS u v p q) (C0 u p q)).2):=(WC b1 (by omega) b3 (by omega)).symm
 rw [this]
 unfold Hm
 rw [decide_eq_decide]
 dsimp only
 generalize (Jt (D7 (BS u v p q) (C0 u p q)).1 (D7 (BS u v p q) (C0 u p q)).2).2=B
 rw [show K*(B*u.2.2*u.2.2)=K*u.2.2*u.2.2*B by grind]
theorem ZO{M:Int}{D:Nat→IM}{T:Nat}(h:1≤T):NB M D T=LN M D T:=by
 obtain ⟨k,rfl⟩:∃ k,T=k+1:=⟨T-1,by omega⟩
 exact Ait k
theorem OT{u v:GK}{p q e:Int}(f:WE u v p q)(hl:0≤e∧e≤80):GU u v p q e=some (Mh u v p q e):=by
 obtain ⟨r,h1,h2,l,h⟩:=TJ f
 have g:=NR (x:=e) (A:=80) (by omega) (by omega)
 have m:=Int.mul_le_mul g.2 l (by omega) (by omega)
 have s:0≤e*e*r.2:=Int.mul_nonneg g.1 (by omega)
 unfold GU Mh
 rw [h1,Aa,AA (x:=e*e) (by omega) (by omega),AA (by omega) (by omega)]
 have:=h (e*e)
 unfold Hm at this
 have hc:=f.c1
 have hp:=f.p0
 rw [this,ZO (by unfold C0; omega)]
theorem Aei{R:Type}{P Q:IM}(f:Int→Int→Ae R):(if JR P Q=true then f (I1 P Q*I1 P Q) (MA P Q) else f (min (Ku P) (Ku Q)) 1)=f (Nu P Q).1 (Nu P Q).2:=by
 unfold Nu
 split <;> rfl
theorem ZB{P Q:IM}(g:NM P)(e:NM Q):L5 P.1 P.2 Q.1 Q.2=some (Nu P Q):=by
 have w:=Afr g e
 unfold L5
 simp only [Bf,w.w1,w.w2,w.w7,w.w8,w.w9,w.w10,w.w11,w.w12,w.w13,w.w14,w.w15,w.w16,w.w17,w.w18,w.w19,w.w20,w.w21,w.w22,w.w6,Ls,Aa]
 have:=Aei (P:=P) (Q:=Q) (f:=fun a b=>some (a,b))
 refine Eq.trans ?_ this
 unfold JR
 change _=if (decide _&&decide (_<MA _ _))=true then _ else _
 by_cases h1:P.1*(Q.1-P.1)+P.2*(Q.2-P.2)<0
 rw [if_pos (by rw [C9]; omega),decide_eq_true h1,Bool.true_and]
 rw [if_neg (by rw [C9]; omega),decide_eq_false h1]
 rfl
theorem Yq{u v:GK}{p q:Int}(f:WE u v p q):∃ r:Int×Int,J6 u v p q=some r∧0≤r.1∧r.1≤193953851139686400∧0<r.2∧r.2≤1000000000000∧∀ K,Hm K r=LN (K*u.2.2*u.2.2) (BS u v p q) (C0 u p q):=by
 have ac:=f.c1
 have ad:=f.c16
 have hp:=f.p0
 have hq:=f.q0
 have am:1≤v.2.2:=by rw [f.e]; exact ac
 have ai:v.2.2≤16:=by rw [f.e]; exact ad
 have hT:((C0 u p q:Nat):Int)=u.2.2+max p q:=by unfold C0; omega
 have bb:C0 u p q≤20:=by omega
 have ae:=Zc f
 obtain ⟨T,a3⟩:∃ T,C0 u p q=T+1:=⟨C0 u p q-1,by omega⟩
 have al:∀ M,Bnd (I7 (BS u v p q) (C0 u p q))∧Hm M (I7 (BS u v p q) (C0 u p q))=LN M (BS u v p q) (C0 u p q):=fun M=>by rw [a3]; exact RL ae M T
 obtain ⟨b1,b2,b3,b4⟩:=(al 0).1
 have d1:(I7 (BS u v p q) (C0 u p q)).2*u.2.2≤2200000000*16:=Int.mul_le_mul b4 ad (by omega) (by omega)
 have d2:1*1≤(I7 (BS u v p q) (C0 u p q)).2*u.2.2:=Int.mul_le_mul (by omega) ac (by omega) (by omega)
 have d3:(I7 (BS u v p q) (C0 u p q)).2*u.2.2*u.2.2≤2200000000*16*16:=Int.mul_le_mul d1 ad (by omega) (by omega)
 have d4:1*1≤(I7 (BS u v p q) (C0 u p q)).2*u.2.2*u.2.2:=Int.mul_le_mul (by omega) ac (by omega) (by omega)
 have ar:J6 u v p q=some (Jt (I7 (BS u v p q) (C0 u p q)).1 ((I7 (BS u v p q) (C0 u p q)).2*u.2.2*u.2.2)):=by
  unfold J6
  have ax:=ES (fun m (s:Int×Int) k=>FK p q u v m s.1 s.2 k) (C0 u p q) (fun k=>((I7 (BS u v p q) k).1,(I7 (BS u v p q) k).2)) (some (Jt (I7 (BS u v p q) (C0 u p q)).1 ((I7 (BS u v p q) (C0 u p q)).2*u.2.2*u.2.2))) (by omega) (j:=0) (by omega) (fun m k _ hk=>?_) (fun m=>?_)
  exact ax
  dsimp only
  have l:=ae k
  have h:=ae (k+1)
  have:=l.a1; have:=l.a2; have:=l.b1; have:=l.b2
  have:=h.a1; have:=h.a2; have:=h.b1; have:=h.b2
  have e1:Ah ((Ed u p (k:Int)).1-(Ed v q (k:Int)).1)=(BS u v p q k).1:=by
   have:(Ed u p (k:Int)).1-(Ed v q (k:Int)).1=(BS u v p q k).1:=rfl
   rw [this,AA (by omega) (by omega)]
  have e2:Ah ((Ed u p (k:Int)).2-(Ed v q (k:Int)).2)=(BS u v p q k).2:=by
   have:(Ed u p (k:Int)).2-(Ed v q (k:Int)).2=(BS u v p q k).2:=rfl
   rw [this,AA (by omega) (by omega)]
  have c1:Ah ((Ed u p ((k+1:Nat):Int)).1-(Ed v q ((k+1:Nat):Int)).1)=(BS u v p q (k+1)).1:=by
   have:(Ed u p ((k+1:Nat):Int)).1-(Ed v q ((k+1:Nat):Int)).1=(BS u v p q (k+1)).1:=rfl
   rw [this,AA (by omega) (by omega)]
  have c2:Ah ((Ed u p ((k+1:Nat):Int)).2-(Ed v q ((k+1:Nat):Int)).2)=(BS u v p q (k+1)).2:=by
   have:(Ed u p ((k+1:Nat):Int)).2-(Ed v q ((k+1:Nat):Int)).2=(BS u v p q (k+1)).2:=rfl
   rw [this,AA (by omega) (by omega)]
  obtain ⟨s1,s2,s3,s4⟩:=We l h
  rw [FK,SM,Aa,AA (x:=u.2.2+_) (by omega) (by omega),if_pos (by rw [C9]; omega)]
  unfold Fx Bf
  dsimp only
  rw [Qk f.gu ac ad hp (by omega),Aa,Qk f.gv am ai hq (by omega),Aa,AC (k:=k) (by omega),Qk f.gu ac ad hp (by omega),Aa,Qk f.gv am ai hq (by omega),Aa,e1,e2,c1,c2,ZB l h,Aa,I7]
  by_cases hn:(I7 (BS u v p q) k).1<0
  rw [if_pos (decide_eq_true hn),if_pos rfl,if_pos hn]
  have ay:∃ j,k=j+1:=by
   cases k with
   | zero=>exact absurd (show (-1:Int)<0 by decide) hn
   | succ j=>exact ⟨j,rfl⟩
  obtain ⟨j,rfl⟩:=ay
  obtain ⟨⟨i1,i2,i3,i4⟩,_⟩:=RL ae 0 j
  rw [if_neg (by simpa using hn),ZE _ _ _ _ s1 (by omega) s3 (by omega) i1 (by omega) i3 (by omega),Aa,if_neg hn]
  unfold QE
  split <;> rfl
  dsimp only
  rw [FK,SM,Aa,AA (x:=u.2.2+_) (by omega) (by omega),if_neg (by rw [C9]; omega),AA (x:=(I7 (BS u v p q) (C0 u p q)).2*u.2.2) (by omega) (by omega),AA (by omega) (by omega),Ub _ _ b1 (by omega) (by omega) (by omega),Aa]
 obtain ⟨g,_,_,_,k3,k4,k5,k6⟩:=O7 (a:=(I7 (BS u v p q) (C0 u p q)).1) (b:=(I7 (BS u v p q) (C0 u p q)).2*u.2.2*u.2.2) b1 (by omega) (by omega) (by omega)
 refine ⟨_,ar,k3,by omega,k5,by omega,fun K=>?_⟩
 rw [WC b1 (by omega) (by omega) (by omega),← (al (K*u.2.2*u.2.2)).2]
 unfold Hm
 rw [decide_eq_decide]
 dsimp only
 generalize (I7 (BS u v p q) (C0 u p q)).2=B
 rw [show K*(B*u.2.2*u.2.2)=K*u.2.2*u.2.2*B by grind]
theorem TZ{u v:GK}{p q e:Int}(f:WE u v p q)(hl:0≤e∧e≤80):Kd u v p q e=some (!Mh u v p q e):=by
 obtain ⟨r,h1,g,h3,h,s,l⟩:=Yq f
 have hL:=NR (x:=e) (A:=80) (by omega) (by omega)
 unfold Kd Mh
 have hd:=Int.ediv_nonneg g (Int.le_of_lt h)
 have ac:r.1 / r.2≤r.1:=Int.ediv_le_self _ g
 have m:¬ r.2=0:=by omega
 rw [h1,Aa,if_neg m,AA (x:=e*e) (by omega) (by omega),Int.tdiv_eq_ediv_of_nonneg g,AA (by omega) (by omega),← l (e*e)]
 unfold Hm
 congr 1
 rw [Bool.eq_iff_iff]
 simp only [Bool.not_eq_true',C9,decide_eq_false_iff_not]
 rw [Int.le_ediv_iff_mul_le h]
 omega
def QJ(ft:Nat→Nat→Int→Int→Bool)(ds:List Int)(p:Int):Bool:=(List.range ds.length).all fun i=>ft i ds.length (ds.getD i 0) p
def Na(ft:Nat→Nat→Int→Int→Bool):Nat→List Int→Bool
 | 0,_=>true
 | r+1,ds=>(List.range 5).any fun (p:Nat)=>QJ ft ds (p:Int)&&Na ft r (ds++[(p:Int)])
def MZ(ft:Nat→Nat→Int→Int→Bool):Nat→List Int→Nat→Bool
 | 0,_,s=>s==0
 | r+1,ds,s=>(List.range (min s 4+1)).any fun (p:Nat)=>QJ ft ds (p:Int)&&MZ ft r (ds++[(p:Int)]) (s-p)
theorem Rl(e:Nat→Nat→Int→Int→Bool):∀(r:Nat)(ds:List Int),Na e r ds=true↔∃ s,s≤4*r∧MZ e r ds s=true
 | 0,ds=>by simp [Na,MZ]
 | r+1,ds=>by
  rw [Na,List.any_eq_true]
  constructor
  rintro ⟨p,f,h⟩
  rw [Cq,Rl e r] at h
  obtain ⟨h1,s,h2,v⟩:=h
  have g:=List.mem_range.1 f
  refine ⟨s+p,by omega,?_⟩
  rw [MZ,List.any_eq_true]
  refine ⟨p,List.mem_range.2 (by omega),?_⟩
  rw [Cq,Nat.add_sub_cancel]
  exact ⟨h1,v⟩
  rintro ⟨s,hs,h⟩
  rw [MZ,List.any_eq_true] at h
  obtain ⟨p,f,h⟩:=h
  rw [Cq] at h
  have g:=List.mem_range.1 f
  refine ⟨p,List.mem_range.2 (by omega),?_⟩
  rw [Cq,Rl e r]
  refine ⟨h.1,?_⟩
  by_cases l:s-p≤4*r
  exact ⟨s-p,l,h.2⟩
  exfalso
  have u:∀(r:Nat)(ds:List Int)(s:Nat),MZ e r ds s=true→s≤4*r:=by
   intro r
   induction r with
   | zero=>intro ds s h; simpa [MZ] using h
   | succ r m =>
    intro ds s h
    rw [MZ,List.any_eq_true] at h
    obtain ⟨p,f,h⟩:=h
    rw [Cq] at h
    have g:=List.mem_range.1 f
    have:=m _ _ h.2
    omega
  exact l (u r _ _ h.2)
theorem Adf{R:Type}(f:Nat→Int→Ae R)(n:Nat)(p:Nat→Bool)(e:Nat→Ae R)(g:Ae R)(hn:n<4611686018427387904)
  (v:∀ m k,k<n→f (m+1) (k:Int)=if p k=true then e k else f m ((k+1:Nat):Int)) (he:∀ m,f (m+1) (n:Int)=g) {j:Nat} (hj:j≤n):f FU (j:Int)=match (List.range' j (n-j)).find? p with
   | some k=>e k
   | none=>g:=by
 have aa:∀ d k m,n-k=d→k≤n→d<m→f m (k:Int)=match (List.range' k d).find? p with
   | some k=>e k
   | none=>g:=by
  intro d
  induction d with
  | zero =>
   intro k m hd u s
   have:k=n:=by omega
   subst this
   cases m with
   | zero=>omega
   | succ m=>rw [he]; rfl
  | succ d l =>
   intro k m hd u s
   cases m with
   | zero=>omega
   | succ m =>
    rw [v m k (by omega),List.range'_succ,List.find?_cons]
    by_cases h:p k=true
    rw [if_pos h,h]
    have h':p k=false:=by simpa using h
    rw [if_neg h,h']
    exact l (k+1) m (by omega) (by omega) (by omega)
 exact aa (n-j) j FU rfl hj (Dw (by omega))
theorem JY{ι S R:Type}(f:ι→Nat→S→Int→Ae R)(n:Nat)(g:Nat→S→Prop)(rest:ι→S→Ae R)(hn:n<4611686018427387904){b:Nat}
  (hs:∀ k s,b≤k→k<n→g k s→∃ e,g (k+1) e∧∀ j m,f j (m+1) s (k:Int)=f j m e ((k+1:Nat):Int)) (he:∀ s,g n s→∀ j m,f j (m+1) s (n:Int)=rest j s) (hb:b≤n) {s:S} (v:g b s) :
  ∃ e,g n e∧∀ j,f j FU s (b:Int)=rest j e:=by
 have ae:∀ d k s,n-k=d→b≤k→k≤n→g k s→∃ e,g n e∧∀ j m,d<m→f j m s (k:Int)=rest j e:=by
  intro d
  induction d with
  | zero =>
   intro k s hd u hk h
   have:k=n:=by omega
   subst this
   refine ⟨s,h,fun j m hm=>?_⟩
   cases m with
   | zero=>omega
   | succ m=>exact he s h j m
  | succ d ih =>
   intro k s hd u hk h
   obtain ⟨e,h1,l⟩:=hs k s u (by omega) h
   obtain ⟨s2,h3,h4⟩:=ih (k+1) e (by omega) (by omega) (by omega) h1
   refine ⟨s2,h3,fun j m hm=>?_⟩
   cases m with
   | zero=>omega
   | succ m=>rw [l]; exact h4 j m (by omega)
 obtain ⟨e,h1,l⟩:=ae (n-b) b s rfl (Nat.le_refl _) hb v
 exact ⟨e,h1,fun j=>l j FU (Dw (by omega))⟩
theorem Aak{S R:Type}(f:Nat→S→Int→Ae R)(n:Nat)(g:S→Prop)(a:Nat→Bool)(l u:R→Prop)(hn:n<4611686018427387904)
  (hs:∀ k s,k<n→g s→(a k=true∧∃ r,l r∧∀ m,f (m+1) s (k:Int)=some r)∨(a k=false∧∃ h,g h∧∀ m,f (m+1) s (k:Int)=f m h ((k+1:Nat):Int)))
  (he:∀ s,g s→∃ r,u r∧∀ m,f (m+1) s (n:Int)=some r) {s:S} (h0:g s):∃ r,f FU s 0=some r∧(((List.range n).any a=true∧l r)∨((List.range n).any a=false∧u r)):=by
 have ah:∀ d k m s,n-k=d→k≤n→d<m→g s→∃ r,f m s (k:Int)=some r∧(((List.range' k d).any a=true∧l r)∨((List.range' k d).any a=false∧u r)):=by
  intro d
  induction d with
  | zero =>
   intro k m s hd hk hm hi
   have:k=n:=by omega
   subst this
   cases m with
   | zero=>omega
   | succ m =>
    obtain ⟨r,h1,e⟩:=he s hi
    exact ⟨r,e m,.inr ⟨rfl,h1⟩⟩
  | succ d ih =>
   intro k m s hd hk hm hi
   cases m with
   | zero=>omega
   | succ m =>
    rw [List.range'_succ,List.any_cons]
    rcases hs k s (by omega) hi with ⟨h1,r,e,v⟩|⟨h1,h,e,v⟩
    exact ⟨r,v m,.inl ⟨by rw [h1]; rfl,e⟩⟩
    rw [v,h1,Bool.false_or]
    exact ih (k+1) m h (by omega) (by omega) (by omega) e
 have:=ah n 0 FU s rfl (by omega) (Dw hn) h0
 rwa [← List.range_eq_range'] at this
structure RepF (t:Ci) (least:Int):Prop where
 tr:TrF t
 c16:t.2.2.1≤16
 n6:t.1.length≤6
 l0:0≤least∧least≤80
theorem RepF.del{t:Ci}{g:Int}(f:RepF t g){i k:Nat}(l:i<t.1.length)(e:k<t.1.length){p q:Int}(h:0≤p∧p≤4)(m:0≤q∧q≤4):WE (HW t i) (HW t k) p q :=
 ⟨Lr f.tr l,Lr f.tr e,f.tr.can.n1,f.c16,rfl,h,m⟩
def Wi(t:Ci)(least:Int)(i k:Nat):Bool:=Mh (HW t i) (HW t k) 0 0 least
theorem Tr{n i:Nat}(h:i<n):(List.replicate n (0:Int))[i]? = some 0:=by simp [h]
theorem ZK{t:Ci}{e:Int}(f:RepF t e):Ih t (List.replicate t.1.length 0) e=some (KN (Wi t e) t.1.length t.1.length):=by
 have v:=f.n6
 unfold Ih
 rw [PM f.tr,Aa]
 refine Pb (DZ (Hl t) (List.replicate t.1.length 0) e) (fun l i=>DY (Hl t) (i:Int) (List.replicate t.1.length 0) e l) _ _ (by omega) (fun m s i g=>?_) (fun l i m s k g h u=>?_) (fun l i m s g=>?_) (fun m s=>?_)
 rw [DZ,if_pos (by rw [E2]; simp; omega),AC (by omega)]
 rw [DY,if_pos (by rw [E2]; simp; omega)]
 unfold Bf Wi
 dsimp only
 rw [AY,J0 t g,Aa,AY,J0 t h,Aa,AY,Tr g,Aa,AY,Tr h,Aa,OT (f.del g h (by omega) (by omega)) f.l0,Aa,Bg (by simp; omega),Aa,AC (by omega)]
 cases Mh (HW t i) (HW t k) 0 0 e <;> rfl
 rw [DY,if_neg (by rw [E2]; simp),AC (by omega)]
 rw [DZ,if_neg (by rw [E2]; simp)]
theorem Ua{t:Ci}{e:Int}(f:RepF t e):J7 t (List.replicate t.1.length 0) e=some (KN (Wi t e) t.1.length t.1.length):=by
 have v:=f.n6
 unfold J7
 rw [Ns f.tr,Aa]
 refine Pb (FM (Hl t) (List.replicate t.1.length 0) e) (fun l i=>FL (Hl t) (List.replicate t.1.length 0) (i:Int) (HW t i) e l) _ _ (by omega) (fun m s i g=>?_) (fun l i m s k g h u=>?_) (fun l i m s g=>?_) (fun m s=>?_)
 rw [FM,if_pos (by rw [E2]; simp; omega),AY,J0 t g,Aa,AC (by omega)]
 rw [FL,if_pos (by rw [E2]; simp; omega)]
 unfold Bf Wi
 dsimp only
 rw [AY,J0 t h,Aa,AY,Tr g,Aa,AY,Tr h,Aa,TZ (f.del g h (by omega) (by omega)) f.l0,Aa,Bool.not_not,Bg (by simp; omega),Aa,AC (by omega)]
 cases Mh (HW t i) (HW t k) 0 0 e <;> rfl
 rw [FL,if_neg (by rw [E2]; simp),AC (by omega)]
 rw [FM,if_neg (by rw [E2]; simp)]
def QC(t:Ci)(least:Int):Bool:=((KN (Wi t least) t.1.length t.1.length).length:Int)==0
theorem OS{t:Ci}{e:Int}(f:RepF t e):GS t e=some (QC t e):=by
 have g:=f.n6
 unfold GS QC
 rw [Oe (by omega),Aa,ZK f,Aa]
def Qj(t:Ci)(i k:Nat):Ci:=(t.1,t.2.1,t.2.2.1,(t.2.2.2.set i (JS t.2.2.2 k)).set k (JS t.2.2.2 i))
theorem Af3{t:Ci}{u:Int}(f:RepF t u){i k:Nat}(v:i<t.1.length)(m:k<t.1.length):RepF (Qj t i k) u:=by
 have s:=f.tr.mat
 refine ⟨⟨f.tr.can,by unfold Qj; simpa using s,fun j l=>?_⟩,f.c16,f.n6,f.l0⟩
 have h1:=f.tr.inR i v
 have h2:=f.tr.inR k m
 have h3:=f.tr.inR j l
 unfold Qj
 unfold Qj at l
 dsimp only at l ⊢
 have e:JS ((t.2.2.2.set i (JS t.2.2.2 k)).set k (JS t.2.2.2 i)) j=if k=j then JS t.2.2.2 i else if i=j then JS t.2.2.2 k else JS t.2.2.2 j:=by
  conv=>lhs; unfold JS
  rw [List.getElem?_set,List.length_set,List.getElem?_set,s]
  by_cases g:k=j
  rw [if_pos g,if_pos m,if_pos g]; rfl
  rw [if_neg g,if_neg g]
  by_cases h:i=j
  rw [if_pos h,if_pos v,if_pos h]; rfl
  rw [if_neg h,if_neg h]; rfl
 rw [e]
 split
 exact h1
 split
 exact h2
 exact h3
theorem V4{t:Ci}{e:Int}(f:RepF t e){i k:Nat}(s:i<t.1.length)(g:k<t.1.length):Jk t (i:Int) (k:Int)=some (Qj t i k):=by
 have l:=f.tr.mat
 have m:=f.n6
 have h:=f.tr.can.le
 unfold Jk
 rw [Mc (by omega) (by omega) (by omega),Aa]
 unfold Bf Qj
 dsimp only
 rw [AY,KV (by omega),Aa,AY,KV (by omega),Aa,Aa,Lq,Ic (by simp; omega),Aa,Lq]
theorem ZC{t:Ci}{e:Int}(f:RepF t e){i k:Nat}(s:i<t.1.length)(g:k<t.1.length):L7 t (i:Int) (k:Int)=some (Qj t i k):=by
 have l:=f.tr.mat
 have m:=f.n6
 have h:=f.tr.can.le
 unfold L7
 rw [Q7 (by omega) (by omega) (by omega),Aa]
 unfold Qj
 dsimp only
 rw [AY,KV (by omega),Aa,AY,KV (by omega),Aa,Aa,Lq,Ic (by simp; omega),Aa,Lq]
def Vc(t:Ci)(least:Int)(i:Nat):Ae Nat:=(List.range' (i+1) (t.1.length-(i+1))).find? fun k=>QC (Qj t i k) least
def Yo(t:Ci)(least:Int):Ae Nat:=(List.range t.1.length).find? fun i=>(Vc t least i).isSome
theorem V5{t:Ci}{e:Int}(f:RepF t e):∃ r,Jl t e=some r∧r.2.2=(Yo t e).isSome:=by
 have l:=f.n6
 unfold Jl
 rw [Vy (D3 t e) t.1.length (fun i=>(Vc t e i).isSome) (fun i=>some ((i:Int),((Vc t e i).getD 0:Int),true)) (some (0,0,false)) (by omega) (fun m i h=>?_) (fun m=>?_)]
 unfold Yo
 cases (List.range t.1.length).find? fun i=>(Vc t e i).isSome with
 | none=>exact ⟨_,rfl,rfl⟩
 | some i=>exact ⟨_,rfl,rfl⟩
 rw [D3,if_pos (by simp; omega),AC (by omega)]
 rw [Adf (E9 t (i:Int) e (D3 t e m)) t.1.length (fun k=>QC (Qj t i k) e) (fun k=>some ((i:Int),(k:Int),true)) (D3 t e m ((i+1:Nat):Int)) (by omega) (fun m k g=>?_) (fun m=>?_) (j:=i+1) (by omega)]
 unfold Vc
 cases (List.range' (i+1) (t.1.length-(i+1))).find? fun k=>QC (Qj t i k) e <;> rfl
 rw [E9,if_pos (by simp; omega),V4 f h g,Aa,OS (Af3 f h g),Aa,AC (by omega)]
 rw [E9,if_neg (by simp),AC (by omega)]
 rw [D3,if_neg (by simp)]
theorem ZA{t:Ci}{g:Int}(f:RepF t g):∃ r,L4 t g=some r∧decide (0≤r.1)=(Yo t g).isSome:=by
 have s:=f.n6
 unfold L4
 rw [Oe (by omega),Aa]
 rw [Vy (EF t (List.replicate t.1.length 0) g) t.1.length (fun i=>(Vc t g i).isSome) (fun i=>some ((i:Int),((Vc t g i).getD 0:Int))) (some (-1,-1)) (by omega) (fun m i l=>?_) (fun m=>?_)]
 unfold Yo
 cases (List.range t.1.length).find? fun i=>(Vc t g i).isSome with
 | none=>exact ⟨_,rfl,rfl⟩
 | some i=>exact ⟨_,rfl,by simp⟩
 rw [EF,if_pos (by simp; omega),AC (by omega)]
 rw [Adf (Gq t (i:Int) (List.replicate t.1.length 0) g (EF t (List.replicate t.1.length 0) g m)) t.1.length (fun k=>QC (Qj t i k) g) (fun k=>some ((i:Int),(k:Int))) (EF t (List.replicate t.1.length 0) g m ((i+1:Nat):Int)) (by omega) (fun m k h=>?_) (fun m=>?_) (j:=i+1) (by omega)]
 unfold Vc
 cases (List.range' (i+1) (t.1.length-(i+1))).find? fun k=>QC (Qj t i k) g <;> rfl
 have e:=Ua (Af3 f l h)
 rw [show (Qj t i k).1.length=t.1.length by rfl] at e
 rw [Gq,if_pos (by simp; omega),ZC f l h,Aa,e,Aa,AC (by omega)]
 rfl
 rw [Gq,if_neg (by simp),AC (by omega)]
 rw [EF,if_neg (by simp)]
def Id(t:Ci)(least:Int)(i k:Nat)(q p:Int):Bool:=!Mh (HW t i) (HW t k) q p least
def IL(i k q p:Nat):Nat:=i*150+k*25+q*5+p*1
def dly(ds:List Int):Prop:=∀ i,i<ds.length→∃ q:Nat,q<5∧ds[i]? = some (q:Int)
theorem Zb{ds:List Int}(h:dly ds){p:Nat}(g:p<5):dly (ds++[(p:Int)]):=by
 intro i f
 rw [Cy,List.length_singleton] at f
 by_cases e:i<ds.length
 obtain ⟨q,h1,l⟩:=h i e
 exact ⟨q,h1,by rw [List.getElem?_append_left e]; exact l⟩
 have:i=ds.length:=by omega
 subst this
 exact ⟨p,g,by simp⟩
theorem Age{ds:List Int}{i q:Nat}(h:ds[i]? = some (q:Int)):ds.getD i 0=(q:Int):=by rw [List.getD_eq_getElem?_getD,h]; rfl
structure Sb (t:Ci) (least:Int) (l:List Int):Prop where
 len:l.length=900
 val:∀ i k q p:Nat,i<t.1.length→k<t.1.length→q<5→p<5→l[IL i k q p]? = some 0∨l[IL i k q p]? = some (if Id t least i k (q:Int) (p:Int)=true then 1 else 2)
theorem Ach{t:Ci}{g:Int}(f:RepF t g){l:List Int}(h:Sb t g l){i k q p:Nat}(hi:i<t.1.length)(hk:k<t.1.length)(hq:q<5)(hp:p<5) :
  ∃ l',Sb t g l'∧Ho (Hl t,g,l) (i:Int) (k:Int) (q:Int) (p:Int)=some (Id t g i k (q:Int) (p:Int),(Hl t,g,l')):=by
 have h6:=f.n6
 have u:(decide (0≤(i:Int))&&decide ((i:Int)<6))=true:=by simp; omega
 have v:(decide (0≤(k:Int))&&decide ((k:Int)<6))=true:=by simp; omega
 have c3:(decide (0≤(q:Int))&&decide ((q:Int)<5))=true:=by simp; omega
 have s:(decide (0≤(p:Int))&&decide ((p:Int)<5))=true:=by simp; omega
 have m:IL i k q p<900:=by unfold IL; omega
 unfold Ho Bf Fx
 dsimp only
 rw [if_pos u,if_pos v,if_pos c3,if_pos s]
 simp only [Int.toNat_natCast]
 rw [show i*150+k*25+q*5+p*1=IL i k q p by rfl]
 rcases h.val i k q p hi hk hq hp with h0|h0
 rw [h0,Aa,if_pos (by simp),AY,J0 t hi,Aa,AY,J0 t hk,Aa,TZ (f.del hi hk (by omega) (by omega)) f.l0,Aa]
 refine ⟨l.set (IL i k q p) (if Id t g i k (q:Int) (p:Int)=true then 1 else 2),⟨by rw [List.length_set]; exact h.len,fun i' k' q' p' ai am ao ak=>?_⟩,?_⟩
 by_cases e:IL i k q p=IL i' k' q' p'
 have:i=i'∧k=k'∧q=q'∧p=p':=by unfold IL at e; omega
 obtain ⟨rfl,rfl,rfl,rfl⟩:=this
 right
 rw [List.getElem?_set_self (by rw [h.len]; exact m)]
 rw [List.getElem?_set_ne e]
 exact h.val i' k' q' p' ai am ao ak
 have e:Id t g i k (q:Int) (p:Int)=!Mh (HW t i) (HW t k) (q:Int) (p:Int) g:=rfl
 rw [e]
 unfold P5
 rw [h.len,if_pos m]
 cases Mh (HW t i) (HW t k) (q:Int) (p:Int) g with
 | false =>
  simp only [Bool.not_false,if_true,Aa]
  rw [if_pos u,if_pos v,if_pos c3,if_pos s,List.getElem?_set_self (by rw [h.len]; exact m),Aa]
  rfl
 | true =>
  simp only [Bool.not_true,Bool.false_eq_true,if_false,Aa]
  rw [if_pos m,Aa,if_pos u,if_pos v,if_pos c3,if_pos s,List.getElem?_set_self (by rw [h.len]; exact m),Aa]
  rfl
 refine ⟨l,h,?_⟩
 rw [h0,Aa]
 have an:((if Id t g i k (q:Int) (p:Int)=true then (1:Int) else 2)==0)=false:=by split <;> rfl
 rw [an,if_neg (by simp),if_pos u,if_pos v,if_pos c3,if_pos s,Aa]
 cases Id t g i k (q:Int) (p:Int) <;> rfl
theorem Oc(a:Nat→Bool)(k:Nat):(List.range (k+1)).all a=((List.range k).all a&&a k):=by rw [List.range_succ,List.all_append]; simp
abbrev VG:=(List GK)×Int×(List Int)
theorem Aff{t:Ci}{e:Int}(f:RepF t e){l:List Int}(h:Sb t e l){ds:List Int}(hd:dly ds)(hl:ds.length<t.1.length){p:Nat}(hp:p<5)(s:Int)(hs:0≤s∧s≤1000) :
  ∃ g,Sb t e g∧∀(v:VG→Ae ((List Int)×VG))(aa:VG→(List Int)→Int→Ae ((List Int)×VG)),Da ds (p:Int) v aa s FU (Hl t,e,l) true 0 =
   if QJ (Id t e) ds (p:Int)=true then Option.bind (aa (Hl t,e,g) (ds++[(p:Int)]) (s-p)) fun u=>(if (decide (0<(List.length u.1:Int)))=true then some (u.1,u.2) else v u.2) else v (Hl t,e,g):=by
 have h6:=f.n6
 refine Exists.elim (JY (fun (j:(VG→Ae ((List Int)×VG))×(VG→(List Int)→Int→Ae ((List Int)×VG))) m (z:VG×Bool) k=>Da ds (p:Int) j.1 j.2 s m z.1 z.2 k) ds.length
  (fun k z=>∃ g,Sb t e g∧z.1=(Hl t,e,g)∧z.2=(List.range k).all fun i=>Id t e i ds.length (ds.getD i 0) (p:Int))
  (fun j z=>if (!z.2)=true then j.1 z.1 else Option.bind (j.2 z.1 (ds++[(p:Int)]) (s-p)) fun u=>(if (decide (0<(List.length u.1:Int)))=true then some (u.1,u.2) else j.1 u.2)) (by omega)
  (fun k z _ hk hi=>?_) (fun z hi j m=>?_) (b:=0) (by omega) (s:=((Hl t,e,l),true)) ⟨l,h,rfl,rfl⟩) ?_
 obtain ⟨x,b⟩:=z
 obtain ⟨l1,g1,g2,g3⟩:=hi
 dsimp only at g2 g3
 subst g2
 obtain ⟨q,hq,ac⟩:=hd k hk
 cases hb:b with
 | false =>
  refine ⟨((Hl t,e,l1),false),⟨l1,g1,rfl,?_⟩,fun j m=>?_⟩
  rw [Oc,← g3,hb]; rfl
  dsimp only
  rw [Da,if_pos (by simp; omega)]
  unfold Fx
  dsimp only
  rw [AY,ac,Aa,if_neg (by simp),AC (by omega)]
 | true =>
  obtain ⟨l2,g4,g5⟩:=Ach f g1 (i:=k) (k:=ds.length) (q:=q) (p:=p) (by omega) hl hq hp
  refine ⟨((Hl t,e,l2),Id t e k ds.length (q:Int) (p:Int)),⟨l2,g4,rfl,?_⟩,fun j m=>?_⟩
  rw [Oc,← g3,hb,Bool.true_and,Age ac]
  dsimp only
  rw [Da,if_pos (by simp; omega)]
  unfold Fx
  dsimp only
  rw [AY,ac,Aa,if_pos rfl,g5,Aa,AC (by omega)]
 obtain ⟨x,b⟩:=z
 dsimp only
 rw [Da,if_neg (by simp),R6 _ (by omega),Aa,Bg (by simp; omega),Aa,AA (by omega) (by omega)]
 rintro ⟨x',b'⟩ ⟨⟨g,h1,h2,h3⟩,h4⟩
 dsimp only at h2 h3
 subst h2
 refine ⟨g,h1,fun v aa=>?_⟩
 have:=h4 (v,aa)
 dsimp only at this
 refine Eq.trans this ?_
 rw [h3]
 unfold QJ
 cases (List.range ds.length).all fun i=>Id t e i ds.length (ds.getD i 0) (p:Int) <;> rfl
theorem Aci{t:Ci}{g:Int}(f:RepF t g):∀(r:Nat)(ds:List Int)(s m:Nat)(l:List Int),ds.length+r=t.1.length→dly ds→s≤100→r<m→Sb t g l →
  ∃ out h,Sb t g h∧Dr m (Hl t,g,l) ds (s:Int)=some (out,(Hl t,g,h))∧decide (0<out.length)=MZ (Id t g) r ds s:=by
 have h6:=f.n6
 have h1:=f.tr.can.l1
 intro r
 induction r with
 | zero =>
  intro ds s m l hl hd hs hm hk
  cases m with
  | zero=>omega
  | succ m =>
   rw [Dr]
   unfold GG
   rw [if_pos (by rw [E2,beq_iff_eq]; omega),MZ]
   by_cases e:s=0
   subst e
   exact ⟨ds,l,hk,by rfl,by simp; omega⟩
   exact ⟨[],l,hk,by rw [if_pos (by simp; omega)],by simp [e]⟩
 | succ r ih =>
  intro ds s m l hl hd hs hm hk
  cases m with
  | zero=>omega
  | succ m =>
   rw [Dr]
   unfold GG
   rw [if_neg (by rw [E2,beq_iff_eq]; omega)]
   refine Exists.elim (Aak (Db (s:Int) ds (Dr m)) (min s 4+1) (fun z=>∃ h,Sb t g h∧z=(Hl t,g,h)) (fun (p:Nat)=>QJ (Id t g) ds (p:Int)&&MZ (Id t g) r (ds++[(p:Int)]) (s-p))
    (fun v=>∃ h,Sb t g h∧v.2=(Hl t,g,h)∧0<v.1.length) (fun v=>∃ h,Sb t g h∧v=([],(Hl t,g,h))) (by omega) (fun p z hp hz=>?_) (fun z hz=>?_) (s:=(Hl t,g,l)) ⟨l,hk,rfl⟩) ?_
   obtain ⟨l1,g1,rfl⟩:=hz
   obtain ⟨l2,g2,g3⟩:=Aff f g1 hd (by omega) (p:=p) (by omega) (s:Int) (by omega)
   have ab:min (s:Int) 4=((min s 4:Nat):Int):=by omega
   by_cases u:QJ (Id t g) ds (p:Int)=true
   obtain ⟨out,l3,g4,g5,g6⟩:=ih (ds++[(p:Int)]) (s-p) m l2 (by simp; omega) (Zb hd (by omega)) (by omega) (by omega) g2
   rw [show ((s-p:Nat):Int)=(s:Int)-(p:Int) by omega] at g5
   cases he:MZ (Id t g) r (ds++[(p:Int)]) (s-p) with
   | true =>
    rw [he,C9] at g6
    refine .inl ⟨by rw [u]; rfl,(out,(Hl t,g,l3)),⟨l3,g4,rfl,g6⟩,fun q=>?_⟩
    rw [Db,Ls,Aa,ab,if_pos (by simp; omega)]
    unfold Bf
    dsimp only
    rw [g3,if_pos u,g5,Aa,if_pos (by simpa using g6)]
   | false =>
    rw [he,decide_eq_false_iff_not] at g6
    refine .inr ⟨by rw [u]; rfl,(Hl t,g,l3),⟨l3,g4,rfl⟩,fun q=>?_⟩
    rw [Db,Ls,Aa,ab,if_pos (by simp; omega)]
    unfold Bf
    dsimp only
    rw [g3,if_pos u,g5,Aa,if_neg (by simpa using g6),AC (by omega)]
   refine .inr ⟨by simp [u],(Hl t,g,l2),⟨l2,g2,rfl⟩,fun q=>?_⟩
   rw [Db,Ls,Aa,ab,if_pos (by simp; omega)]
   unfold Bf
   dsimp only
   rw [g3,if_neg u,AC (by omega)]
   obtain ⟨l1,g1,rfl⟩:=hz
   have ab:min (s:Int) 4=((min s 4:Nat):Int):=by omega
   refine ⟨([],(Hl t,g,l1)),⟨l1,g1,rfl⟩,fun q=>?_⟩
   rw [Db,Ls,Aa,ab,if_neg (by rw [C9]; omega)]
   rintro v ⟨h2,h3⟩
   rw [MZ]
   rcases h3 with ⟨h4,h,h5,an,h7⟩|⟨h4,h,h5,an⟩
   exact ⟨v.1,h,h5,by rw [h2,← an],by rw [h4]; simpa using h7⟩
   subst an
   exact ⟨[],h,h5,h2,by rw [h4]; rfl⟩
theorem X8{t:Ci}{e:Int}(f:RepF t e):∃ r,Kw t e=some r∧decide (0<r.1.length)=Na (Id t e) t.1.length []:=by
 have h6:=f.n6
 unfold Kw
 rw [Ns f.tr,Aa]
 have ak:Sb t e (List.replicate 900 0):=⟨List.length_replicate,fun i k q p hi hk hq hp=>.inl (by rw [List.getElem?_replicate,if_pos (by unfold IL; omega)])⟩
 refine Exists.elim (Aak (E5 t) (4*t.1.length+1) (fun z=>∃ l',Sb t e l'∧z=(Hl t,e,l')) (fun s=>MZ (Id t e) t.1.length [] s)
  (fun h=>0<h.1.length) (fun h=>h.1=[]) (by omega) (fun s z hs v=>?_) (fun z v=>?_) (s:=(Hl t,e,List.replicate 900 0)) ⟨_,ak,rfl⟩) ?_
 obtain ⟨l1,g1,rfl⟩:=v
 obtain ⟨out,l3,g4,g5,g⟩:=Aci f t.1.length [] s FU l1 (by simp) (fun i hi=>by simp at hi) (by omega) (Dw (by omega)) g1
 cases he:MZ (Id t e) t.1.length [] s with
 | true =>
  rw [he,C9] at g
  refine .inl ⟨rfl,(out,(s:Int)),g,fun q=>?_⟩
  rw [E5,AA (by omega) (by omega),if_pos (by simp; omega)]
  unfold IP
  rw [g5,Aa,if_pos (by simpa using g)]
 | false =>
  rw [he,decide_eq_false_iff_not] at g
  refine .inr ⟨rfl,(Hl t,e,l3),⟨l3,g4,rfl⟩,fun q=>?_⟩
  rw [E5,AA (by omega) (by omega),if_pos (by simp; omega)]
  unfold IP
  rw [g5,Aa,if_neg (by simpa using g),AC (by omega)]
 obtain ⟨l1,g1,rfl⟩:=v
 refine ⟨([],0),rfl,fun q=>?_⟩
 rw [E5,AA (by omega) (by omega),if_neg (by simp; omega)]
 rintro h ⟨h2,h3⟩
 refine ⟨h,h2,?_⟩
 rcases h3 with ⟨u,l⟩|⟨u,l⟩
 have:Na (Id t e) t.1.length []=true:=by
  rw [Rl]
  obtain ⟨s,h7,m⟩:=List.any_eq_true.1 u
  exact ⟨s,by have:=List.mem_range.1 h7; omega,m⟩
 rw [this]
 simpa using l
 have:Na (Id t e) t.1.length []=false:=by
  rw [← Bool.not_eq_true,Rl]
  rintro ⟨s,h7,m⟩
  have:=List.any_eq_false.1 u s (List.mem_range.2 (by omega))
  exact this m
 rw [this,l]
 rfl
structure VL (t:Ci) (least:Int) (l:List Bool) (c:Nat):Prop where
 len:l.length=900
 val:∀ i k q p:Nat,i<k→k<t.1.length→q<5→p<5→IL i k q p<c→l[IL i k q p]? = some (!Id t least i k (q:Int) (p:Int))
abbrev Qy:=(List Bool)×Int×(List Int)×Int
theorem Aih{t:Ci}{e:Int}(f:RepF t e){l:List Bool}(h:VL t e l 900){ds:List Int}(hd:dly ds)(hl:ds.length<t.1.length){p:Nat}(hp:p<5)(s:Int)(hs:0≤s∧s≤1000)
  (y:Qy) (hy:y.1=l) (g:Qy→Ae Qy) (u:Qy→(List Int)→Int→Ae Qy):CW ds (p:Int) u s g FU y true 0 =
   if QJ (Id t e) ds (p:Int)=true then Option.bind (u y (ds++[(p:Int)]) (s+p)) g else g y:=by
 have h6:=f.n6
 refine ES (fun m (b:Bool) k=>CW ds (p:Int) u s g m y b k) ds.length (fun k=>(List.range k).all fun i=>Id t e i ds.length (ds.getD i 0) (p:Int)) _ (by omega) (j:=0) (by omega) (fun m k _ hk=>?_) (fun m=>?_)
 obtain ⟨q,hq,v⟩:=hd k hk
 rw [CW,if_pos (by simp; omega)]
 unfold Fx
 dsimp only
 rw [AY,v,Aa,Oc,AC (by omega)]
 cases (List.range k).all fun i=>Id t e i ds.length (ds.getD i 0) (p:Int) with
 | false=>rfl
 | true =>
  have c1:(decide (0≤(k:Int))&&decide ((k:Int)<6))=true:=by simp; omega
  have c2:(decide (0≤(ds.length:Int))&&decide ((ds.length:Int)<6))=true:=by simp; omega
  have c3:(decide (0≤(q:Int))&&decide ((q:Int)<5))=true:=by simp; omega
  have c4:(decide (0≤(p:Int))&&decide ((p:Int)<5))=true:=by simp; omega
  rw [if_pos rfl,if_pos c1,if_pos c2,if_pos c3,if_pos c4]
  simp only [Int.toNat_natCast]
  rw [show k*150+ds.length*25+q*5+p*1=IL k ds.length q p by rfl,hy,h.val k ds.length q p hk hl hq hp (by unfold IL; omega),Aa,Bool.not_not,Bool.true_and,Age v]
 rw [CW,if_neg (by simp),OG _ (by omega),Aa,Bg (by simp; omega),Aa,AA (by omega) (by omega)]
 rfl
theorem Adq{t:Ci}{aa:Int}(f:RepF t aa){l:List Bool}(hc:VL t aa l 900):∀(r:Nat)(ds:List Int)(s m:Nat)(g:List Int)(h:Int),ds.length+r=t.1.length→dly ds→s≤4*ds.length→r<m →
  ∃ best' sm',Cv m (l,(t.1.length:Int),g,h) ds (s:Int)=some (l,(t.1.length:Int),best',sm')∧(!best'.isEmpty)=((!g.isEmpty)||Na (Id t aa) r ds):=by
 have h6:=f.n6
 have h1:=f.tr.can.l1
 intro r
 induction r with
 | zero =>
  intro ds s m g h hl hd hs hm
  cases m with
  | zero=>omega
  | succ m =>
   rw [Cv]
   unfold Fz Fx
   dsimp only
   have al:ds.isEmpty=false:=by rw [List.isEmpty_eq_false_iff]; intro e; rw [e] at hl; simp at hl; omega
   have ap:(if ((ds.length:Int)==(t.1.length:Int))=true then Option.bind (Gg ds) fun ad=>(if (List.isEmpty ad)=true then none else some (l,(t.1.length:Int),ad,(s:Int))) else C3 ds (Cv m) (s:Int) FU (l,(t.1.length:Int),g,h) 0)=some (l,(t.1.length:Int),ds,(s:Int)):=by
    rw [if_pos (by rw [beq_iff_eq]; omega),OG _ (by omega),Aa,al,if_neg (by simp)]
   rw [Na,Bool.or_true]
   cases u:g.isEmpty with
   | true =>
    rw [if_neg (by simp),if_neg (by simp),ap]
    exact ⟨ds,_,rfl,by rw [al]; rfl⟩
   | false =>
    rw [if_pos (by simp)]
    by_cases ac:h≤(s:Int)
    rw [if_pos (decide_eq_true ac)]
    exact ⟨g,h,rfl,by rw [u]; rfl⟩
    rw [if_neg (by simpa using ac),ap]
    exact ⟨ds,_,rfl,by rw [al]; rfl⟩
 | succ r ih =>
  intro ds s m g h hl hd hs hm
  cases m with
  | zero=>omega
  | succ m =>
   rw [Cv]
   unfold Fz Fx
   dsimp only
   have go:∃ best' sm',(if ((ds.length:Int)==(t.1.length:Int))=true then Option.bind (Gg ds) fun ad=>(if (List.isEmpty ad)=true then none else some (l,(t.1.length:Int),ad,(s:Int))) else C3 ds (Cv m) (s:Int) FU (l,(t.1.length:Int),g,h) 0)=some (l,(t.1.length:Int),best',sm')∧(!best'.isEmpty)=((!g.isEmpty)||Na (Id t aa) (r+1) ds):=by
    rw [if_neg (by rw [beq_iff_eq]; omega)]
    refine Exists.elim (JY (fun (_:Unit) m' (z:Qy) k=>C3 ds (Cv m) (s:Int) m' z k) 5 (fun k z=>∃ v s',z=(l,(t.1.length:Int),v,s')∧(!v.isEmpty)=((!g.isEmpty)||(List.range k).any fun (p:Nat)=>QJ (Id t aa) ds (p:Int)&&Na (Id t aa) r (ds++[(p:Int)])))
     (fun _ z=>some z) (by omega) (fun p z _ hp hz=>?_) (fun z hz j m'=>?_) (b:=0) (by omega) (s:=(l,(t.1.length:Int),g,h)) ⟨g,h,rfl,by simp⟩) ?_
    obtain ⟨v,s',rfl,u⟩:=hz
    have ao:=Aih f hc hd (by omega) (p:=p) hp (s:Int) (by omega) (l,(t.1.length:Int),v,s') rfl
    by_cases hf:QJ (Id t aa) ds (p:Int)=true
    obtain ⟨b2,s2,g1,g2⟩:=ih (ds++[(p:Int)]) (s+p) m v s' (by simp; omega) (Zb hd hp) (by simp; omega) (by omega)
    refine ⟨(l,(t.1.length:Int),b2,s2),⟨b2,s2,rfl,?_⟩,fun _ m'=>?_⟩
    rw [g2,u,List.range_succ,List.any_append,List.any_cons,List.any_nil,Bool.or_false,hf,Bool.true_and,Bool.or_assoc]
    rw [C3,if_pos (by simp; omega)]
    unfold Bf
    dsimp only
    rw [ao,if_pos hf,show (s:Int)+(p:Int)=((s+p:Nat):Int) by omega,g1,Aa,AC (by omega)]
    refine ⟨(l,(t.1.length:Int),v,s'),⟨v,s',rfl,?_⟩,fun _ m'=>?_⟩
    have au:QJ (Id t aa) ds (p:Int)=false:=by simpa using hf
    rw [u,List.range_succ,List.any_append,List.any_cons,List.any_nil,Bool.or_false,au,Bool.false_and,Bool.or_false]
    rw [C3,if_pos (by simp; omega)]
    unfold Bf
    dsimp only
    rw [ao,if_neg hf,AC (by omega)]
    rw [C3,if_neg (by decide)]
    rintro z ⟨⟨v,s',rfl,u⟩,hz⟩
    exact ⟨v,s',hz (),u⟩
   cases u:g.isEmpty with
   | true =>
    rw [if_neg (by simp),if_neg (by simp)]
    rw [u] at go
    exact go
   | false =>
    rw [if_pos (by simp)]
    by_cases ac:h≤(s:Int)
    rw [if_pos (decide_eq_true ac)]
    exact ⟨g,h,rfl,by rw [u]; rfl⟩
    rw [if_neg (by simpa using ac)]
    rw [u] at go
    exact go
theorem VB{t:Ci}{e:Int}{l:List Bool}{c c':Nat}(h:VL t e l c)(u:∀ i k q p:Nat,i<k→k<t.1.length→q<5→p<5→IL i k q p<c'→IL i k q p<c):VL t e l c' :=
 ⟨h.len,fun i k q p h1 g m f s=>h.val i k q p h1 g m f (u i k q p h1 g m f s)⟩
def Qt(t:Ci)(l:List Bool):Qy:=(l,(t.1.length:Int),[],0)
theorem U2{t:Ci}{h:Int}(f:RepF t h):∃ r,ID t h=some r∧(!r.1.isEmpty)=Na (Id t h) t.1.length []:=by
 have h6:=f.n6
 unfold ID
 rw [PM f.tr,Aa,E2]
 have h0:VL t h (List.replicate 900 false) (IL 0 1 0 0):=⟨List.length_replicate,fun i k q p h1 h2 h3 h4 h5=>by unfold IL at h5; omega⟩
 refine Exists.elim (JY (fun (_:Unit) m (z:Qy) i=>Et (Hl t) h m z i) t.1.length (fun i z=>∃ l,z=Qt t l∧VL t h l (IL i (i+1) 0 0)) (fun _ z=>Option.bind (HG z [] 0) fun an=>some (an.2.2.1,an.2.2.2)) (by omega) (fun i z _ hi g=>?_) (fun z g j m=>?_) (b:=0) (by omega) (s:=Qt t (List.replicate 900 false)) ⟨_,rfl,h0⟩) ?_
 obtain ⟨l,rfl,hl⟩:=g
 refine Exists.elim (JY (fun (u:Qy→Int→Ae Akn) m (z:Qy) k=>Es (Hl t) (i:Int) h u m z k) t.1.length (fun k z=>∃ l,z=Qt t l∧VL t h l (IL i k 0 0)) (fun u z=>u z ((i+1:Nat):Int)) (by omega) (fun k z a1 hk g=>?_) (fun z g j m=>?_) (b:=i+1) (by omega) (s:=Qt t l) ⟨_,rfl,hl⟩) ?_
 obtain ⟨l,rfl,hl⟩:=g
 refine Exists.elim (JY (fun (u:Qy→Int→Ae Akn) m (z:Qy) p=>Er (Hl t) (i:Int) (k:Int) h u m z p) 5 (fun p z=>∃ l,z=Qt t l∧VL t h l (IL i k p 0)) (fun u z=>u z ((k+1:Nat):Int)) (by omega) (fun p z _ hp g=>?_) (fun z g j m=>?_) (b:=0) (by omega) (s:=Qt t l) ⟨_,rfl,hl⟩) ?_
 obtain ⟨l,rfl,hl⟩:=g
 refine Exists.elim (JY (fun (u:Qy→Int→Ae Akn) m (z:Qy) q=>Ep (Hl t) (i:Int) (k:Int) (p:Int) h u m z q) 5 (fun q z=>∃ l,z=Qt t l∧VL t h l (IL i k p q)) (fun u z=>u z ((p+1:Nat):Int)) (by omega) (fun q z _ hq g=>?_) (fun z g j m=>?_) (b:=0) (by omega) (s:=Qt t l) ⟨_,rfl,hl⟩) ?_
 obtain ⟨l,rfl,hl⟩:=g
 have c1:(decide (0≤(i:Int))&&decide ((i:Int)<6))=true:=by simp; omega
 have c2:(decide (0≤(k:Int))&&decide ((k:Int)<6))=true:=by simp; omega
 have c3:(decide (0≤(p:Int))&&decide ((p:Int)<5))=true:=by simp; omega
 have c4:(decide (0≤(q:Int))&&decide ((q:Int)<5))=true:=by simp; omega
 have al:IL i k p q<900:=by unfold IL; omega
 refine ⟨Qt t (l.set (IL i k p q) (!Id t h i k (p:Int) (q:Int))),⟨_,rfl,by rw [List.length_set]; exact hl.len,fun i' k' p' q' h1 h2 h3 h4 h5=>?_⟩,fun u m=>?_⟩
 by_cases e:IL i k p q=IL i' k' p' q'
 have:i=i'∧k=k'∧p=p'∧q=q':=by unfold IL at e; omega
 obtain ⟨rfl,rfl,rfl,rfl⟩:=this
 rw [List.getElem?_set_self (by rw [hl.len]; exact al)]
 rw [List.getElem?_set_ne e]
 exact hl.val i' k' p' q' h1 h2 h3 h4 (by unfold IL at h5 e ⊢; omega)
 have e:(!Id t h i k (p:Int) (q:Int))=Mh (HW t i) (HW t k) (p:Int) (q:Int) h:=by unfold Id; rw [Bool.not_not]
 rw [Ep,if_pos (by simp; omega)]
 unfold Bf
 dsimp only
 rw [AY,J0 t hi,Aa,AY,J0 t hk,Aa,if_pos c1,if_pos c2,if_pos c3,OT (f.del hi hk (by omega) (by omega)) f.l0,Aa,if_pos c4]
 simp only [Int.toNat_natCast]
 rw [show i*150+k*25+p*5+q*1=IL i k p q by rfl]
 unfold P5 Qt
 dsimp only
 rw [hl.len,if_pos al,Aa,AC (by omega),e]
 obtain ⟨l,rfl,hl⟩:=g
 rw [Ep,if_neg (by decide),AC (by omega)]
 rintro z ⟨⟨v,rfl,ad⟩,g⟩
 refine ⟨Qt t v,⟨v,rfl,VB ad (fun i' k' p' q' h1 h2 h3 h4 h5=>by unfold IL at h5 ⊢; omega)⟩,fun u m=>?_⟩
 rw [Er,if_pos (by simp; omega)]
 exact g _
 rw [Er,if_neg (by decide),AC (by omega)]
 rintro z ⟨⟨v,rfl,ad⟩,g⟩
 refine ⟨Qt t v,⟨v,rfl,VB ad (fun i' k' p' q' h1 h2 h3 h4 h5=>by unfold IL at h5 ⊢; omega)⟩,fun u m=>?_⟩
 rw [Es,if_pos (by rw [E2]; simp; omega)]
 exact g _
 rw [Es,if_neg (by rw [E2]; simp),AC (by omega)]
 rintro z ⟨⟨v,rfl,ad⟩,g⟩
 refine ⟨Qt t v,⟨v,rfl,VB ad (fun i' k' p' q' h1 h2 h3 h4 h5=>by unfold IL at h5 ⊢; omega)⟩,fun _ m=>?_⟩
 rw [Et,if_pos (by rw [E2]; simp; omega),AC (by omega)]
 exact g _
 rw [Et,if_neg (by rw [E2]; simp)]
 rintro z ⟨⟨v,rfl,ad⟩,g⟩
 obtain ⟨b',s',g1,g2⟩:=Adq f (VB ad (c':=900) (fun i' k' p' q' h1 h2 h3 h4 h5=>by unfold IL; omega)) t.1.length [] 0 FU [] 0 (by simp) (fun i hi=>by simp at hi) (by simp) (Dw (by omega))
 refine ⟨(b',s'),Eq.trans (g ()) ?_,g2⟩
 unfold HG Qt
 have ar:Cv FU (v,(t.1.length:Int),[],0) [] 0=some (v,(t.1.length:Int),b',s'):=g1
 rw [ar,Aa]

def N4(t:Ci)(least:Int):Int×Bool :=
 if (M5 t&&(decide (t.2.2.1≤16)&&(decide (t.1.length≤6)&&BW least 0 80)))=true then ((if QC t least=true then 0 else if (Yo t least).isSome=true then 1 else if Na (Id t least) t.1.length []=true then 2 else 3),true) else (0,false)
theorem Aim(n:Nat):decide ((n:Int)≤6)=decide (n≤6):=by rw [decide_eq_decide]; omega
theorem V8{t:Ci}(h:SmT t)(e:Int):Jo t e=some (N4 t e):=by
 have:=h.h1; have:=h.h2; have:=h.h3
 unfold Jo KP Bf N4
 dsimp only
 rw [M6 (by omega) (by omega) (by omega),Aa,SR,Aa,Aim]
 cases ho:M5 t with
 | false=>rfl
 | true =>
  by_cases l:t.2.2.1≤16
  rw [decide_eq_true l]
  by_cases g:t.1.length≤6
  rw [decide_eq_true g]
  cases u:BW e 0 80 with
  | false=>rfl
  | true =>
   have f:RepF t e:=⟨PG ho,l,g,Eb.1 u⟩
   obtain ⟨r1,s,e2⟩:=V5 f
   obtain ⟨r2,v,m⟩:=U2 f
   simp only [if_true,Bool.not_true,Bool.false_eq_true,if_false,Aa,Bool.and_true]
   rw [OS f,Aa,s,Aa,e2,v,Aa,m]
   cases QC t e <;> cases (Yo t e).isSome <;> cases Na (Id t e) t.1.length [] <;> rfl
  rw [decide_eq_false g]; rfl
  rw [decide_eq_false l]; rfl
theorem Vg{t:Ci}(h:SmT t)(e:Int):Jg t e=some (N4 t e):=by
 have:=h.h1; have:=h.h2; have:=h.h3
 unfold Jg MR Bf N4
 dsimp only
 rw [Q8 (by omega) (by omega) (by omega),Aa,Ql,Aa,Aim]
 cases ho:M5 t with
 | false=>rfl
 | true =>
  by_cases l:t.2.2.1≤16
  rw [decide_eq_true l]
  by_cases g:t.1.length≤6
  rw [decide_eq_true g]
  cases v:BW e 0 80 with
  | false=>rfl
  | true =>
   have f:RepF t e:=⟨PG ho,l,g,Eb.1 v⟩
   obtain ⟨r1,u,e2⟩:=ZA f
   obtain ⟨r2,e3,m⟩:=X8 f
   have s:decide (0<(r2.1.length:Int))=decide (0<r2.1.length):=by rw [decide_eq_decide]; omega
   simp only [if_true,Bool.not_true,Bool.false_eq_true,if_false,Aa,Bool.and_true]
   rw [Oe (by omega),Aa,Ua f,Aa,u,Aa,e2,e3,Aa,s,m]
   unfold QC
   cases ((KN (Wi t e) t.1.length t.1.length).length:Int)==0 <;> cases (Yo t e).isSome <;> cases Na (Id t e) t.1.length [] <;> rfl
  rw [decide_eq_false g]; rfl
  rw [decide_eq_false l]; rfl
theorem Ae8(t:Ci)(e:Int):0≤(N4 t e).1∧(N4 t e).1≤3:=by
 unfold N4
 split
 dsimp only
 split
 decide
 split
 decide
 split <;> decide
 decide
theorem Ahn{k u:Nat}(h:u<10 ^ (k+1)):(Lib.decDigits u).length≤k+1:=(Xy k u h).2.2.2.1
theorem VZ{t:Int}(f:0≤t)(h1:t<10):LJ [NP (Ah (48+t))]=[UInt8.ofNat (48+t.toNat)]:=by
 have e:NP (48+t)=48+t:=by
  unfold NP
  show (48+t)%256=_
  omega
 rw [AA (by omega) (by omega),e]
 unfold LJ
 rw [List.map_cons,List.map_nil,show (48+t).toNat=48+t.toNat by omega]
theorem Aja:∀(d m:Nat)(n:Int),0≤n→n.toNat<10 ^ (d+1)→d≤18→d<m→n≤9223372036854775807→G7 m n=some (Lib.decDigits n.toNat):=by
 intro d
 induction d with
 | zero =>
  intro m n e f hd l h2
  cases m with
  | zero=>omega
  | succ m =>
   have g:n.toNat<10:=by simpa using f
   rw [G7,if_pos (by simp; omega),VZ e (by omega),SX g]
 | succ d h =>
  intro m n e f hd l h2
  cases m with
  | zero=>omega
  | succ m =>
   by_cases g:n<10
   rw [G7,if_pos (by simp; omega),VZ e g,SX (by omega)]
   rw [G7,if_neg (by simp; omega)]
   unfold Bf
   dsimp only
   have hq:(n / 10).toNat=n.toNat / 10:=by omega
   have v:(n%10).toNat=n.toNat%10:=by omega
   have s:n.toNat / 10<10 ^ (d+1):=by rw [Nat.pow_succ] at f; omega
   have hl:=Ahn (k:=d) s
   rw [Int.tdiv_eq_ediv_of_nonneg e,Int.tmod_eq_emod_of_nonneg e,AA (x:=n / 10) (by omega) (by omega),h m (n / 10) (by omega) (by omega) (by omega) (by omega) (by omega),Aa,VZ (by omega) (by omega),hq,v]
   unfold BB
   rw [if_pos (by simp; omega),Aa,Aap (u:=n.toNat) (by omega)]
theorem Kq{n:Int}(h:0≤n)(e:n≤9223372036854775807):CL n=some (Lib.decDigits n.toNat):=by
 unfold CL
 exact Aja 18 FU n h (by omega) (by omega) (Dw (by omega)) e
theorem Agk{x:Hn}(h:GQ x=true){c:Int}(h0:0≤c)(h1:c≤4611686018427387904):0≤Tw x c∧Tw x c≤720000:=by
 obtain ⟨l1,l2,hx⟩:=Nl h
 have aw:x.length≤40:=by
  unfold GQ at h
  rw [Cq,Nk] at h
  omega
 have ai:∀(d k m:Nat)(a b:Int),x.length-k=d→k≤x.length→d<m→0≤a→a≤4611686018427387904→0≤b→b≤18000*k→∃ t,Dy x m a b (k:Int)=some t∧0≤t∧t≤18000*x.length:=by
  intro d
  induction d with
  | zero =>
   intro k m a b hd hk hm g a1 b0 b1
   cases m with
   | zero=>omega
   | succ m =>
    rw [Dy,if_neg (by simp; omega)]
    exact ⟨_,rfl,by omega,by omega⟩
  | succ d ih =>
   intro k m a b hd hk hm g a1 b0 b1
   cases m with
   | zero=>omega
   | succ m =>
    have u:k<x.length:=by omega
    have l:=List.all_eq_true.1 hx x[k] (List.getElem_mem u)
    unfold Hk at l
    rw [Cq,Nk,Nk] at l
    have v:¬ x[k].2=0:=by omega
    have C0:∀ q:Int,0≤q→q≤12→Ah (Int.tdiv (Ah (60000*q)) x[k].2)=60000*q / x[k].2∧0≤60000*q / x[k].2∧60000*q / x[k].2≤18000:=by
     intro q q0 q1
     have d1:0≤60000*q / x[k].2:=Int.ediv_nonneg (by omega) (by omega)
     have d2:60000*q / x[k].2≤18000:=by
      have:=Int.ediv_le_ediv (c:=x[k].2) (by omega) (show 60000*q≤18000*x[k].2 by omega)
      rw [Int.mul_ediv_cancel _ v] at this
      exact this
     rw [AA (x:=60000*q) (by omega) (by omega),Int.tdiv_eq_ediv_of_nonneg (by omega),AA (by omega) (by omega)]
     exact ⟨rfl,d1,d2⟩
    rw [Dy,if_pos (by simp; omega),Ic u,Aa]
    simp only [Iq,if_neg v,Aa,AC (k:=k) (by omega)]
    split
    rename_i f
    have aq:a<x[k].1:=by simpa using f
    obtain ⟨e,e0,e1⟩:=C0 a g (by omega)
    rw [e,AA (by omega) (by omega)]
    exact ⟨_,rfl,by omega,by omega⟩
    rename_i f
    have aq:¬ a<x[k].1:=by simpa using f
    obtain ⟨e,e0,e1⟩:=C0 x[k].1 (by omega) (by omega)
    rw [e,AA (x:=a-x[k].1) (by omega) (by omega),AA (x:=b+_) (by omega) (by omega)]
    exact ih (k+1) m _ _ (by omega) (by omega) (by omega) (by omega) (by omega) (by omega) (by omega)
 obtain ⟨t,s,t0,t1⟩:=ai _ 0 FU c 0 rfl (by omega) (Dw (by omega)) h0 h1 (by omega) (by simp)
 have:=Q6 x h c
 unfold Gz at this
 rw [show ((0:Nat):Int)=0 by rfl] at s
 rw [s] at this
 have e:=Option.some.inj this
 rw [← e]
 exact ⟨t0,by omega⟩
abbrev IX:=Int×Int×Int
def Va(k:Nat)(x:IX):Bool:=(if k=0 then decide (x.1=-1) else BW x.1 0 ((k:Int)-1))&&(BW x.2.1 0 7&&BW x.2.2 0 999)
def Q3(l:List IX)(k:Nat):Bool:=match l[k]? with
 | some x=>Va k x
 | none=>true
def Ib(l:List IX):Bool:=BW (l.length:Int) 1 60&&(List.range l.length).all (Q3 l)
theorem Q4{l:List IX}(u:l.length<4611686018427387904):IY l=some (Ib l):=by
 unfold IY Ib
 rw [N3 (Gp l) l.length (Q3 l) (some (BW (l.length:Int) 1 60)) (some false) u (fun m k s=>?_) (fun m=>?_)]
 cases (List.range l.length).all (Q3 l) <;> simp
 obtain ⟨x,h⟩:∃ x,l[k]? = some x:=⟨_,BP s⟩
 rw [Gp,if_pos (by simp; omega),AY,h,Aa,AC (by omega)]
 unfold Bf Q3
 rw [h]
 dsimp only
 rw [Dg,Aa,Dg,Dg,Aa,Aa,AA (by omega) (by omega)]
 unfold Va
 by_cases g:k=0
 subst g
 have:BW x.1 0 (((0:Nat):Int)-1)=false:=by rw [← Bool.not_eq_true,Eb]; omega
 rw [this]
 by_cases e:x.1=-1 <;> by_cases h1:BW x.2.1 0 7=true <;> by_cases f:BW x.2.2 0 999=true <;> simp [e,h1,f]
 by_cases e:BW x.1 0 ((k:Int)-1)=true <;> by_cases h1:BW x.2.1 0 7=true <;> by_cases f:BW x.2.2 0 999=true <;> simp [e,h1,f,g,show 0<k by omega]
 rw [Gp,if_neg (by simp),Dg,Aa]
theorem Lu{l:List IX}(hl:l.length<4611686018427387904):EC l=some (Ib l):=by
 unfold EC Ib Bf
 dsimp only
 rw [Df,Aa]
 cases hi:BW (l.length:Int) 1 60 with
 | false=>simp
 | true =>
  have ae:=Eb.1 hi
  obtain ⟨g,u⟩:∃ x,l[0]? = some x:=⟨_,BP (by omega)⟩
  rw [if_neg (by simp),U7,u,Aa,Bool.true_and]
  by_cases f:g.1=-1
  rw [if_neg (by simpa using f),N3 (Ex l) l.length (Q3 l) (some true) (some false) hl (fun m k hk=>?_) (fun m=>?_)]
  cases (List.range l.length).all (Q3 l) <;> simp
  obtain ⟨x,e⟩:∃ x,l[k]? = some x:=⟨_,BP hk⟩
  rw [Ex,if_pos (by simp; omega),AY,e,Aa,AC (by omega)]
  unfold Bf Q3
  rw [e]
  dsimp only
  rw [Df,Aa,Df,Df,Aa,Aa,AA (by omega) (by omega)]
  unfold Va
  by_cases v:k=0
  subst v
  rw [u] at e
  cases e
  by_cases h1:BW g.2.1 0 7=true <;> by_cases s:BW g.2.2 0 999=true <;> simp [f,h1,s]
  by_cases hq:BW x.1 0 ((k:Int)-1)=true <;> by_cases h1:BW x.2.1 0 7=true <;> by_cases s:BW x.2.2 0 999=true <;> simp [hq,h1,s,v,show 0<k by omega]
  rw [Ex,if_neg (by simp)]
  rw [if_pos (by simpa using f)]
  have:(List.range l.length).all (Q3 l)=false:=by
   rw [← Bool.not_eq_true,List.all_eq_true]
   intro h
   have:=h 0 (List.mem_range.2 (by omega))
   unfold Q3 Va at this
   rw [u] at this
   simp [f] at this
  rw [this]
def MI(l:List IX)(v:IX):List IX×Bool:=if Ib (l++[v])=true then (l++[v],true) else ([],false)
theorem Vj{l:List IX}(h:Ib l=true)(e:l.length≤60)(v:IX):Jj l v=some (MI l v):=by
 unfold Jj Bf MI
 dsimp only
 rw [Bg (by simp; omega),Aa,Bg (by simp; omega),Aa,Q4 (by omega),Aa,h,if_neg (by simp),List.nil_append,Q4 (by simp; omega),Aa]
 cases Ib (l++[v]) <;> rfl
theorem V9{l:List IX}(h:Ib l=true)(e:l.length≤60)(v:IX):Jp l v=some (MI l v):=by
 unfold Jp Bf MI
 dsimp only
 rw [Lu (by omega),Aa,h,if_neg (by simp),Bg (by simp; omega),Aa,Bg (by simp; omega),Aa,List.nil_append,Lu (by simp; omega),Aa]
 cases Ib (l++[v]) <;> rfl
abbrev BX:=Int×Int×Int×Int
def GD(a b:BX):Prop:=a.2.2.1<b.2.2.1∨(a.2.2.1=b.2.2.1∧a.2.1<b.2.1)
instance (a b:BX):Decidable (GD a b):=by unfold GD; exact inferInstance
def Lz(a b:BX):Prop:=¬ GD b a
theorem Nm{a b c:BX}(h1:Lz a b)(e:Lz b c):Lz a c:=by unfold Lz GD at *; omega
theorem Nn{a b:BX}(h:GD a b):Lz a b:=by unfold Lz GD at *; omega
theorem Ae5(a:BX):Lz a a:=by unfold Lz GD at *; omega
def MD(a:BX):Prop:=(0≤a.2.1∧a.2.1≤99999)∧0≤a.2.2.1∧a.2.2.1≤99999
theorem SY{a b:BX}(e:MD a)(f:MD b):∃ u,DB a b=some u∧decide (u<0)=decide (GD a b)∧decide (0≤u)=!decide (GD a b):=by
 obtain ⟨⟨a1,v⟩,s,l⟩:=e
 obtain ⟨⟨b1,g⟩,m,b4⟩:=f
 unfold DB
 by_cases h:a.2.2.1=b.2.2.1
 rw [if_neg (by simp [h]),AA (by omega) (by omega)]
 refine ⟨_,rfl,?_,?_⟩
 rw [decide_eq_decide]; unfold GD; omega
 rw [← decide_not,decide_eq_decide]; unfold GD; omega
 rw [if_pos (by simpa using h),AA (by omega) (by omega)]
 refine ⟨_,rfl,?_,?_⟩
 rw [decide_eq_decide]; unfold GD; omega
 rw [← decide_not,decide_eq_decide]; unfold GD; omega
theorem T6{i j:Nat}(h:i+j<4611686018427387904):Ah (Bu .u64 (Bi (Ah ((i:Int)+(j:Int)))) 1)=(((i+j) / 2:Nat):Int):=by
 rw [AA (x:=(i:Int)+j) (by omega) (by omega)]
 have f:Bi ((i:Int)+(j:Int))=(i:Int)+j:=by
  unfold Bi
  show ((i:Int)+(j:Int))%18446744073709551616=_
  omega
 rw [f]
 have e:Bu .u64 ((i:Int)+(j:Int)) 1=(((i+j) / 2:Nat):Int):=by
  unfold Bu
  show Int.fdiv ((i:Int)+(j:Int)) 2=_
  rw [Int.fdiv_eq_ediv_of_nonneg _ (by omega)]
  omega
 rw [e,AA (by omega) (by omega)]
theorem W9{R:Type}(f:Nat→Int→Int→Ae R)(q:Nat→Bool)(K:Nat→Ae R)(g h:Nat)
  (hs:∀(m i j:Nat),i<j→j≤h→g≤i→f (m+1) (i:Int) (j:Int)=if q ((i+j) / 2)=true then f m (((i+j) / 2+1:Nat):Int) (j:Int) else f m (i:Int) (((i+j) / 2:Nat):Int))
  (he:∀(m i:Nat),f (m+1) (i:Int) (i:Int)=K i) (ae:∀ c c',g≤c→c≤c'→c'<h→q c'=true→q c=true) :
  ∀(d m i j:Nat),j-i≤d→d<m→g≤i→i≤j→j≤h→(∀ c,g≤c→c<i→q c=true)→(∀ c,j≤c→c<h→q c=false) →
   ∃ s,g≤s∧s≤h∧(∀ c,g≤c→c<s→q c=true)∧(∀ c,s≤c→c<h→q c=false)∧f m (i:Int) (j:Int)=K s:=by
 intro d
 induction d with
 | zero =>
  intro m i j hd hm l al u h1 v
  have:i=j:=by omega
  subst this
  cases m with
  | zero=>omega
  | succ m=>exact ⟨i,l,u,h1,v,he m i⟩
 | succ d ih =>
  intro m i j hd hm l al u h1 v
  cases m with
  | zero=>omega
  | succ m =>
   by_cases e:i=j
   subst e
   exact ⟨i,l,u,h1,v,he m i⟩
   rw [hs m i j (by omega) u l]
   cases hq:q ((i+j) / 2) with
   | true =>
    rw [if_pos rfl]
    exact ih m _ j (by omega) (by omega) (by omega) (by omega) u (fun c hc ad=>ae c ((i+j) / 2) hc (by omega) (by omega) hq) v
   | false =>
    rw [if_neg (by simp)]
    refine ih m i _ (by omega) (by omega) l (by omega) (by omega) h1 (fun c hc ad=>?_)
    cases aj:q c with
    | false=>rfl
    | true=>rw [ae ((i+j) / 2) c (by omega) hc ad aj] at hq; cases hq
theorem Kt{α:Type}{A B:List α}{x:α}{k:Nat}(h:k=A.length):AG (A++x::B) (k:Int)=some x:=by
 rw [AY,h,List.getElem?_append_right (by omega)]
 simp
theorem O6{α:Type}{A B:List α}{x y:α}{k:Nat}(h:k=A.length):BL (A++x::B) (k:Int) y=A++y::B:=by
 rw [Lq,h,List.set_append_right _ _ (by omega)]
 simp
theorem ZT(x1 x2 x3:Nat)(A M B:List BX):∀(P Q P0 Q0:List BX)(m:Nat),P.length=Q.length→P0.length=Q0.length→x1=A.length→x2=A.length+P0.length+P.length+M.length→x3=P0.length+P.length→x2+x3<1000000→P.length<m →
  Bz (x3:Int) (x2:Int) (x1:Int) m (A++P0++P++M++Q0++Q++B) (P0.length:Int)=some (A++P0++Q++M++Q0++P++B)
 | [],Q,P0,Q0,m,h1,h2,h3,h4,h5,h6,hm=>by
  have:Q=[]:=List.length_eq_zero_iff.1 h1.symm
  subst this
  cases m with
  | zero=>simp at hm
  | succ m =>
   rw [Bz,if_neg (by simp at h5 ⊢; omega)]
 | p::P,[],P0,Q0,m,h1,h2,h3,h4,h5,h6,hm=>by simp at h1
 | p::P,q::Q,P0,Q0,m,h1,h2,h3,h4,h5,h6,hm=>by
  simp only [List.length_cons] at h1 h4 h5 hm
  cases m with
  | zero=>omega
  | succ m =>
   rw [Bz,if_pos (by simp; omega)]
   unfold Bf
   dsimp only
   rw [AC (by omega),AA (x:=(x2:Int)+_) (by omega) (by omega),AA (x:=(x1:Int)+_) (by omega) (by omega)]
   rw [show (x2:Int)+(P0.length:Int)=((x2+P0.length:Nat):Int) by omega,show (x1:Int)+(P0.length:Int)=((x1+P0.length:Nat):Int) by omega]
   have f:A++P0++p::P++M++Q0++q::Q++B=(A++P0++p::P++M++Q0)++q::(Q++B):=by simp
   have g:(A++P0++p::P++M++Q0)++q::(Q++B)=(A++P0)++p::(P++M++Q0++q::(Q++B)):=by simp
   have h:(A++P0)++q::(P++M++Q0++q::(Q++B))=(A++P0++q::P++M++Q0)++q::(Q++B):=by simp
   rw [f,Kt (by simp; omega),Aa,g,Kt (by simp; omega),Aa,Aa,O6 (by simp; omega),h,Kt (by simp; omega),Aa,O6 (by simp; omega)]
   have e:=ZT x1 x2 x3 A M B P Q (P0++[q]) (Q0++[p]) m (by omega) (by simpa using h2) h3 (by simp; omega) (by simp; omega) h6 (by omega)
   simp only [List.append_assoc,List.cons_append,List.nil_append,Cy,List.length_cons,List.length_nil] at e ⊢
   exact e
theorem P1{A P M Q B:List BX}{x1 x2 x3:Nat}(h1:P.length=Q.length)(e:x1=A.length)(g:x2=A.length+P.length+M.length)(h:x3=P.length)(f:x2+x3<1000000) :
  BE (A++P++M++Q++B) (x1:Int) (x2:Int) (x3:Int)=some (A++Q++M++P++B):=by
 unfold BE
 have:=ZT x1 x2 x3 A M B P Q [] [] FU h1 rfl e (by simp; omega) (by simp; omega) f (Dw (by omega))
 simpa using this
theorem Oh{α:Type}{l:List α}{k:Nat}(h:k≤l.length):∃ P R,l=P++R∧P.length=k:=⟨l.take k,l.drop k,(List.take_append_drop k l).symm,by simp; omega⟩
theorem Aep(x2:Nat)(hx:x2<100000):∀(d m:Nat)(A U V B:List BX),U.length+V.length≤d→d<m→U≠[]→V≠[]→x2=A.length+U.length→V.length<100000 →
  B6 (x2:Int) m (A++U++V++B) (U.length:Int) (V.length:Int)=some (A++V++U++B):=by
 intro d
 induction d with
 | zero =>
  intro m A U V B hd hm f v h2 hv
  exact absurd (List.length_eq_zero_iff.1 (by omega)) f
 | succ d u =>
  intro m A U V B hd hm f v h2 hv
  have aj:=List.length_pos_iff.2 f
  have ai:=List.length_pos_iff.2 v
  cases m with
  | zero=>omega
  | succ m =>
   rw [B6]
   by_cases e:U.length=V.length
   rw [if_neg (by simp [e]),AA (x:=(x2:Int)-_) (by omega) (by omega),show (x2:Int)-(U.length:Int)=(A.length:Int) by omega]
   have:=P1 (A:=A) (P:=U) (M:=[]) (Q:=V) (B:=B) (x1:=A.length) (x2:=x2) (x3:=U.length) e rfl (by simp; omega) rfl (by omega)
   simp only [List.append_nil] at this
   rw [this,Aa]
   rw [if_pos (by simp; omega)]
   by_cases ab:V.length<U.length
   obtain ⟨P,R,rfl,s⟩:=Oh (l:=U) (k:=V.length) (by omega)
   simp only [Cy] at *
   rw [if_pos (by simp; omega),AA (x:=(x2:Int)-_) (by omega) (by omega),show (x2:Int)-((P.length+R.length:Nat):Int)=(A.length:Int) by omega]
   have:=P1 (A:=A) (P:=P) (M:=R) (Q:=V) (B:=B) (x1:=A.length) (x2:=x2) (x3:=V.length) s rfl (by omega) (by omega) (by omega)
   rw [show A++(P++R)++V++B=A++P++R++V++B by simp,this,Aa,AA (by omega) (by omega),show ((P.length+R.length:Nat):Int)-(V.length:Int)=(R.length:Int) by omega]
   have h:=u m (A++V) R P B (by omega) (by omega) (fun h=>by subst h; simp at ab; omega) (fun h=>by subst h; simp at s; omega) (by simp; omega) (by omega)
   rw [s] at h
   rw [h]
   simp
   obtain ⟨R,Q,rfl,hR⟩:=Oh (l:=V) (k:=V.length-U.length) (by omega)
   simp only [Cy] at *
   have g:U.length=Q.length:=by omega
   rw [if_neg (by simp; omega),AA (x:=(x2:Int)-_) (by omega) (by omega),show (x2:Int)-(U.length:Int)=(A.length:Int) by omega,AA (x:=(x2:Int)+_) (by omega) (by omega),AA (by omega) (by omega),
    show (x2:Int)+((R.length+Q.length:Nat):Int)-(U.length:Int)=((x2+R.length:Nat):Int) by omega]
   have:=P1 (A:=A) (P:=U) (M:=R) (Q:=Q) (B:=B) (x1:=A.length) (x2:=x2+R.length) (x3:=U.length) g rfl (by omega) (by omega) (by omega)
   rw [show A++U++(R++Q)++B=A++U++R++Q++B by simp,this,Aa,AA (by omega) (by omega),show ((R.length+Q.length:Nat):Int)-(U.length:Int)=(R.length:Int) by omega]
   have h:=u m A Q R (U++B) (by omega) (by omega) (fun h=>f (List.length_eq_zero_iff.1 (by rw [g,h]; rfl))) (fun h=>e (by rw [h]; simpa using g)) (by omega) (by omega)
   rw [← g] at h
   rw [show A++Q++R++U++B=A++Q++R++(U++B) by simp,h]
   simp
theorem Acq{A U V B:List BX}{x1 x2 x3:Nat}(e:U≠[])(g:V≠[])(h1:x1=A.length)(f:x2=A.length+U.length)(l:x3=A.length+U.length+V.length)(h:x3<100000) :
  BV (A++U++V++B) (x1:Int) (x2:Int) (x3:Int)=some (A++V++U++B):=by
 unfold BV
 rw [AA (by omega) (by omega),AA (by omega) (by omega),show (x2:Int)-(x1:Int)=(U.length:Int) by omega,show (x3:Int)-(x2:Int)=(V.length:Int) by omega]
 exact Aep x2 (by omega) (U.length+V.length) FU A U V B (Nat.le_refl _) (Dw (by omega)) e g f (by omega)
def GJ(l:List BX):Prop:=l.Pairwise Lz
theorem QW{S1 S2:List BX}{x:BX}(h:GJ (S1++S2))(m:∀ s ∈ S2,Lz x s)(h1:S1=[]∨∃ R y,S1=R++[y]∧Lz y x):GJ (S1++x::S2):=by
 unfold GJ at *
 rw [List.pairwise_append] at h ⊢
 refine ⟨h.1,List.pairwise_cons.2 ⟨m,h.2.1⟩,fun a f b g=>?_⟩
 rcases List.mem_cons.1 g with rfl|g
 rcases h1 with rfl|⟨R,y,rfl,l⟩
 cases f
 rcases AV.1 f with e|e
 exact Nm ((List.pairwise_append.1 h.1).2.2 a e y (List.mem_singleton.2 rfl)) l
 rw [List.mem_singleton.1 e]; exact l
 exact h.2.2 a f b g
theorem Ado(nx:List BX→Int→Ae (List BX))(y6:Int)(A B:List BX)(x:BX)(hx:MD x)(hA:A.length<100000):∀(k m:Nat)(S1 S2:List BX),S1.length=k→k<m→k<100000→(∀ s ∈ S1,MD s)→(∀ s ∈ S2,GD x s)→GJ (S1++S2) →
  ∃ Z,Z.Perm (S1++x::S2)∧GJ Z∧Bq nx y6 (A.length:Int) m (A++S1++x::S2++B) ((A.length+S1.length:Nat):Int)=nx (A++Z++B) (Ah (y6+1)):=by
 intro k
 induction k with
 | zero =>
  intro m S1 S2 g hm hl v e f
  have:S1=[]:=List.length_eq_zero_iff.1 g
  subst this
  cases m with
  | zero=>omega
  | succ m =>
   refine ⟨x::S2,List.Perm.refl _,QW (S1:=[]) f (fun s h=>Nn (e s h)) (.inl rfl),?_⟩
   rw [Bq]
   unfold Bf
   dsimp only
   rw [if_neg (by simp),if_neg (by simp)]
   simp
 | succ k ih =>
  intro m S1 S2 g hm hl v e f
  obtain ⟨R,y,rfl⟩:∃ R y,S1=R++[y]:=⟨S1.dropLast,S1.getLast (fun h=>by subst h; simp at g),(List.dropLast_concat_getLast _).symm⟩
  have hR:R.length=k:=by simpa using g
  have hy:=v y (by simp)
  obtain ⟨u,hu,ao,_⟩:=SY hx hy
  cases m with
  | zero=>omega
  | succ m =>
   rw [Bq]
   unfold Bf
   dsimp only
   have e1:A++(R++[y])++x::S2++B=(A++R++[y])++x::(S2++B):=by simp
   have e2:(A++R++[y])++x::(S2++B)=(A++R)++y::(x::(S2++B)):=by simp
   have ej:Ah (((A.length+(R++[y]).length:Nat):Int)-1)=((A.length+R.length:Nat):Int):=by
    rw [AA (by simp; omega) (by simp; omega)]; simp; omega
   rw [if_pos (by simp <;> omega),ej,e1,Kt (by simp <;> omega),Aa,e2,Kt (by simp),Aa,hu,Aa,ao]
   by_cases l:GD x y
   ·rw [decide_eq_true l,if_pos rfl,Aa]
    rw [← e2,Aa,Aa,O6 (by simp <;> omega)]
    have e3:(A++R++[y])++y::(S2++B)=(A++R)++y::(y::(S2++B)):=by simp
    rw [e3,Kt (by simp),Aa,O6 (by simp)]
    have au:GJ (R++y::S2):=by simpa using f
    obtain ⟨Z,ak,ar,aq⟩:=ih m R (y::S2) hR (by omega) (by omega) (fun s h=>v s (by simp [h])) (fun s h=>by
     rcases List.mem_cons.1 h with rfl|h
     ·exact l
     ·exact e s h) au
    refine ⟨Z,ak.trans ?_,ar,?_⟩
    ·rw [List.append_assoc]
     exact List.Perm.append_left R (List.Perm.swap y x S2)
    ·rw [← aq]
     simp
   ·rw [decide_eq_false l,if_neg (by simp)]
    refine ⟨R++[y]++x::S2,List.Perm.refl _,QW f (fun s h=>Nn (e s h)) (.inr ⟨R,y,rfl,l⟩),?_⟩
    simp
theorem Xv(A B:List BX)(l:A.length<50000):∀(T S:List BX)(m:Nat),T.length<m→S≠[]→S.length+T.length<50000→(∀ s ∈ S++T,MD s)→GJ S →
  ∃ Z,Z.Perm (S++T)∧GJ Z∧Bd ((A.length+S.length+T.length:Nat):Int) (A.length:Int) m (A++S++T++B) ((A.length+S.length:Nat):Int)=some (A++Z++B)
 | [],S,m,hm,hS,hl,ho,hs=>by
  cases m with
  | zero=>simp at hm
  | succ m =>
   refine ⟨S,by simp,hs,?_⟩
   rw [Bd,if_neg (by simp)]
   simp
 | x::T,S,m,hm,hS,hl,ho,hs=>by
  simp only [List.length_cons] at hm hl ⊢
  cases m with
  | zero=>omega
  | succ m =>
   obtain ⟨Z,h1,v,h3⟩:=Ado (Bd ((A.length+S.length+(T.length+1):Nat):Int) (A.length:Int) m) ((A.length+S.length:Nat):Int) A (T++B) x (ho x (by simp)) (by omega) S.length FU S [] rfl (Dw (by omega)) (by omega) (fun s h=>ho s (by simp [h])) (fun s h=>by cases h) (by simpa using hs)
   rw [Bd,if_pos (by simp; omega)]
   rw [show A++S++x::T++B=A++S++[x]++(T++B) by simp,h3,AC (by omega)]
   have e:Z.length=S.length+1:=by have:=h1.length_eq; simpa using this
   obtain ⟨W,g,u,f⟩:=Xv A B l T Z m (by omega) (fun h=>by subst h; simp at e) (by omega) (fun s h=>by
    rcases AV.1 h with h|h
    refine ho s ?_
    have:=h1.mem_iff.1 h
    simp only [AV,List.mem_cons,List.not_mem_nil,or_false] at this ⊢
    rcases this with h|h
    exact .inl h
    exact .inr (.inl h)
    exact ho s (by simp [h])) v
   refine ⟨W,g.trans ?_,u,?_⟩
   have:=h1.append_right T
   simpa using this
   rw [e] at f
   rw [show A++Z++(T++B)=A++Z++T++B by simp,← f]
   congr 1 <;> omega
theorem N6{A X B:List BX}{a b:Nat}(f:a=A.length)(e:b=A.length+X.length)(m:b<50000)(l:∀ s ∈ X,MD s) :
  ∃ Z,Z.Perm X∧GJ Z∧Bo (A++X++B) (a:Int) (b:Int)=some (A++Z++B):=by
 unfold Bo
 rw [AC (by omega)]
 cases X with
 | nil =>
  refine ⟨[],List.Perm.refl _,List.Pairwise.nil,?_⟩
  rw [show FU=(FU-1)+1 from rfl,Bd,if_neg (by simp at e ⊢; omega)]
 | cons x T =>
  simp only [List.length_cons] at e
  obtain ⟨Z,h1,g,h⟩:=Xv A B (by omega) T [x] FU (Dw (by omega)) (by simp) (by simp; omega) l (List.pairwise_singleton _ _)
  refine ⟨Z,h1,g,?_⟩
  rw [← h]
  simp only [List.length_singleton]
  rw [f,e,show A.length+1+T.length=A.length+(T.length+1) by omega]
  simp
theorem Acl(x:BX)(B:List BX)(i:Nat)(s:i<100000):∀(Y A:List BX)(m:Nat),Y.length<m→i=A.length+Y.length+1 →
  B3 (i:Int) m (A++x::Y++B) (A.length:Int)=some (A++Y++x::B)
 | [],A,m,hm,h=>by
  cases m with
  | zero=>simp at hm
  | succ m =>
   rw [B3,AA (x:=(i:Int)-1) (by omega) (by omega),if_neg (by simp at h ⊢; omega)]
   simp
 | y::Y,A,m,hm,h=>by
  simp only [List.length_cons] at hm h
  cases m with
  | zero=>omega
  | succ m =>
   rw [B3,AA (x:=(i:Int)-1) (by omega) (by omega),if_pos (by simp; omega)]
   unfold Bf
   dsimp only
   have f:A++x::y::Y++B=(A++[x])++y::(Y++B):=by simp
   have l:(A++[x])++y::(Y++B)=A++x::(y::(Y++B)):=by simp
   have g:A++y::(y::(Y++B))=(A++[y])++y::(Y++B):=by simp
   rw [AC (by omega),f,Kt (by simp),Aa,l,Kt rfl,Aa,Aa,O6 rfl,g,Kt (by simp),Aa,O6 (by simp)]
   have e:=Acl x B i s Y (A++[y]) m (by omega) (by simp; omega)
   simp only [Cy,List.length_cons,List.length_nil] at e
   rw [show (A++[y])++x::(Y++B)=A++[y]++x::Y++B by simp,e]
   simp
theorem Ahs(y:BX)(B:List BX)(i:Nat)(hi:i<50000)(A:List BX)(hA:i=A.length):∀(k m:Nat)(X B:List BX),X.length=k→k<m→k<50000 →
  B2 (i:Int) m (A++X++y::B) ((A.length+X.length:Nat):Int)=some (A++y::X++B):=by
 intro k
 induction k with
 | zero =>
  intro m X B e l u
  have:X=[]:=List.length_eq_zero_iff.1 e
  subst this
  cases m with
  | zero=>omega
  | succ m =>
   rw [B2,if_neg (by simp; omega)]
   simp
 | succ k g =>
  intro m X B e l u
  obtain ⟨R,z,rfl⟩:∃ R z,X=R++[z]:=⟨X.dropLast,X.getLast (fun h=>by subst h; simp at e),(List.dropLast_concat_getLast _).symm⟩
  have s:R.length=k:=by simpa using e
  cases m with
  | zero=>omega
  | succ m =>
   rw [B2,if_pos (by simp; omega)]
   unfold Bf
   dsimp only
   have ej:Ah (((A.length+(R++[z]).length:Nat):Int)-1)=((A.length+R.length:Nat):Int):=by
    rw [AA (by simp; omega) (by simp; omega)]; simp; omega
   have e2:A++(R++[z])++y::B=(A++R)++z::(y::B):=by simp
   have v:(A++R)++z::(y::B)=(A++R++[z])++y::B:=by simp
   have f:(A++R++[z])++z::B=(A++R)++z::(z::B):=by simp
   rw [ej,e2,Kt (by simp),Aa,v,Kt (by simp <;> omega),Aa,Aa,O6 (by simp <;> omega),f,Kt (by simp),Aa,O6 (by simp)]
   have h:=g m R (z::B) s (by omega) (by omega)
   rw [h]
   simp
theorem Ahr{l:List BX}(h:GJ l){i j:Nat}(g:i≤j)(f:j<l.length):Lz (l[i]'(by omega)) l[j]:=by
 by_cases e:i=j
 subst e; exact Ae5 _
 exact (List.pairwise_iff_getElem.1 h) i j (by omega) f (by omega)
theorem Ai9{A Y B:List BX}{k:Nat}(h1:A.length≤k)(e:k<A.length+Y.length):AG (A++Y++B) (k:Int)=some (Y[k-A.length]'(by omega)):=by
 rw [AY,List.append_assoc,List.getElem?_append_right h1,List.getElem?_append_left (by omega),BP]
def CZ(Y:List BX)(k:Nat):BX:=(Y[k]?).getD (0,0,0,0)
theorem GE{Y:List BX}{k:Nat}(h:k<Y.length):CZ Y k=Y[k]:=by unfold CZ; rw [BP h]; rfl
theorem Vs{A Y B:List BX}{k:Nat}(h1:A.length≤k)(e:k<A.length+Y.length):AG (A++Y++B) (k:Int)=some (CZ Y (k-A.length)):=by rw [Ai9 h1 e,GE]
theorem Ka{Y:List BX}{k:Nat}(h:k<Y.length):CZ Y k ∈ Y:=by rw [GE h]; exact List.getElem_mem h
theorem NA{Y:List BX}(g:GJ Y){i j:Nat}(f:i≤j)(e:j<Y.length):Lz (CZ Y i) (CZ Y j):=by rw [GE (by omega),GE e]; exact Ahr g f e
theorem N1{Y:List BX}{y:BX}(h:y ∈ Y):∃ k,k<Y.length∧y=CZ Y k:=by
 obtain ⟨k,e,rfl⟩:=List.getElem_of_mem h
 exact ⟨k,e,(GE e).symm⟩
theorem RK{P R:List BX}{k:Nat}(h:k<P.length):CZ (P++R) k=CZ P k:=by unfold CZ; rw [List.getElem?_append_left h]
theorem Qx{P R:List BX}{k:Nat}:CZ (P++R) (P.length+k)=CZ R k:=by unfold CZ; rw [List.getElem?_append_right (by omega)]; congr 2; omega
theorem Wk{S:List BX}{x:BX}(h:∀ s ∈ S,Lz s x):S=[]∨∃ R y,S=R++[y]∧Lz y x:=by
 by_cases e:S=[]
 exact .inl e
 exact .inr ⟨S.dropLast,S.getLast e,(List.dropLast_concat_getLast e).symm,h _ (List.getLast_mem e)⟩
theorem Agm{A Y B:List BX}{x:BX}(g:A.length+Y.length<40000)(hx:MD x)(ho:∀ y ∈ Y,MD y)(v:GJ Y) :
  ∃ Z,Z.Perm (x::Y)∧GJ Z∧AK (A++x::Y++B) (A.length:Int) FU ((A.length+1:Nat):Int) ((A.length+1+Y.length:Nat):Int)=some (A++Z++B):=by
 obtain ⟨s,h1,f,h3,h4,h5⟩:=W9 (AK (A++x::Y++B) (A.length:Int)) (fun h=>decide (GD (CZ Y (h-(A.length+1))) x)) (fun i=>AK (A++x::Y++B) (A.length:Int) 1 (i:Int) (i:Int)) (A.length+1) (A.length+1+Y.length)
  (fun m i j aq hj hi=>by
   have hh:(i+j) / 2<A.length+1+Y.length:=by omega
   have av:A.length+1≤(i+j) / 2:=by omega
   have hm:=Ka (Y:=Y) (k:=(i+j) / 2-(A.length+1)) (by omega)
   obtain ⟨u,hu,an,_⟩:=SY (ho _ hm) hx
   have eg:AG (A++x::Y++B) (((i+j) / 2:Nat):Int)=some (CZ Y ((i+j) / 2-(A.length+1))):=by
    have:=Vs (A:=A++[x]) (Y:=Y) (B:=B) (k:=(i+j) / 2) (by simp; omega) (by simp; omega)
    simpa using this
   have ex:AG (A++x::Y++B) (A.length:Int)=some x:=by
    have:=Kt (A:=A) (B:=Y++B) (x:=x) (k:=A.length) rfl
    simpa using this
   rw [AK,if_pos (by simp; omega),T6 (by omega),eg,Aa,ex,Aa,hu,Aa,an,AC (by omega)])
  (fun m i=>by
   rw [AK,if_neg (by simp),AK,if_neg (by simp)])
  (fun c c' hc ax aw hq=>by
   have:=NA v (i:=c-(A.length+1)) (j:=c'-(A.length+1)) (by omega) (by omega)
   simp only [C9] at hq ⊢
   unfold Lz GD at *
   omega) Y.length FU (A.length+1) (A.length+1+Y.length) (by omega) (Dw (by omega)) (by omega) (by omega) (by omega) (fun c h1 f=>by omega) (fun c h1 f=>by omega)
 obtain ⟨P,R,rfl,hP⟩:=Oh (l:=Y) (k:=s-(A.length+1)) (by omega)
 have ae:∀ y ∈ P,GD y x:=fun y e=>by
  obtain ⟨k,hk,rfl⟩:=N1 e
  have:=h3 (A.length+1+k) (by omega) (by omega)
  simp only [C9,show A.length+1+k-(A.length+1)=k by omega,RK hk] at this
  exact this
 have ak:∀ y ∈ R,Lz x y:=fun y e=>by
  obtain ⟨k,hk,rfl⟩:=N1 e
  have:=h4 (A.length+1+(P.length+k)) (by omega) (by simp; omega)
  simp only [decide_eq_false_iff_not,show A.length+1+(P.length+k)-(A.length+1)=P.length+k by omega,Qx] at this
  exact this
 refine ⟨P++x::R,List.perm_middle,QW v ak (Wk fun y e=>Nn (ae y e)),?_⟩
 rw [h5,AK,if_neg (by simp)]
 have:=Acl x (R++B) s (by simp at f g; omega) P A FU (Dw (by simp at g; omega)) (by omega)
 rw [show A++x::(P++R)++B=A++x::P++(R++B) by simp,this]
 simp
theorem Aee{A X B:List BX}{y:BX}(f:A.length+X.length<40000)(hy:MD y)(ho:∀ x ∈ X,MD x)(v:GJ X) :
  ∃ Z,Z.Perm (X++[y])∧GJ Z∧AJ (A++X++y::B) ((A.length+X.length:Nat):Int) FU (A.length:Int) ((A.length+X.length:Nat):Int)=some (A++Z++B):=by
 obtain ⟨s,h1,g,h3,h4,h5⟩:=W9 (AJ (A++X++y::B) ((A.length+X.length:Nat):Int)) (fun h=>!decide (GD y (CZ X (h-A.length)))) (fun i=>AJ (A++X++y::B) ((A.length+X.length:Nat):Int) 1 (i:Int) (i:Int)) A.length (A.length+X.length)
  (fun m i j ap hj hi=>by
   have hm:=Ka (Y:=X) (k:=(i+j) / 2-A.length) (by omega)
   obtain ⟨u,hu,ao,_⟩:=SY hy (ho _ hm)
   have eg:=Vs (A:=A) (Y:=X) (B:=y::B) (k:=(i+j) / 2) (by omega) (by omega)
   have ey:=Kt (A:=A++X) (B:=B) (x:=y) (k:=A.length+X.length) (by simp)
   rw [AJ,if_pos (by simp; omega),T6 (by omega),ey,Aa,eg,Aa,hu,Aa,ao,AC (by omega)])
  (fun m i=>by
   rw [AJ,if_neg (by simp),AJ,if_neg (by simp)])
  (fun c c' hc av au hq=>by
   have:=NA v (i:=c-A.length) (j:=c'-A.length) (by omega) (by omega)
   simp only [Bool.not_eq_true',decide_eq_false_iff_not] at hq ⊢
   unfold Lz GD at *
   omega) X.length FU A.length (A.length+X.length) (by omega) (Dw (by omega)) (by omega) (by omega) (by omega) (fun c h1 g=>by omega) (fun c h1 g=>by omega)
 obtain ⟨P,R,rfl,hP⟩:=Oh (l:=X) (k:=s-A.length) (by omega)
 have ad:∀ x ∈ P,Lz x y:=fun x e=>by
  obtain ⟨k,hk,rfl⟩:=N1 e
  have:=h3 (A.length+k) (by omega) (by omega)
  simp only [Bool.not_eq_true',decide_eq_false_iff_not,show A.length+k-A.length=k by omega,RK hk] at this
  exact this
 have al:∀ x ∈ R,GD y x:=fun x e=>by
  obtain ⟨k,hk,rfl⟩:=N1 e
  have:=h4 (A.length+(P.length+k)) (by omega) (by simp; omega)
  simp only [Bool.not_eq_false',C9,show A.length+(P.length+k)-A.length=P.length+k by omega,Qx] at this
  exact this
 refine ⟨P++y::R,?_,QW v (fun x e=>Nn (al x e)) (Wk ad),?_⟩
 have:(y::R).Perm (R++[y]):=(List.perm_append_singleton y R).symm
 have:=this.append_left P
 simpa using this
 rw [h5,AJ,if_neg (by simp)]
 have:=Ahs y B s (by simp at g f; omega) (A++P) (by simp; omega) R.length FU R B rfl (Dw (by simp at f; omega)) (by simp at f; omega)
 simp only [Cy] at this ⊢
 rw [show A++(P++R)++y::B=A++P++R++y::B by simp,show A.length+(P.length+R.length)=A.length+P.length+R.length by omega,this]
 simp
theorem Agp{L R:List BX}(f:GJ L)(e:GJ R)(h:∀ x ∈ L,∀ y ∈ R,Lz x y):GJ (L++R):=List.pairwise_append.2 ⟨f,e,h⟩
theorem NZ{L R:List BX}(h:GJ (L++R)):GJ L:=(List.pairwise_append.1 h).1
theorem Ng{L R:List BX}(h:GJ (L++R)):GJ R:=(List.pairwise_append.1 h).2.1
theorem Xf{L R:List BX}(h:GJ (L++R)):∀ x ∈ L,∀ y ∈ R,Lz x y:=(List.pairwise_append.1 h).2.2
theorem Ahl{R:Type}{p q:Bool}{a b:Ae R}:(if p=true then (if q=true then a else b) else (if false=true then a else b))=if (p&&q)=true then a else b:=by cases p <;> cases q <;> rfl
theorem Aed:∀(d m:Nat)(A X Y B:List BX),X.length+Y.length≤d→d<m→X≠[]→Y≠[]→GJ X→GJ Y→(∀ x ∈ X++Y,MD x)→A.length+X.length+Y.length<10000 →
  ∃ Z,Z.Perm (X++Y)∧GJ Z∧AW m (A++X++Y++B) (A.length:Int) ((A.length+X.length:Nat):Int) ((A.length+X.length+Y.length:Nat):Int)=some (A++Z++B):=by
 intro d
 induction d with
 | zero =>
  intro m A X Y B hd hm hX hY _ _ _ _
  exact absurd (List.length_eq_zero_iff.1 (by omega)) hX
 | succ d ih =>
  intro m A X Y B hd hm hX hY sX sY ho hl
  have b0:=List.length_pos_iff.2 hX
  have cc:=List.length_pos_iff.2 hY
  cases m with
  | zero=>omega
  | succ m =>
   show ∃ Z,Z.Perm (X++Y)∧GJ Z∧Cj (AW m) (A++X++Y++B) (A.length:Int) ((A.length+X.length:Nat):Int) ((A.length+X.length+Y.length:Nat):Int)=some (A++Z++B)
   unfold Cj
   rw [AA (x:=((A.length+X.length:Nat):Int)-_) (by omega) (by omega),AA (x:=((A.length+X.length+Y.length:Nat):Int)-_) (by omega) (by omega)]
   by_cases e1:X.length=1
   obtain ⟨x,rfl⟩:=List.length_eq_one_iff.1 e1
   obtain ⟨Z,z1,z2,z3⟩:=Agm (A:=A) (Y:=Y) (B:=B) (x:=x) (by omega) (ho x (by simp)) (fun y g=>ho y (by simp [g])) sY
   rw [if_pos (by simp; omega)]
   refine ⟨Z,by simpa using z1,z2,?_⟩
   rw [← z3]
   simp
   rw [if_neg (by simp; omega)]
   by_cases e2:Y.length=1
   obtain ⟨y,rfl⟩:=List.length_eq_one_iff.1 e2
   obtain ⟨Z,z1,z2,z3⟩:=Aee (A:=A) (X:=X) (B:=B) (y:=y) (by omega) (ho y (by simp)) (fun x f=>ho x (by simp [f])) sX
   rw [if_pos (by simp; omega)]
   refine ⟨Z,z1,z2,?_⟩
   rw [← z3]
   simp
   rw [if_neg (by simp; omega)]
   obtain ⟨e,bk⟩:∃ e,e=(A.length+(A.length+X.length+Y.length)) / 2:=⟨_,rfl⟩
   have hh:Ah (Bu .u64 (Bi (Ah ((A.length:Int)+((A.length+X.length+Y.length:Nat):Int)))) 1)=(e:Int):=by rw [bk]; exact T6 (by omega)
   unfold Fx
   dsimp only
   rw [hh,AA (x:=(e:Int)+_) (by omega) (by omega),AA (x:=(e:Int)+_-_) (by omega) (by omega)]
   -- where the search starts
   have a1:∀ lo v:Nat,A.length≤lo→lo≤v→v≤A.length+X.length→A.length+X.length≤e+(A.length+X.length)-v→e+(A.length+X.length)-lo≤A.length+X.length+Y.length →
     (lo=A.length∨e+(A.length+X.length)-lo=A.length+X.length+Y.length)→(v=A.length+X.length∨e+(A.length+X.length)-v=A.length+X.length) →
     ∃ Z,Z.Perm (X++Y)∧GJ Z∧AH (A++X++Y++B) (A.length:Int) ((A.length+X.length+Y.length:Nat):Int) ((A.length+X.length:Nat):Int) (AW m) FU (lo:Int) (v:Int)=some (A++Z++B):=by
    intro lo v b1 bq b4 bz b6 bb a8
    obtain ⟨s,h1,h2,h3,h4,h5⟩:=W9 (AH (A++X++Y++B) (A.length:Int) ((A.length+X.length+Y.length:Nat):Int) ((A.length+X.length:Nat):Int) (AW m))
     (fun c=>!decide (GD (CZ Y (e-1-c)) (CZ X (c-A.length)))) (fun i=>AH (A++X++Y++B) (A.length:Int) ((A.length+X.length+Y.length:Nat):Int) ((A.length+X.length:Nat):Int) (AW m) 1 (i:Int) (i:Int)) lo v
     (fun m' i j cb hj b9=>by
      have b7:A.length≤(i+j) / 2:=by omega
      have bw:(i+j) / 2<v:=by omega
      have bj:=Ka (Y:=X) (k:=(i+j) / 2-A.length) (by omega)
      have a6:=Ka (Y:=Y) (k:=e-1-(i+j) / 2) (by omega)
      obtain ⟨u,hu,a9,_⟩:=SY (ho _ (Bm _ a6)) (ho _ (Ax _ bj))
      have eX:=Vs (A:=A) (Y:=X) (B:=Y++B) (k:=(i+j) / 2) (by omega) (by omega)
      have eY:=Vs (A:=A++X) (Y:=Y) (B:=B) (k:=e+(A.length+X.length)-1-(i+j) / 2) (by simp; omega) (by simp; omega)
      rw [Cy,show e+(A.length+X.length)-1-(i+j) / 2-(A.length+X.length)=e-1-(i+j) / 2 by omega] at eY
      rw [show A++X++(Y++B)=A++X++Y++B by simp] at eX
      rw [AH,if_pos (by simp; omega),hh,T6 (by omega),AA (x:=(e:Int)+_) (by omega) (by omega),AA (x:=(e:Int)+_-1) (by omega) (by omega),AA (x:=(e:Int)+_-1-_) (by omega) (by omega),
       show (e:Int)+((A.length+X.length:Nat):Int)-1-(((i+j) / 2:Nat):Int)=((e+(A.length+X.length)-1-(i+j) / 2:Nat):Int) by omega,eY,Aa,eX,Aa,hu,Aa,a9,AC (by omega)])
     (fun m' i=>by
      rw [AH,if_neg (by simp),AH,if_neg (by simp)])
     (fun c c' hc b2 ce hq=>by
      have ao:=NA sX (i:=c-A.length) (j:=c'-A.length) (by omega) (by omega)
      have an:=NA sY (i:=e-1-c') (j:=e-1-c) (by omega) (by omega)
      simp only [Bool.not_eq_true',decide_eq_false_iff_not] at hq ⊢
      unfold Lz GD at *
      omega) X.length FU lo v (by omega) (Dw (by omega)) (by omega) bq (by omega) (fun c h1 h2=>by omega) (fun c h1 h2=>by omega)
    rw [h5]
    obtain ⟨X1,U,rfl,bh⟩:=Oh (l:=X) (k:=s-A.length) (by omega)
    obtain ⟨V,Y2,rfl,hV⟩:=Oh (l:=Y) (k:=e-s) (by omega)
    simp only [Cy] at *
    -- what stands left goes ahead of what stands right
    have c1:∀ x ∈ X1,∀ y ∈ Y2,Lz x y:=fun x f y g=>by
     obtain ⟨i,bi,rfl⟩:=N1 f
     obtain ⟨j,bp,rfl⟩:=N1 g
     have a5:lo<s:=by
      rcases bb with h|h
      omega
      rcases Nat.lt_or_ge lo s with h'|h'
      exact h'
      exfalso
      have:s=lo:=by omega
      omega
     have hq:=h3 (s-1) (by omega) (by omega)
     simp only [Bool.not_eq_true',decide_eq_false_iff_not] at hq
     rw [show e-1-(s-1)=V.length+0 by omega,Qx,RK (by omega)] at hq
     have ao:=NA (NZ sX) (i:=i) (j:=s-1-A.length) (by omega) (by omega)
     have an:=NA (Ng sY) (i:=0) (j:=j) (by omega) (by omega)
     exact Nm ao (Nm hq an)
    have c2:∀ x ∈ V,∀ y ∈ U,Lz x y:=fun x f y g=>by
     obtain ⟨i,bi,rfl⟩:=N1 f
     obtain ⟨j,bp,rfl⟩:=N1 g
     have a5:s<v:=by
      rcases a8 with h|h
      omega
      rcases Nat.lt_or_ge s v with h'|h'
      exact h'
      exfalso
      have:s=v:=by omega
      omega
     have hq:=h4 s (by omega) (by omega)
     simp only [Bool.not_eq_false',C9] at hq
     rw [RK (by omega),show s-A.length=X1.length+0 by omega,Qx] at hq
     have ao:=NA (Ng sX) (i:=0) (j:=j) (by omega) (by omega)
     have an:=NA (NZ sY) (i:=i) (j:=e-1-s) (by omega) (by omega)
     exact Nm an (Nm (Nn hq) ao)
    have bn:∀ x ∈ X1++V,∀ y ∈ U++Y2,Lz x y:=fun x f y g=>by
     rcases AV.1 f with f|f <;> rcases AV.1 g with g|g
     exact Xf sX x f y g
     exact c1 x f y g
     exact c2 x f y g
     exact Xf sY x f y g
    rw [AH,if_neg (by simp)]
    unfold Bf
    dsimp only
    rw [hh,AA (x:=(e:Int)+_) (by omega) (by omega),AA (x:=(e:Int)+_-_) (by omega) (by omega),show (e:Int)+((A.length+(X1.length+U.length):Nat):Int)-(s:Int)=((A.length+X1.length+V.length+U.length:Nat):Int) by omega]
    simp only [Ahl]
    have b3:e=A.length+X1.length+V.length:=by omega
    have bv:∀(K:List BX→Ae (List BX)),(if (decide ((s:Int)<((A.length+(X1.length+U.length):Nat):Int))&&decide (((A.length+(X1.length+U.length):Nat):Int)<((A.length+X1.length+V.length+U.length:Nat):Int)))=true then
      Option.bind (BV (A++(X1++U)++(V++Y2)++B) (s:Int) ((A.length+(X1.length+U.length):Nat):Int) ((A.length+X1.length+V.length+U.length:Nat):Int)) K else K (A++(X1++U)++(V++Y2)++B))=K (A++(X1++V)++(U++Y2)++B):=by
     intro K
     by_cases hU:U=[]
     subst hU
     rw [if_neg (by simp; omega)]
     simp
     by_cases ak:V=[]
     subst ak
     rw [if_neg (by simp; omega)]
     simp
     have u0:=List.length_pos_iff.2 hU
     have v0:=List.length_pos_iff.2 ak
     have:=Acq (A:=A++X1) (U:=U) (V:=V) (B:=Y2++B) (x1:=s) (x2:=A.length+(X1.length+U.length)) (x3:=A.length+X1.length+V.length+U.length) hU ak (by simp; omega) (by simp; omega) (by simp; omega) (by omega)
     rw [if_pos (by simp; omega),show A++(X1++U)++(V++Y2)++B=A++X1++U++V++(Y2++B) by simp,this,Aa]
     simp
    have ba:∃ Z1:List BX,Z1.Perm (X1++V)∧GJ Z1∧∀(K:List BX→Ae (List BX)),(if (decide ((A.length:Int)<(s:Int))&&decide ((s:Int)<(e:Int)))=true then
      Option.bind (AW m (A++(X1++V)++(U++Y2)++B) (A.length:Int) (s:Int) (e:Int)) K else K (A++(X1++V)++(U++Y2)++B))=K (A++Z1++(U++Y2)++B):=by
     by_cases aw:X1=[]
     subst aw
     exact ⟨[]++V,List.Perm.refl _,NZ sY,fun K=>by rw [if_neg (by simp at bh ⊢; omega)]⟩
     by_cases ak:V=[]
     subst ak
     exact ⟨X1++[],List.Perm.refl _,by simpa using NZ sX,fun K=>by rw [if_neg (by simp at hV ⊢; omega)]⟩
     have x0:=List.length_pos_iff.2 aw
     have v0:=List.length_pos_iff.2 ak
     obtain ⟨Z1,z1,z2,z3⟩:=ih m A X1 V (U++Y2++B) (by omega) (by omega) aw ak (NZ sX) (NZ sY) (fun x f=>ho x (by
      rcases AV.1 f with h|h
      simp [h]
      simp [h])) (by omega)
     refine ⟨Z1,z1,z2,fun K=>?_⟩
     rw [show A.length+X1.length=s by omega,show s+V.length=e by omega] at z3
     rw [if_pos (by simp; omega),show A++(X1++V)++(U++Y2)++B=A++X1++V++(U++Y2++B) by simp,z3,Aa]
     simp
    obtain ⟨Z1,z1,z2,z3⟩:=ba
    have zl:Z1.length=X1.length+V.length:=by have:=z1.length_eq; simpa using this
    have bl:∃ Z2:List BX,Z2.Perm (U++Y2)∧GJ Z2∧(if (decide ((e:Int)<((A.length+X1.length+V.length+U.length:Nat):Int))&&decide (((A.length+X1.length+V.length+U.length:Nat):Int)<((A.length+(X1.length+U.length)+(V.length+Y2.length):Nat):Int)))=true then
      Option.bind (AW m (A++Z1++(U++Y2)++B) (e:Int) ((A.length+X1.length+V.length+U.length:Nat):Int) ((A.length+(X1.length+U.length)+(V.length+Y2.length):Nat):Int)) (fun u=>some u) else some (A++Z1++(U++Y2)++B))=some (A++Z1++Z2++B):=by
     by_cases hU:U=[]
     subst hU
     exact ⟨[]++Y2,List.Perm.refl _,Ng sY,by rw [if_neg (by simp; omega)]⟩
     by_cases av:Y2=[]
     subst av
     exact ⟨U++[],List.Perm.refl _,by simpa using Ng sX,by rw [if_neg (by simp; omega)]⟩
     have u0:=List.length_pos_iff.2 hU
     have y0:=List.length_pos_iff.2 av
     obtain ⟨Z2,w1,w2,w3⟩:=ih m (A++Z1) U Y2 B (by omega) (by omega) hU av (Ng sX) (Ng sY) (fun x f=>ho x (by
      rcases AV.1 f with h|h
      simp [h]
      simp [h])) (by simp; omega)
     refine ⟨Z2,w1,w2,?_⟩
     simp only [Cy] at w3
     rw [show A.length+Z1.length=e by omega,show e+U.length=A.length+X1.length+V.length+U.length by omega,show A.length+X1.length+V.length+U.length+Y2.length=A.length+(X1.length+U.length)+(V.length+Y2.length) by omega] at w3
     rw [if_pos (by simp; omega),show A++Z1++(U++Y2)++B=A++Z1++U++Y2++B by simp,w3,Aa]
    obtain ⟨Z2,w1,w2,w3⟩:=bl
    refine ⟨Z1++Z2,?_,Agp z2 w2 (fun x f y g=>bn x (z1.mem_iff.1 f) y (w1.mem_iff.1 g)),?_⟩
    have h1:=z1.append w1
    have h2:(X1++V++(U++Y2)).Perm (X1++U++(V++Y2)):=by
     have h3:=((List.perm_append_comm (l₁:=V) (l₂:=U)).append_left X1).append_right Y2
     simpa using h3
    exact h1.trans h2
    rw [bv,z3,w3]
    simp
   by_cases b8:e<A.length+X.length
   rw [if_pos (by simp; omega),show (e:Int)+((A.length+X.length:Nat):Int)-((A.length+X.length+Y.length:Nat):Int)=((e+(A.length+X.length)-(A.length+X.length+Y.length):Nat):Int) by omega]
   exact a1 _ _ (by omega) (by omega) (by omega) (by omega) (by omega) (by omega) (by omega)
   rw [if_neg (by simp; omega)]
   exact a1 _ _ (by omega) (by omega) (by omega) (by omega) (by omega) (by omega) (by omega)
theorem Z7{X Y:List BX}(v:X≠[])(g:Y≠[])(e:GJ X)(h:GJ Y)(u:∀ x ∈ X++Y,MD x)(m:X.length+Y.length<10000) :
  ∃ Z,Z.Perm (X++Y)∧GJ Z∧Cn (X++Y) 0 (X.length:Int) ((X.length+Y.length:Nat):Int)=some Z:=by
 obtain ⟨Z,f,s,l⟩:=Aed (X.length+Y.length) FU [] X Y [] (Nat.le_refl _) (Dw (by omega)) v g e h u (by simpa using m)
 exact ⟨Z,f,s,by simpa [Cn] using l⟩
theorem Acb{l:List BX}(hl:l.length≤40)(ho:∀ x ∈ l,MD x):∃ Z,Z.Perm l∧GJ Z∧BD l=some Z:=by
 have f1 (g:Nat):g+1=g.succ:=rfl
 unfold BD CJ
 by_cases a4:l.length<20
 obtain ⟨Z,z1,v,u⟩:=N6 (A:=[]) (X:=l) (B:=[]) (a:=0) (b:=l.length) rfl (by simp) (by omega) ho
 simp only [List.nil_append,List.append_nil] at u
 refine ⟨Z,z1,v,?_⟩
 have e2:AF (l.length:Int) FU Z 20=some Z:=by
  have:∀ g,AF (l.length:Int) (g+1) Z 20=some Z:=fun g=>by
   rw [AF,if_neg (by simp; omega)]
  exact this (FU-1)
 have e1:AO (l.length:Int) FU l 0 20=some Z:=by
  have:∀ g,AO (l.length:Int) (g+1) l 0 20=some Z:=fun g=>by
   rw [AO,if_neg (by simp; omega),show (0:Int)=((0:Nat):Int) from rfl,u,Aa,e2]
  exact this (FU-1)
 rw [e1,Aa]
 obtain ⟨X,Y,rfl,hX⟩:=Oh (l:=l) (k:=20) (by omega)
 simp only [Cy] at hl a4
 obtain ⟨Z1,z1,v,u⟩:=N6 (A:=[]) (X:=X) (B:=Y) (a:=0) (b:=20) rfl (by simp [hX]) (by omega) (fun s h=>ho s (by simp [h]))
 have zl:Z1.length=20:=by rw [z1.length_eq,hX]
 obtain ⟨Z2,w1,w2,w3⟩:=N6 (A:=Z1) (X:=Y) (B:=[]) (a:=20) (b:=20+Y.length) (by omega) (by omega) (by omega) (fun s h=>ho s (by simp [h]))
 have wl:Z2.length=Y.length:=w1.length_eq
 simp only [List.nil_append,List.append_nil] at u w3
 have ac:(Z1++Z2).Perm (X++Y):=z1.append w1
 have aw:∀ x ∈ Z1++Z2,MD x:=fun x hx=>ho x (ac.mem_iff.1 hx)
 have hn:(((X++Y).length:Nat):Int)=((20+Y.length:Nat):Int):=by simp [hX]
 have an:Ah ((0:Int)+20)=((20:Nat):Int):=by decide
 have aq:Ah (2*20)=((40:Nat):Int):=by decide
 have ao:Ah ((20:Int)*2)=((40:Nat):Int):=by decide
 -- the merge
 have ax:∃ Z,Z.Perm (X++Y)∧GJ Z∧AF ((20+Y.length:Nat):Int) FU (Z1++Z2) 20=some Z:=by
  by_cases hY:Y=[]
  subst hY
  have:Z2=[]:=List.Perm.eq_nil w1
  subst this
  refine ⟨Z1++[],ac,by simpa using v,?_⟩
  have:∀ g,AF ((20+0:Nat):Int) (g+1) (Z1++[]) 20=some (Z1++[]):=fun g=>by
   rw [AF,if_neg (by simp)]
  exact this (FU-1)
  have y0:=List.length_pos_iff.2 hY
  obtain ⟨Z,v1,v2,f⟩:=Z7 (X:=Z1) (Y:=Z2) (fun h=>by subst h; simp at zl) (fun h=>by subst h; simp at wl; exact hY (List.length_eq_zero_iff.1 wl.symm)) v w2 aw (by omega)
  rw [zl,wl] at f
  refine ⟨Z,v1.trans ac,v2,?_⟩
  have l3:∀(m:List BX→Int→Ae (List BX)),Br ((20+Y.length:Nat):Int) 20 m FU (Z1++Z2) 0 ((40:Nat):Int)=m Z ((40:Nat):Int):=by
   intro m
   have:∀ g,Br ((20+Y.length:Nat):Int) 20 m (g+2) (Z1++Z2) 0 ((40:Nat):Int)=m Z ((40:Nat):Int):=fun g=>by
    rw [Br]
    unfold Bf
    dsimp only
    by_cases ap:Y.length=20
    have e:((40:Nat):Int)=((20+Y.length:Nat):Int):=by omega
    have ba:Ah (((20+Y.length:Nat):Int)+20)=((60:Nat):Int):=by rw [ap]; decide
    rw [if_pos (by simp; omega),an,e,f,Aa,Br]
    unfold Bf
    dsimp only
    rw [aq,if_neg (by rw [AA (by omega) (by omega)]; simp; omega),ba,if_neg (by simp; omega),ao,e]
    rw [if_neg (by simp; omega),an,if_pos (by simp; omega),f,Aa,ao]
   exact this (FU-2)
  have:∀ g,AF ((20+Y.length:Nat):Int) (g+2) (Z1++Z2) 20=some Z:=fun g=>by
   rw [AF,if_pos (by simp; omega),aq,l3,AF,if_neg (by simp; omega)]
  exact this (FU-2)
 obtain ⟨Z,v1,v2,f⟩:=ax
 refine ⟨Z,v1,v2,?_⟩
 have l1:AO ((20+Y.length:Nat):Int) FU (X++Y) 0 20=some Z:=by
  have:∀ g,AO ((20+Y.length:Nat):Int) (g+3) (X++Y) 0 20=some Z:=fun g=>by
   have a1:Ah ((20:Int)+20)=((40:Nat):Int):=by decide
   have a2:Ah (((40:Nat):Int)+20)=((60:Nat):Int):=by decide
   have a8:Bo (X++Y) 0 20=some (Z1++Y):=u
   rw [AO,if_pos (by simp; omega),a8,Aa,a1,AO]
   by_cases ap:Y.length=20
   have e:((40:Nat):Int)=((20+Y.length:Nat):Int):=by omega
   have ai:Bo (Z1++Y) 20 ((40:Nat):Int)=some (Z1++Z2):=by rw [e]; exact w3
   obtain ⟨Z3,y1,_,y3⟩:=N6 (A:=Z1++Z2) (X:=[]) (B:=[]) (a:=40) (b:=20+Y.length) (by simp; omega) (by simp; omega) (by omega) (fun s h=>by cases h)
   have:Z3=[]:=List.Perm.eq_nil y1
   subst this
   simp only [List.append_nil] at y3
   rw [if_pos (by simp; omega),ai,Aa,a2,AO,if_neg (by simp; omega),y3,Aa,f]
   have ai:Bo (Z1++Y) 20 ((20+Y.length:Nat):Int)=some (Z1++Z2):=w3
   rw [if_neg (by simp; omega),ai,Aa,f]
  exact this (FU-3)
 rw [hn,l1,Aa]
def JQ(x:BX):Bool:=BW x.1 1 12&&(BW x.2.1 1 9&&(BW x.2.2.1 0 999&&BW x.2.2.2 (x.2.2.1+1) 1000))
theorem OA{x:BX}:JQ x=true↔(1≤x.1∧x.1≤12)∧(1≤x.2.1∧x.2.1≤9)∧(0≤x.2.2.1∧x.2.2.1≤999)∧x.2.2.1+1≤x.2.2.2∧x.2.2.2≤1000:=by
 unfold JQ
 simp only [Cq,Eb]
theorem YT(x:BX):Li x=some (JQ x):=by
 unfold Li Bf
 dsimp only
 rw [Df,Aa,Df,Aa]
 cases h1:BW x.1 1 12 with
 | false=>simp [JQ,h1]
 | true =>
  cases f:BW x.2.1 1 9 with
  | false=>simp [JQ,h1,f]
  | true =>
   rw [if_pos rfl,if_pos rfl]
   have e:JQ x=(decide (0≤x.2.2.1)&&(decide (x.2.2.1<x.2.2.2)&&decide (x.2.2.2≤1000))):=by
    unfold JQ BW at *
    rw [h1,f,Bool.eq_iff_iff]
    simp
    omega
   rw [e]
   by_cases h:0≤x.2.2.1 <;> by_cases g:x.2.2.1<x.2.2.2 <;> simp [h,g]
theorem Ul(a b:BX):IQ a b=some (decide (GD a b)):=by
 unfold IQ Bf GD
 dsimp only
 by_cases h1:a.2.2.1<b.2.2.1
 simp [h1]
 by_cases e:a.2.2.1=b.2.2.1 <;> simp [h1,e]
def PT(x y:BX):Bool:=!((decide (y.2.1=x.2.1)||decide (y.1=x.1))&&decide (x.2.2.1<y.2.2.2))
def L0(l:List BX)(k:Nat):Bool:=decide (k=0)||decide (GD (CZ l (k-1)) (CZ l k))
def Zg(l:List BX)(k:Nat):Bool:=JQ (CZ l k)&&(L0 l k&&(l.take k).all (PT (CZ l k)))
def Gh(l:List BX):Bool:=(List.range l.length).all (Zg l)&&decide (l.length≤40)
theorem Ue{l:List BX}(hl:l.length<4611686018427387904)(ho:∀ x ∈ l,MD x):Kk l=some (Gh l):=by
 unfold Kk Gh
 rw [N3 (DG l) l.length (Zg l) (some (decide (l.length≤40))) (some false) hl (fun m k h=>?_) (fun m=>?_)]
 cases (List.range l.length).all (Zg l) <;> simp
 have s:l[k]? = some (CZ l k):=by rw [BP h,GE h]
 have ab:=ho _ (Ka h)
 rw [DG,if_pos (by simp; omega),AY,s,Aa]
 unfold Bf K0 Kj Zg
 dsimp only
 rw [Dg,Aa,Aa,Dg,Aa,Aa,Dg,Aa,AA (x:=(CZ l k).2.2.1+1) (by have:=ab.2; omega) (by have:=ab.2; omega),Dg,Aa]
 by_cases u:JQ (CZ l k)=true
 have e:=u
 unfold JQ at e
 simp only [Cq] at e
 rw [e.1,if_neg (by simp),e.2.1,if_neg (by simp),e.2.2.1,if_neg (by simp),e.2.2.2,if_neg (by simp),u,Bool.true_and]
 have ag:(Option.bind (sl l 0 (k:Int)) fun am=>Fv am (CZ l k) (DG l m) (k:Int) FU 0)=if (l.take k).all (PT (CZ l k))=true then DG l m ((k+1:Nat):Int) else some false:=by
  rw [KS l (by omega),Aa]
  rw [Ow (Fv (l.take k) (CZ l k) (DG l m) (k:Int)) (l.take k) (PT (CZ l k)) (DG l m ((k+1:Nat):Int)) (some false) (by simp; omega) (fun m' j x hj s=>?_) (fun m'=>?_)]
  rw [Fv,if_pos (by simp at hj ⊢; omega),AY,s,Aa,AC (by simp at hj; omega)]
  unfold Bf PT
  dsimp only
  by_cases f:x.2.1=(CZ l k).2.1
  rw [if_pos (by simpa using f)]
  by_cases v:(CZ l k).2.2.1<x.2.2.2 <;> simp [f,v]
  rw [if_neg (by simpa using f)]
  by_cases g:x.1=(CZ l k).1
  rw [if_pos (by simpa using g)]
  by_cases v:(CZ l k).2.2.1<x.2.2.2 <;> simp [f,g,v]
  rw [if_neg (by simpa using g)]
  simp [f,g]
  rw [Fv,if_neg (by simp),AC (by omega)]
 rw [ag]
 by_cases h0:k=0
 subst h0
 rw [if_neg (by simp)]
 simp [L0]
 have an:l[k-1]? = some (CZ l (k-1)):=by rw [BP (by omega),GE (by omega)]
 rw [if_pos (by simp; omega),AA (by omega) (by omega),show (k:Int)-1=((k-1:Nat):Int) by omega,AY,an,Aa,Ul,Aa]
 unfold L0
 by_cases hb:GD (CZ l (k-1)) (CZ l k)
 rw [decide_eq_true hb,Bool.or_true,Bool.true_and,if_neg (by simp)]
 rw [decide_eq_false hb,decide_eq_false h0]
 simp
 have e:JQ (CZ l k)=false:=by simpa using u
 rw [e,Bool.false_and,if_neg (c:=false=true) (by simp)]
 unfold JQ at e
 cases b1:BW (CZ l k).1 1 12 with
 | false=>simp
 | true =>
  cases b2:BW (CZ l k).2.1 1 9 with
  | false=>simp
  | true =>
   cases b3:BW (CZ l k).2.2.1 0 999 with
   | false=>simp
   | true =>
    rw [b1,b2,b3] at e
    simp only [Bool.true_and] at e
    rw [e]
    simp
 rw [DG,if_neg (by simp),show decide ((l.length:Int)≤40)=decide (l.length≤40) by rw [decide_eq_decide]; omega]
theorem HV{l:List BX}:Gh l=true↔l.length≤40∧(∀ x ∈ l,JQ x=true)∧l.Pairwise GD∧∀ k,k<l.length→(l.take k).all (PT (CZ l k))=true:=by
 unfold Gh Zg
 simp only [Cq,List.all_eq_true,List.mem_range,C9]
 constructor
 rintro ⟨h1,h⟩
 refine ⟨h,fun x hx=>?_,?_,fun k e=>?_⟩
 obtain ⟨k,e,rfl⟩:=N1 hx
 exact (h1 k e).1
 have s:∀ k,k+1<l.length→GD (CZ l k) (CZ l (k+1)):=fun k e=>by
  have:=(h1 (k+1) e).2.1
  unfold L0 at this
  simpa using this
 have ac:∀ d i,i+d+1<l.length→GD (CZ l i) (CZ l (i+d+1)):=by
  intro d
  induction d with
  | zero=>intro i f; exact s i f
  | succ d ih =>
   intro i f
   have u:=ih i (by omega)
   have m:=s (i+d+1) (by omega)
   rw [show i+(d+1)+1=i+d+1+1 by omega]
   unfold GD at *
   omega
 rw [List.pairwise_iff_getElem]
 intro i j f hj ae
 have:=ac (j-i-1) i (by omega)
 rw [show i+(j-i-1)+1=j by omega,GE f,GE hj] at this
 exact this
 exact fun y g=>(h1 k e).2.2 y g
 rintro ⟨h1,h,u,m⟩
 refine ⟨fun k e=>⟨h _ (Ka e),?_,fun y g=>m k e y g⟩,h1⟩
 unfold L0
 by_cases v:k=0
 simp [v]
 have:=(List.pairwise_iff_getElem.1 u) (k-1) k (by omega) e (by omega)
 rw [← GE (by omega:k-1<l.length),← GE e] at this
 simp [this]
def PS(x y:BX):Bool:=!((decide (x.2.1=y.2.1)||decide (x.1=y.1))&&decide (Gj x.2.2.1 y.2.2.1<Fq x.2.2.2 y.2.2.2))
theorem VF{x y:BX}(g:JQ x=true)(f:JQ y=true)(h:GD y x):PS x y=PT x y:=by
 have l:=OA.1 g
 have m:=OA.1 f
 have e:decide (Gj x.2.2.1 y.2.2.1<Fq x.2.2.2 y.2.2.2)=decide (x.2.2.1<y.2.2.2):=by
  rw [decide_eq_decide]
  unfold Gj Fq
  unfold GD at h
  split <;> split <;> omega
 unfold PS PT
 rw [e,show decide (x.2.1=y.2.1)=decide (y.2.1=x.2.1) by rw [decide_eq_decide]; exact eq_comm,show decide (x.1=y.1)=decide (y.1=x.1) by rw [decide_eq_decide]; exact eq_comm]
theorem Afy{l:List BX}(h:∀ k,k<l.length→L0 l k=true):l.Pairwise GD:=by
 have f:∀ k,k+1<l.length→GD (CZ l k) (CZ l (k+1)):=fun k m=>by
  have:=h (k+1) m
  unfold L0 at this
  simpa using this
 have s:∀ d i,i+d+1<l.length→GD (CZ l i) (CZ l (i+d+1)):=by
  intro d
  induction d with
  | zero=>intro i e; exact f i e
  | succ d g =>
   intro i e
   have h3:=g i (by omega)
   have v:=f (i+d+1) (by omega)
   rw [show i+(d+1)+1=i+d+1+1 by omega]
   unfold GD at *
   omega
 rw [List.pairwise_iff_getElem]
 intro i j e u aa
 have:=s (j-i-1) i (by omega)
 rw [show i+(j-i-1)+1=j by omega,GE e,GE u] at this
 exact this
theorem Aaa{l:List BX}(h:l.Pairwise GD){k:Nat}(e:k<l.length){y:BX}(f:y ∈ l.take k):GD y (CZ l k):=by
 obtain ⟨i,g,rfl⟩:=List.mem_take_iff_getElem.1 f
 rw [GE e]
 exact (List.pairwise_iff_getElem.1 h) i k (by omega) e (by omega)
theorem Qs{l:List BX}(hl:l.length<4611686018427387904)(ho:∀ x ∈ l,MD x):GH l=some (Gh l):=by
 unfold GH
 by_cases aj:l.length≤40
 rw [if_neg (by simp; omega)]
 rw [Ow (ED l) l JQ (CT l FU 0) (some false) hl (fun m k x hx e=>?_) (fun m=>?_)]
 cases ha:l.all JQ with
 | false =>
  rw [if_neg (by simp)]
  have:Gh l=false:=by
   rw [← Bool.not_eq_true]
   intro h
   rw [List.all_eq_true.2 (HV.1 h).2.1] at ha
   cases ha
  rw [this]
 | true =>
  have v:=List.all_eq_true.1 ha
  rw [if_pos rfl]
  rw [N3 (CT l) l.length (fun k=>L0 l k&&(l.take k).all (PS (CZ l k))) (some true) (some false) hl (fun m k e=>?_) (fun m=>?_)]
  have:(List.range l.length).all (fun k=>L0 l k&&(l.take k).all (PS (CZ l k)))=Gh l:=by
   rw [Bool.eq_iff_iff,HV]
   simp only [List.all_eq_true,List.mem_range,Cq]
   constructor
   intro h
   have g:=Afy fun k e=>(h k e).1
   refine ⟨aj,v,g,fun k e y f=>?_⟩
   rw [← VF (v _ (Ka e)) (v y (List.mem_of_mem_take f)) (Aaa g e f)]
   exact (h k e).2 y f
   rintro ⟨_,_,g,h⟩ k e
   refine ⟨?_,fun y f=>?_⟩
   unfold L0
   by_cases h0:k=0
   simp [h0]
   have:=(List.pairwise_iff_getElem.1 g) (k-1) k (by omega) e (by omega)
   rw [← GE (by omega:k-1<l.length),← GE e] at this
   simp [this]
   rw [VF (v _ (Ka e)) (v y (List.mem_of_mem_take f)) (Aaa g e f)]
   exact h k e y f
  rw [this]
  cases Gh l <;> rfl
  have hx:l[k]? = some (CZ l k):=by rw [BP e,GE e]
  rw [CT,if_pos (by simp; omega),AY,hx,Aa]
  unfold Bf
  dsimp only
  have am:(Option.bind (sl l 0 (k:Int)) fun ap=>DU ap (CZ l k) (CT l m) (k:Int) FU 0)=if (l.take k).all (PS (CZ l k))=true then CT l m ((k+1:Nat):Int) else some false:=by
   rw [KS l (by omega),Aa]
   rw [Ow (DU (l.take k) (CZ l k) (CT l m) (k:Int)) (l.take k) (PS (CZ l k)) (CT l m ((k+1:Nat):Int)) (some false) (by simp; omega) (fun m' j x hj hx=>?_) (fun m'=>?_)]
   rw [DU,if_pos (by simp at hj ⊢; omega),AY,hx,Aa,AC (by simp at hj; omega)]
   unfold Bf PS
   dsimp only
   by_cases s:(CZ l k).2.1=x.2.1
   rw [if_pos (by simpa using s)]
   by_cases a3:Gj (CZ l k).2.2.1 x.2.2.1<Fq (CZ l k).2.2.2 x.2.2.2 <;> simp [s,a3]
   rw [if_neg (by simpa using s)]
   by_cases a2:(CZ l k).1=x.1
   rw [if_pos (by simpa using a2)]
   by_cases a3:Gj (CZ l k).2.2.1 x.2.2.1<Fq (CZ l k).2.2.2 x.2.2.2 <;> simp [s,a2,a3]
   rw [if_neg (by simpa using a2)]
   simp [s,a2]
   rw [DU,if_neg (by simp),AC (by omega)]
  rw [am]
  by_cases h0:k=0
  subst h0
  rw [if_neg (by simp)]
  simp [L0]
  have aq:l[k-1]? = some (CZ l (k-1)):=by rw [BP (by omega),GE (by omega)]
  obtain ⟨u,hu,_,al⟩:=SY (ho _ (Ka (Y:=l) (k:=k-1) (by omega))) (ho _ (Ka e))
  rw [if_pos (by simp; omega),AA (by omega) (by omega),show (k:Int)-1=((k-1:Nat):Int) by omega,AY,aq,Aa,hu,Aa,al]
  unfold L0
  by_cases hb:GD (CZ l (k-1)) (CZ l k)
  rw [decide_eq_true hb,Bool.or_true,Bool.true_and,if_neg (by simp)]
  rw [decide_eq_false hb,decide_eq_false h0]
  simp
  rw [CT,if_neg (by simp)]
 rw [ED,if_pos (by simp; have:=(List.getElem?_eq_some_iff.1 e).1; omega),AY,e,Aa,YT,Aa,AC (by have:=(List.getElem?_eq_some_iff.1 e).1; omega)]
 cases JQ x <;> simp
 rw [ED,if_neg (by simp)]
 rw [if_pos (by simp; omega)]
 have:Gh l=false:=by
  rw [← Bool.not_eq_true]
  intro h
  exact aj (HV.1 h).1
 rw [this]
theorem Ajf{l:List BX}{x:BX}{K:List BX→Ae (List BX×Bool)}(hl:l.length<100000)(hs:GJ l):∀(k m:Nat),k≤l.length→k<m→(∀ s ∈ l.drop k,GD x s) →
  ∃ Z,Z.Perm (x::l)∧GJ Z∧Gv l x K m (k:Int)=K Z:=by
 intro k
 have ab:∀(k:Nat),k≤l.length→(∀ s ∈ l.drop k,GD x s)→(k=0∨¬ GD x (CZ l (k-1)))→(Option.bind (sl l 0 (k:Int)) fun am=>Option.bind (sl l (k:Int) (List.length l:Int)) fun ak=>Option.bind (BB [] am) fun ap=>Option.bind (BB ap [x]) fun al=>Option.bind (BB al ak) fun ao=>K ao)=K (l.take k++x::l.drop k)∧GJ (l.take k++x::l.drop k)∧(l.take k++x::l.drop k).Perm (x::l):=by
  intro k e h1 h2
  refine ⟨?_,?_,?_⟩
  rw [KS l e,Aa,SD l e,Aa,Bg (by simp; omega),Aa,Bg (by simp; omega),Aa,Bg (by simp; omega),Aa]
  simp
  refine QW (by rw [List.take_append_drop]; exact hs) (fun s h=>Nn (h1 s h)) ?_
  rcases h2 with h|h
  left; rw [h,List.take_zero]
  refine Wk fun y hy=>?_
  obtain ⟨i,hi,rfl⟩:=List.mem_take_iff_getElem.1 hy
  have h3:=NA hs (i:=i) (j:=k-1) (by omega) (by omega)
  rw [GE (by omega)] at h3
  exact Nm h3 h
  have:(l.take k++x::l.drop k).Perm (x::(l.take k++l.drop k)):=List.perm_middle
  rwa [List.take_append_drop] at this
 induction k with
 | zero =>
  intro m e hm h1
  cases m with
  | zero=>omega
  | succ m =>
   obtain ⟨u,f2,v⟩:=ab 0 e h1 (.inl rfl)
   refine ⟨_,v,f2,?_⟩
   rw [Gv]
   unfold Bf
   dsimp only
   rw [if_neg (by simp),if_neg (by simp)]
   exact u
 | succ k ih =>
  intro m e hm h1
  cases m with
  | zero=>omega
  | succ m =>
   have f:k<l.length:=by omega
   have hx:l[k]? = some (CZ l k):=by rw [BP f,GE f]
   have ek:Ah (((k+1:Nat):Int)-1)=(k:Int):=by rw [AA (by omega) (by omega)]; omega
   rw [Gv]
   unfold Bf
   dsimp only
   rw [if_pos (by simp <;> omega),ek,AY,hx,Aa,Ul,Aa]
   by_cases g:GD x (CZ l k)
   rw [if_pos (by simpa using g)]
   refine ih m (by omega) (by omega) (fun s h=>?_)
   rw [List.drop_eq_getElem_cons f] at h
   rcases List.mem_cons.1 h with rfl|h
   rw [← GE f]; exact g
   exact h1 s h
   obtain ⟨u,f2,v⟩:=ab (k+1) e h1 (.inr (by simpa using g))
   refine ⟨_,v,f2,?_⟩
   rw [if_neg (by simpa using g)]
   exact u
theorem Ad0{l:List BX}(hl:l.length<50000)(ho:∀ x ∈ l,MD x):∃ Z,Z.Perm l∧GJ Z∧Ki l=some (if Gh Z=true then (Z,true) else ([],false)):=by
 unfold Ki
 have ah:∀(d k m:Nat)(S:List BX),l.length-k=d→k≤l.length→d<m→S.Perm (l.take k)→GJ S→∃ Z,Z.Perm l∧GJ Z∧Fu l m S (k:Int)=some (if Gh Z=true then (Z,true) else ([],false)):=by
  intro d
  induction d with
  | zero =>
   intro k m S u hk hm e f
   have:k=l.length:=by omega
   subst this
   rw [List.take_length] at e
   cases m with
   | zero=>omega
   | succ m =>
    refine ⟨S,e,f,?_⟩
    rw [Fu,if_neg (by simp),Ue (by have:=e.length_eq; omega) (fun x hx=>ho x (e.mem_iff.1 hx)),Aa]
    cases Gh S <;> rfl
  | succ d ih =>
   intro k m S u hk hm e f
   have g:k<l.length:=by omega
   have ao:S.length=k:=by rw [e.length_eq]; simp; omega
   cases m with
   | zero=>omega
   | succ m =>
    obtain ⟨Z,z1,v,z3⟩:=Ajf (l:=S) (x:=l[k]) (K:=fun ad=>Fu l m ad (Ah ((k:Int)+1))) (by omega) f S.length FU (Nat.le_refl _) (Dw (by omega)) (fun s h=>by rw [List.drop_length] at h; cases h)
    rw [Fu,if_pos (by simp; omega)]
    unfold Bf
    dsimp only
    rw [Ic g,Aa]
    obtain ⟨W,w1,w2,w3⟩:=ih (k+1) m Z (by omega) (by omega) (by omega) (by
     rw [List.take_succ_eq_append_getElem g]
     exact z1.trans ((List.Perm.cons _ e).trans (List.perm_append_singleton _ _).symm)) v
    refine ⟨W,w1,w2,?_⟩
    rw [z3,AC (by omega)]
    exact w3
 exact ah l.length 0 FU [] rfl (by omega) (Dw (by omega)) (by simp) List.Pairwise.nil
theorem Us:∀{Z W:List BX},Z.Perm W→Z.Pairwise GD→GJ W→Z=W
 | [],W,h,_,_=>(List.Perm.nil_eq h)
 | a::Z,[],h,_,_=>by have:=h.length_eq; simp at this
 | a::Z,b::W,h,h1,h2=>by
  have e:a=b:=by
   have f:a ∈ b::W:=h.mem_iff.1 (List.mem_cons_self ..)
   have g:b ∈ a::Z:=h.mem_iff.2 (List.mem_cons_self ..)
   rcases List.mem_cons.1 f with e|f
   exact e
   rcases List.mem_cons.1 g with e|g
   exact e.symm
   have l:=(List.pairwise_cons.1 h1).1 b g
   have m:=(List.pairwise_cons.1 h2).1 a f
   exact absurd l m
  subst e
  rw [Us (List.Perm.cons_inv h) (List.pairwise_cons.1 h1).2 (List.pairwise_cons.1 h2).2]
theorem Afp{Z W:List BX}(h:Z.Perm W)(h1:GJ Z)(g:GJ W):(if Gh Z=true then (Z,true) else ([],false))=(if Gh W=true then (W,true) else (([]:List BX),false)):=by
 by_cases f:Gh Z=true
 rw [Us h (HV.1 f).2.2.1 g]
 by_cases e:Gh W=true
 exact absurd (by rw [← Us h.symm (HV.1 e).2.2.1 h1]; exact e) f
 rw [if_neg f,if_neg e]
theorem Aby{l:List BX}(s:l.length≤40)(f:∀ x ∈ l,MD x):∃ Z,Z.Perm l∧BD l=some Z∧GH Z=some (Gh Z)∧Ki l=some (if Gh Z=true then (Z,true) else ([],false)):=by
 obtain ⟨Z,e,z2,m⟩:=Acb s f
 obtain ⟨W,g,u,v⟩:=Ad0 (by omega) f
 refine ⟨Z,e,m,Qs (by rw [e.length_eq]; omega) (fun x h=>f x (e.mem_iff.1 h)),?_⟩
 rw [v,Afp (g.trans e.symm) u z2]
end Go.Proofs.YtellehgihceicaaGreatDoor
