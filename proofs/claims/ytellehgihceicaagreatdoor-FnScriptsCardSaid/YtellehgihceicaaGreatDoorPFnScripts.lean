/-
 WHAT THE LAWS ON SHOWS HAND OVER AND TAKE BACK, PLAIN.
-/
import Derived.Test.YtellehgihceicaaGreatDoorPH
import Derived.Test.YtellehgihceicaaGreatDoorPB2
import Derived.Test.YtellehgihceicaaGreatDoorF
set_option linter.unusedVariables false
set_option linter.unusedSimpArgs false
set_option maxHeartbeats 1600000
namespace Go.Proofs.YtellehgihceicaaGreatDoor
open Go
theorem Aeq{α:Type}(f:Nat→List α→Int→Int→Ae (List α))(g:List α)(h:g.length≤9223372036854775807)
  (u:∀ m l y z,f (m+1) l y z=if (decide (y<z))=true then Option.bind (AG l z) fun a=>Option.bind (AG l y) fun b=>Option.bind (AG l y) fun _=>Option.bind (AG (BL l y a) z) fun _=>f m (BL (BL l y a) z b) (Ah (y+1)) (Ah (z-1)) else some l) :
  f FU g 0 (Ah ((List.length g:Int)-1))=some g.reverse:=by
 have aa:∀(P T:List α)(x:α)(y:Int),y=(P.length:Int)→AG (P++x::T) y=some x:=by
  intro P T x y e; unfold AG; rw [if_pos (by omega),show y.toNat=P.length by omega]; simp
 have ag:∀(P T:List α)(x z:α)(y:Int),y=(P.length:Int)→BL (P++x::T) y z=P++z::T:=by
  intro P T x z y e; unfold BL; rw [show y.toNat=P.length by omega]; simp
 have al:∀(n:Nat)(M A B:List α)(m:Nat)(y z:Int),M.length≤2*n+1→n<m→y=(A.length:Int)→z=(A.length:Int)+(M.length:Int)-1→A.length+M.length≤9223372036854775807→f m (A++M++B) y z=some (A++M.reverse++B):=by
  intro n
  induction n with
  | zero =>
   intro M A B m y z hn hm v s hl
   cases m with
   | zero=>omega
   | succ m =>
    match M,hn with
    | [],_=>rw [u,if_neg (by simp at s ⊢; omega)]; simp
    | [a],_=>rw [u,if_neg (by simp at s ⊢; omega)]; simp
  | succ n ih =>
   intro M A B m y z hn hm v s hl
   cases m with
   | zero=>omega
   | succ m =>
    match M with
    | []=>rw [u,if_neg (by simp at s ⊢; omega)]; simp
    | a::M' =>
     rcases List.eq_nil_or_concat M' with rfl|⟨M2,b,rfl⟩
     rw [u,if_neg (by simp at s ⊢; omega)]; simp
     rw [List.concat_eq_append] at *
     have ac:z=(A.length:Int)+(M2.length:Int)+1:=by rw [s]; simp; omega
     have aq:A.length+M2.length+2≤9223372036854775807:=by simp at hl; omega
     have e1:A++a::(M2++[b])++B=(A++a::M2)++b::B:=by simp
     have e2:A++a::(M2++[b])++B=A++a::(M2++[b]++B):=by simp
     have i1:AG (A++a::(M2++[b])++B) z=some b:=by rw [e1]; exact aa _ _ _ _ (by rw [ac]; simp; omega)
     have i2:AG (A++a::(M2++[b])++B) y=some a:=by rw [e2]; exact aa _ _ _ _ v
     have s1:BL (A++a::(M2++[b])++B) y b=(A++b::M2)++b::B:=by rw [e2,ag _ _ _ _ _ v]; simp
     have i3:AG ((A++b::M2)++b::B) z=some b:=aa _ _ _ _ (by rw [ac]; simp; omega)
     have s2:BL ((A++b::M2)++b::B) z a=(A++[b])++M2++a::B:=by rw [ag _ _ _ _ _ (by rw [ac]; simp; omega)]; simp
     rw [u,if_pos (by simp; omega),i1,Aa,i2,Aa,Aa,s1,i3,Aa,s2,AA (x:=y+1) (by omega) (by omega),AA (x:=z-1) (by omega) (by omega)]
     have:=ih M2 (A++[b]) (a::B) m (y+1) (z-1) (by simp at hn; omega) (by omega) (by simp; omega) (by simp; omega) (by simp; omega)
     rw [this]
     simp
 have:=al (g.length / 2) g [] [] FU 0 (Ah ((List.length g:Int)-1)) (by omega) (show g.length / 2<4611686018427387904 by omega) rfl (by rw [AA (by omega) (by omega)]; simp) (by simpa using h)
 simpa using this
theorem Aer(x:List Int)(h:x.length<4611686018427387904):EJ x=some x.reverse:=by
 unfold EJ
 exact Aeq De x (by omega) (fun m l y z=>by rw [De]; rfl)
def MinSq(l:List (Int×Int))(v:Int):Prop:=(∃ a b,a<b∧b<l.length∧v=H3 (E0 l a) (E0 l b))∧∀ a b,a<b→b<l.length→v≤H3 (E0 l a) (E0 l b)
theorem MinSq.uniq{l:List (Int×Int)}{v w:Int}(h:MinSq l v)(h':MinSq l w):v=w:=by
 obtain ⟨⟨a,b,h1,s,h3⟩,m⟩:=h
 obtain ⟨⟨e,g,u,f,g3⟩,g4⟩:=h'
 have:=m e g u f
 have:=g4 a b h1 s
 omega
def M7(i k a b:Nat):Prop:=a<b∧(a<i∨(a=i∧b<k))
theorem Abi{l:List (Int×Int)}(hc:C4 l=true)(h2:2≤l.length):∃ v,Fn l=some (v,true)∧MinSq l v:=by
 have ao:=(Dm hc).2
 have aq:=fun a b (ha:a<l.length) (hb:b<l.length)=>(Nh (JC hc ha) (JC hc hb)).2
 have al:∃ z:Int×Int,IF l=some z∧∃ a b:Nat,z=((a:Int),(b:Int))∧a<b∧b<l.length∧∀ g f,g<f→f<l.length→H3 (E0 l a) (E0 l b)≤H3 (E0 l g) (E0 l f):=by
  unfold IF
  refine Exists.elim (JY (fun (_:Unit) m (z:Int×Int) i=>Ev l m z.1 z.2 i) l.length (fun i z=>∃ a b:Nat,z=((a:Int),(b:Int))∧a<b∧b<l.length∧∀ g f,M7 i 0 g f→f<l.length→H3 (E0 l a) (E0 l b)≤H3 (E0 l g) (E0 l f))
   (fun _ z=>some z) (by omega) (fun i z _ hi hz=>?_) (fun z hz j m=>?_) (b:=0) (by omega) (s:=(0,1)) ⟨0,1,rfl,by omega,by omega,fun g f h=>by unfold M7 at h; omega⟩) ?_
  obtain ⟨a,b,rfl,ad,u,aa⟩:=hz
  refine Exists.elim (JY (fun (nx:Int→Int→Int→Ae (Int×Int)) m (z:Int×Int) k=>DC l (i:Int) nx m z.1 z.2 k) l.length (fun k z=>∃ a b:Nat,z=((a:Int),(b:Int))∧a<b∧b<l.length∧∀ g f,M7 i k g f→f<l.length→H3 (E0 l a) (E0 l b)≤H3 (E0 l g) (E0 l f))
   (fun nx z=>nx z.1 z.2 ((i+1:Nat):Int)) (by omega) (fun k z an hk hz=>?_) (fun z hz j m=>?_) (b:=i+1) (by omega) (s:=((a:Int),(b:Int))) ⟨a,b,rfl,ad,u,fun g f h ac=>aa g f (by unfold M7 at h ⊢; omega) ac⟩) ?_
  obtain ⟨a,b,rfl,ad,u,aa⟩:=hz
  by_cases ai:H3 (E0 l i) (E0 l k)<H3 (E0 l a) (E0 l b)
  refine ⟨((i:Int),(k:Int)),⟨i,k,rfl,by omega,hk,fun g f h ac=>?_⟩,fun nx m=>?_⟩
  by_cases e:g=i∧f=k
  rw [e.1,e.2]; exact Int.le_refl _
  have:=aa g f (by unfold M7 at h ⊢; omega) ac
  omega
  rw [DC,if_pos (by simp; omega)]
  unfold Fx
  dsimp only
  rw [AY,D9 hi,Aa,AY,D9 hk,Aa,AY,D9 (by omega),Aa,AY,D9 u,Aa,HX,Aa,HX,Aa,if_pos (decide_eq_true ai),AC (by omega)]
  refine ⟨((a:Int),(b:Int)),⟨a,b,rfl,ad,u,fun g f h ac=>?_⟩,fun nx m=>?_⟩
  by_cases e:g=i∧f=k
  rw [e.1,e.2]; omega
  exact aa g f (by unfold M7 at h ⊢; omega) ac
  rw [DC,if_pos (by simp; omega)]
  unfold Fx
  dsimp only
  rw [AY,D9 hi,Aa,AY,D9 hk,Aa,AY,D9 (by omega),Aa,AY,D9 u,Aa,HX,Aa,HX,Aa,if_neg (by simpa using ai),AC (by omega)]
  rw [DC,if_neg (by simp),AC (by omega)]
  rintro z ⟨⟨a,b,rfl,ad,u,aa⟩,hz⟩
  refine ⟨((a:Int),(b:Int)),⟨a,b,rfl,ad,u,fun g f h ac=>aa g f (by unfold M7 at h ⊢; omega) ac⟩,fun _ m=>?_⟩
  dsimp only at hz ⊢
  rw [Ev,if_pos (by simp; omega),AC (by omega)]
  exact hz _
  rw [Ev,if_neg (by simp)]
  rintro z ⟨⟨a,b,rfl,ad,u,aa⟩,hz⟩
  exact ⟨_,hz (),a,b,rfl,ad,u,fun g f h ac=>aa g f (by unfold M7; omega) ac⟩
 obtain ⟨z,e,a,b,rfl,ad,u,aa⟩:=al
 refine ⟨H3 (E0 l a) (E0 l b),?_,⟨a,b,ad,u,rfl⟩,aa⟩
 unfold Fn Bf
 dsimp only
 rw [GW l (by omega),Aa,hc,if_neg (by simp),if_neg (by simp; omega),e,Aa,AY,D9 (by omega),Aa,AY,D9 u,Aa,HX,Aa]
theorem Aa6{l:List (Int×Int)}(hc:C4 l=true)(h2:2≤l.length):∃ v,E7 l=some (v,true)∧MinSq l v:=by
 have az:=(Dm hc).2
 have an:=fun a b (ha:a<l.length) (hb:b<l.length)=>(Nh (JC hc ha) (JC hc hb)).2.1
 have ar:∃ z:Int×Int×Int,Lb l=some z∧MinSq l z.2.2:=by
  unfold Lb
  refine Exists.elim (JY (fun (_:Unit) m (z:Int×Int×Int) i=>FP l m z.1 z.2.1 z.2.2 i) l.length (fun i z=>(z.2.2=-1∧i=0)∨((∃ a b,a<b∧b<l.length∧z.2.2=H3 (E0 l a) (E0 l b))∧∀ g f,M7 i 0 g f→f<l.length→z.2.2≤H3 (E0 l g) (E0 l f)))
   (fun _ z=>some z) (by omega) (fun i z _ hi u=>?_) (fun z u j m=>?_) (b:=0) (by omega) (s:=(0,0,-1)) (.inl ⟨rfl,rfl⟩)) ?_
  refine Exists.elim (JY (fun (nx:Int→Int→Int→Int→Ae (Int×Int×Int)) m (z:Int×Int×Int) k=>DP l (E0 l i) (i:Int) nx m z.1 z.2.1 z.2.2 k) l.length (fun k z=>(z.2.2=-1∧i=0∧k=1)∨((∃ a b,a<b∧b<l.length∧z.2.2=H3 (E0 l a) (E0 l b))∧∀ g f,M7 i k g f→f<l.length→z.2.2≤H3 (E0 l g) (E0 l f)))
   (fun nx z=>nx z.1 z.2.1 z.2.2 ((i+1:Nat):Int)) (by omega) (fun k z ay hk u=>?_) (fun z u j m=>?_) (b:=i+1) (by omega) (s:=z) ?_) ?_
  have hs:=an i k hi hk
  have aj:∀(nx:Int→Int→Int→Int→Ae (Int×Int×Int)) m,DP l (E0 l i) (i:Int) nx (m+1) z.1 z.2.1 z.2.2 (k:Int)=if z.2.2<0∨H3 (E0 l i) (E0 l k)<z.2.2 then DP l (E0 l i) (i:Int) nx m (i:Int) (k:Int) (H3 (E0 l i) (E0 l k)) ((k+1:Nat):Int) else DP l (E0 l i) (i:Int) nx m z.1 z.2.1 z.2.2 ((k+1:Nat):Int):=by
   intro nx m
   rw [DP,if_pos (by simp; omega)]
   unfold Sa Bf
   dsimp only
   rw [AY,D9 hk,Aa,MN,Aa,AC (by omega)]
   by_cases h1:z.2.2<0
   rw [if_pos (decide_eq_true h1),if_pos rfl,if_pos (.inl h1)]
   rw [if_neg (by simpa using h1)]
   by_cases h3:H3 (E0 l i) (E0 l k)<z.2.2
   rw [if_pos (decide_eq_true h3),if_pos (.inr h3)]
   rw [if_neg (by simpa using h3),if_neg (by omega)]
  by_cases ah:z.2.2<0∨H3 (E0 l i) (E0 l k)<z.2.2
  refine ⟨((i:Int),(k:Int),H3 (E0 l i) (E0 l k)),.inr ⟨⟨i,k,by omega,hk,rfl⟩,fun g f h ac=>?_⟩,fun nx m=>?_⟩
  dsimp only
  by_cases e:g=i∧f=k
  rw [e.1,e.2]; exact Int.le_refl _
  rcases u with ⟨ai,al,am⟩|⟨⟨a,b,g1,g2,g3⟩,u⟩
  unfold M7 at h; omega
  have:=u g f (by unfold M7 at h ⊢; omega) ac
  have:=an a b (by omega) g2
  omega
  exact (aj nx m).trans (if_pos ah)
  refine ⟨z,.inr ⟨?_,fun g f h ac=>?_⟩,fun nx m=>(aj nx m).trans (if_neg ah)⟩
  rcases u with ⟨ai,al,am⟩|⟨u,_⟩
  omega
  exact u
  rcases u with ⟨ai,al,am⟩|⟨_,u⟩
  omega
  by_cases e:g=i∧f=k
  rw [e.1,e.2]; omega
  exact u g f (by unfold M7 at h ⊢; omega) ac
  rw [DP,if_neg (by simp),AC (by omega)]
  rcases u with ⟨h1,h3⟩|⟨h1,h3⟩
  exact .inl ⟨h1,h3,by omega⟩
  exact .inr ⟨h1,fun g f h ac=>h3 g f (by unfold M7 at h ⊢; omega) ac⟩
  rintro z' ⟨aw,ae⟩
  refine ⟨z',?_,fun _ m=>?_⟩
  rcases aw with ⟨h1,h3,h4⟩|⟨h1,h3⟩
  omega
  exact .inr ⟨h1,fun g f h ac=>h3 g f (by unfold M7 at h ⊢; omega) ac⟩
  rw [FP,if_pos (by simp; omega),AY,D9 hi,Aa,AC (by omega)]
  exact ae _
  rw [FP,if_neg (by simp)]
  rintro z ⟨u,ae⟩
  refine ⟨z,ae (),?_⟩
  rcases u with ⟨h1,h3⟩|⟨h1,h3⟩
  omega
  exact ⟨h1,fun g f h ac=>h3 g f (by unfold M7; omega) ac⟩
 obtain ⟨z,e,hm⟩:=ar
 refine ⟨z.2.2,?_,hm⟩
 unfold E7 Bf
 dsimp only
 rw [KJ l (by omega),Aa,hc,if_neg (by simp),if_neg (by simp; omega),e,Aa]
def O8(l:List (Int×Int)):Int×Bool:=(E7 l).getD (0,false)
theorem UC{l:List (Int×Int)}(e:C4 l=true):Fn l=some (O8 l)∧E7 l=some (O8 l)∧0≤(O8 l).1∧(O8 l).1≤100000000:=by
 have ab:=Dm e
 by_cases m:2≤l.length
 obtain ⟨v,g,h⟩:=Abi e m
 obtain ⟨w,f,s⟩:=Aa6 e m
 have:=h.uniq s
 subst this
 unfold O8
 rw [g,f]
 obtain ⟨⟨a,b,h1,u,h4⟩,_⟩:=h
 have:=(Nh (JC e (by omega:a<l.length)) (JC e u)).2
 exact ⟨rfl,rfl,by dsimp only [Option.getD]; omega,by dsimp only [Option.getD]; omega⟩
 have g:E7 l=some (0,false):=by
  unfold E7 Bf
  dsimp only
  rw [KJ l (by omega),Aa,e,if_neg (by simp),if_pos (by simp; omega)]
 have f:Fn l=some (0,false):=by
  unfold Fn Bf
  dsimp only
  rw [GW l (by omega),Aa,e,if_neg (by simp),if_pos (by simp; omega)]
 unfold O8
 rw [g,f]
 exact ⟨rfl,rfl,by simp,by simp⟩
def NS(q:Int)(t:Nat):Bool:=decide (1000000*q≤23040000*((t:Int)*(t:Int)))
theorem Aa9{t:Nat}(f:t≤1000):Ah ((Ah ((Ah (4800*(t:Int)))*4800))*(t:Int))=23040000*((t:Int)*(t:Int)):=by
 have h1:=N0 (x:=(t:Int)) (y:=(t:Int)) (A:=1000) (B:=1000) (by omega) (by omega) (by omega) (by omega)
 rw [AA (x:=4800*(t:Int)) (by omega) (by omega),AA (x:=4800*(t:Int)*4800) (by omega) (by omega)]
 have e:4800*(t:Int)*4800*(t:Int)=23040000*((t:Int)*(t:Int)):=by grind
 rw [e,AA (by omega) (by omega)]
theorem Y7{q:Int}{t t':Nat}(h:t≤t')(f:NS q t=true):NS q t'=true:=by
 unfold NS at *
 rw [C9] at *
 have h1:=Nat.mul_le_mul h h
 have e:=Int.ofNat_le.2 h1
 rw [Int.natCast_mul,Int.natCast_mul] at e
 omega
theorem ZZ{q:Int}(f:q≤2089984){t:Nat}(e:302≤t):NS q t=true:=by
 refine Y7 e ?_
 unfold NS
 rw [C9]
 omega
def IsT(q:Int)(v:Nat):Prop:=NS q v=true∧∀ t,t<v→NS q t=false
theorem IsT.uniq{q:Int}{v w:Nat}(h:IsT q v)(f:IsT q w):v=w:=by
 rcases Nat.lt_trichotomy v w with e|e|e
 have:=f.2 v e; rw [h.1] at this; cases this
 exact e
 have:=h.2 w e; rw [f.1] at this; cases this
theorem Adp{q:Int}(h0:0≤q)(hq:q≤2089984):∃ v:Nat,v≤302∧Eh q FU 0=some (v:Int)∧IsT q v:=by
 have aa:∀(d t m:Nat),302-t=d→t≤302→d<m→(∀ t',t'<t→NS q t'=false)→∃ v:Nat,v≤302∧Eh q m (t:Int)=some (v:Int)∧IsT q v:=by
  intro d
  induction d with
  | zero =>
   intro t m hd ht u l
   have:t=302:=by omega
   subst this
   cases m with
   | zero=>omega
   | succ m =>
    have g:=ZZ hq (t:=302) (by omega)
    have f:=g
    unfold NS at f
    rw [C9] at f
    refine ⟨302,by omega,?_,g,l⟩
    rw [Eh,Aa9 (by omega),AA (x:=1000000*q) (by omega) (by omega),if_neg (by rw [C9]; omega)]
  | succ d s =>
   intro t m hd ht u l
   cases m with
   | zero=>omega
   | succ m =>
    rw [Eh,Aa9 (by omega),AA (x:=1000000*q) (by omega) (by omega)]
    cases g:NS q t with
    | true =>
     have f:=g
     unfold NS at f
     rw [C9] at f
     rw [if_neg (by rw [C9]; omega)]
     exact ⟨t,by omega,rfl,g,l⟩
    | false =>
     have f:=g
     unfold NS at f
     rw [decide_eq_false_iff_not] at f
     rw [if_pos (by rw [C9]; omega),AC (by omega)]
     refine s (t+1) m (by omega) (by omega) (by omega) (fun t' h=>?_)
     by_cases e:t'=t
     rw [e]; exact g
     exact l t' (by omega)
 exact aa 302 0 FU rfl (by omega) (Dw (by omega)) (fun t' h=>by omega)
theorem Acg{q:Int}(h0:0≤q)(hq:q≤2089984):∃ v:Nat,L3 q=some (v:Int)∧IsT q v:=by
 have ad:∀(d e f m:Nat),f-e≤d→e≤f→f≤1000→d<m→(∀ t,t<e→NS q t=false)→NS q f=true→∃ v:Nat,Fr q m (e:Int) (f:Int)=some (v:Int)∧IsT q v:=by
  intro d
  induction d with
  | zero =>
   intro e f m hd h1 h2 hm u l
   have:e=f:=by omega
   subst this
   cases m with
   | zero=>omega
   | succ m=>exact ⟨e,by rw [Fr,if_neg (by simp)],l,u⟩
  | succ d ih =>
   intro e f m hd h1 h2 hm u l
   cases m with
   | zero=>omega
   | succ m =>
    rw [Fr]
    by_cases ak:e<f
    have em:Ah (Int.tdiv (Ah ((e:Int)+(f:Int))) 2)=(((e+f) / 2:Nat):Int):=by
     rw [AA (x:=(e:Int)+f) (by omega) (by omega),Int.tdiv_eq_ediv_of_nonneg (by omega),AA (by omega) (by omega)]
     omega
    rw [if_pos (by simp; omega),em,Aa9 (by omega),AA (x:=1000000*q) (by omega) (by omega)]
    cases s:NS q ((e+f) / 2) with
    | true =>
     have g:=s
     unfold NS at g
     rw [if_pos g]
     exact ih e _ m (by omega) (by omega) (by omega) (by omega) u s
    | false =>
     have g:=s
     unfold NS at g
     rw [g,if_neg (by simp),AC (by omega)]
     refine ih ((e+f) / 2+1) f m (by omega) (by omega) h2 (by omega) (fun t ht=>?_) l
     cases hx:NS q t with
     | false=>rfl
     | true=>have:=Y7 (t':=(e+f) / 2) (by omega) hx; rw [s] at this; cases this
    have:e=f:=by omega
    subst this
    exact ⟨e,by rw [if_neg (by simp)],l,u⟩
 unfold L3
 exact ad 1000 0 1000 FU (by omega) (by omega) (by omega) (Dw (by omega)) (fun t h=>by omega) (ZZ hq (by omega))
def P4(a b:Int×Int):Int×Bool:=(Hj a b).getD (0,false)
theorem WA{a b:Int×Int}(e:Dk a=true)(f:Dk b=true):Hj a b=some (P4 a b)∧Is a b=some (P4 a b)∧0≤(P4 a b).1∧(P4 a b).1≤302:=by
 obtain ⟨_,h,g⟩:=Nh e f
 obtain ⟨v,v1,v2,s⟩:=Adp h g
 obtain ⟨w,l,w2⟩:=Acg h g
 have:=s.uniq w2
 subst this
 have u:Hj a b=some ((v:Int),true):=by
  unfold Hj Lx Bf
  dsimp only
  rw [ME,Aa,e,if_neg (by simp),ME,Aa,f,HX,Aa,v2]
  rfl
 have m:Is a b=some ((v:Int),true):=by
  unfold Is ND Mv Bf
  dsimp only
  rw [Q5,Aa,e,if_pos rfl,Q5,Aa,f,MN,Aa,Aa,l]
  rfl
 unfold P4
 rw [u,m]
 exact ⟨rfl,rfl,by dsimp only [Option.getD]; omega,by dsimp only [Option.getD]; omega⟩
def Oy(load count:Int)(x:BX):Bool:=decide (x.2.1=load)&&(decide (x.2.2.1≤count)&&decide (count<x.2.2.2))
def OD(l:List BX)(load count:Int):Int×Bool:=if (BW load 1 9&&BW count 0 999)=true then (match (List.range l.length).find? fun i=>Oy load count (CZ l i) with
  | some i=>((CZ l i).1,true)
  | none=>(0,false)) else (0,false)
theorem W7{l:List BX}(h:Gh l=true):∀ x ∈ l,MD x:=by
 intro x e
 have:=OA.1 ((HV.1 h).2.1 x e)
 unfold MD
 omega
theorem WD{l:List BX}{k:Nat}(h:k<l.length):l[k]? = some (CZ l k):=by rw [GE h]; exact BP h
theorem Wr{l:List BX}(h:Gh l=true)(f e:Int):JN l f e=some (OD l f e):=by
 have u:=(HV.1 h).1
 unfold JN Bf OD
 dsimp only
 rw [Qs (by omega) (W7 h),Aa,h,Df,Aa,Df,Aa]
 cases BW f 1 9 with
 | false=>rfl
 | true =>
  cases BW e 0 999 with
  | false=>rfl
  | true =>
   rw [if_neg (by simp),if_neg (by simp),if_neg (by simp),if_pos (c:=(true&&true)=true) rfl]
   rw [Vy (ER l f e) l.length (fun i=>Oy f e (CZ l i)) (fun i=>some ((CZ l i).1,true)) (some (0,false)) (by omega) (fun m k s=>?_) (fun m=>?_)]
   cases (List.range l.length).find? fun i=>Oy f e (CZ l i) <;> rfl
   rw [ER,if_pos (by simp; omega),AY,WD s,Aa,AC (by omega)]
   unfold Bf Oy
   dsimp only
   by_cases h1:(CZ l k).2.1=f
   rw [if_pos (by simpa using h1),decide_eq_true h1]
   by_cases g:(CZ l k).2.2.1≤e
   rw [if_pos (by simpa using g),decide_eq_true g]; rfl
   rw [if_neg (by simpa using g),decide_eq_false g]; rfl
   rw [if_neg (by simpa using h1),decide_eq_false h1]; rfl
   rw [ER,if_neg (by simp)]
theorem Acj{l:List BX}(h:Gh l=true){g f:Int}(hl:1≤g):LK l g 0 f=some (Ws ((List.range l.length).find? fun i=>Oy g f (CZ l i))):=by
 have u:=(HV.1 h).1
 unfold LK
 rw [Vy (Hq l g 0 f) l.length (fun i=>Oy g f (CZ l i)) (fun i=>some (i:Int)) (some (-1)) (by omega) (fun m k s=>?_) (fun m=>?_)]
 cases (List.range l.length).find? fun i=>Oy g f (CZ l i) <;> rfl
 have v:=OA.1 ((HV.1 h).2.1 _ (Ka s))
 rw [Hq,if_pos (by simp; omega),AY,WD s,Aa,AC (by omega)]
 unfold Bf Oy
 dsimp only
 rw [if_neg (by simp; omega),if_pos (c:=((0:Int)==0)=true) rfl,AA (by omega) (by omega),Dg,Aa]
 by_cases h1:(CZ l k).2.1=g
 rw [if_pos (by simpa using h1),decide_eq_true h1]
 have e:BW f (CZ l k).2.2.1 ((CZ l k).2.2.2-1)=(decide ((CZ l k).2.2.1≤f)&&decide (f<(CZ l k).2.2.2)):=by
  rw [Bool.eq_iff_iff,Eb]
  simp
  omega
 rw [e,Bool.true_and]
 rw [if_neg (by simpa using h1),decide_eq_false h1]; rfl
 rw [Hq,if_neg (by simp)]
theorem Wd{l:List BX}(h:Gh l=true)(f e:Int):JI l f e=some (OD l f e):=by
 have v:=(HV.1 h).1
 unfold JI Kj My Bf OD
 dsimp only
 rw [Ue (by omega) (W7 h),Aa,h,Dg,Aa,Aa,Dg,Aa,Aa]
 cases m:BW f 1 9 with
 | false=>rfl
 | true =>
  cases BW e 0 999 with
  | false=>rfl
  | true =>
   have g:=Eb.1 m
   rw [if_neg (by simp),if_neg (by simp),if_neg (by simp),if_pos (c:=(true&&true)=true) rfl,Acj h g.1,Aa,Aa]
   cases s:(List.range l.length).find? fun i=>Oy f e (CZ l i) with
   | none=>rfl
   | some i =>
    have u:i<l.length:=List.mem_range.1 (List.mem_of_find?_eq_some s)
    unfold Ws
    dsimp only
    rw [if_neg (by simp),AY,WD u,Aa]
theorem Agh{l:List BX}(h:Gh l=true)(f e:Int):0≤(OD l f e).1∧(OD l f e).1≤12:=by
 unfold OD
 split
 cases g:(List.range l.length).find? fun i=>Oy f e (CZ l i) with
 | none=>exact ⟨Int.le_refl _,by show (0:Int)≤12; omega⟩
 | some i =>
  have m:i<l.length:=List.mem_range.1 (List.mem_of_find?_eq_some g)
  have s:=OA.1 ((HV.1 h).2.1 _ (Ka m))
  dsimp only
  omega
 exact ⟨by decide,by decide⟩
theorem Yk{l:List IX}(h:Ib l=true){i:Nat}(g:i<l.length):∃ x:IX,l[i]? = some x∧(x.1=-1∨(0≤x.1∧x.1.toNat<i))∧(0≤x.2.1∧x.2.1≤7)∧0≤x.2.2∧x.2.2≤999:=by
 unfold Ib at h
 rw [Cq,List.all_eq_true] at h
 obtain ⟨x,m⟩:∃ x,l[i]? = some x:=⟨_,BP g⟩
 have f:=h.2 i (List.mem_range.2 g)
 unfold Q3 at f
 rw [m] at f
 unfold Va at f
 dsimp only at f
 rw [Cq,Cq,Eb,Eb] at f
 refine ⟨x,m,?_,f.2.1,f.2.2⟩
 by_cases e:i=0
 rw [if_pos e,C9] at f
 exact .inl f.1
 rw [if_neg e,Eb] at f
 exact .inr (by omega)
theorem NX{l:List IX}(h:Ib l=true):1≤l.length∧l.length≤60:=by
 unfold Ib at h
 rw [Cq,Eb] at h
 omega
theorem Ahk{l:List IX}(h:Ib l=true):∀(d i:Nat),i≤d→i<l.length→∃ u:List Int,(∀ x ∈ u,0≤x∧x.toNat<l.length)∧u.length≤i+1 ∧
  ∀(m:Nat)(s e:List Int),i+1<m→s.length≤1000-u.length→e.length≤1000-u.length→Fh l m (i:Int) s=some ((s++u).reverse)∧Fg l m (i:Int) e=some (u.reverse++e):=by
 have ao:=NX h
 have ad:∀ i (x:IX),l[i]? = some x→x.1=-1→i<l.length→∃ u:List Int,(∀ x ∈ u,0≤x∧x.toNat<l.length)∧u.length≤i+1 ∧
  ∀(m:Nat)(s e:List Int),i+1<m→s.length≤1000-u.length→e.length≤1000-u.length→Fh l m (i:Int) s=some ((s++u).reverse)∧Fg l m (i:Int) e=some (u.reverse++e):=by
  intro i x f aa v
  refine ⟨[(i:Int)],fun x f=>?_,by simp,fun m s e hm hs ae=>?_⟩
  rw [List.mem_singleton] at f; omega
  obtain ⟨m,rfl⟩:∃ m',m=m'+2:=⟨m-2,by omega⟩
  rw [Fh,Fg,if_pos (by simp),Bg (by simp; omega),Aa,if_pos (by simp),Bg (by simp; omega),Aa,AY,f,Aa,Aa,aa,Fh,Fg,if_neg (by decide),if_neg (by decide),Aer _ (by simp; omega)]
  exact ⟨rfl,rfl⟩
 intro d
 induction d with
 | zero =>
  intro i aj v
  have:i=0:=by omega
  subst this
  obtain ⟨x,f,g,_⟩:=Yk h v
  have aa:x.1=-1:=by rcases g with g|g; exact g; omega
  exact ad 0 x f aa v
 | succ d ih =>
  intro i aj v
  obtain ⟨x,f,g,_⟩:=Yk h v
  rcases g with aa|g
  exact ad i x f aa v
  obtain ⟨u,g1,g2,g3⟩:=ih x.1.toNat (by omega) (by omega)
  refine ⟨(i:Int)::u,?_,by simp; omega,fun m s e hm hs ae=>?_⟩
  intro y hy
  rcases List.mem_cons.1 hy with rfl|hy
  omega
  exact g1 y hy
  obtain ⟨m,rfl⟩:∃ m',m=m'+1:=⟨m-1,by omega⟩
  rw [List.length_cons] at hs ae
  obtain ⟨e1,e2⟩:=g3 m (s++[(i:Int)]) ((i:Int)::e) (by omega) (by simp; omega) (by simp; omega)
  have ex:x.1=((x.1.toNat:Nat):Int):=by omega
  rw [Fh,Fg,if_pos (by simp),Bg (by simp; omega),Aa,if_pos (by simp),Bg (by simp; omega),Aa,AY,f,Aa,Aa,ex,e1,List.singleton_append,e2]
  constructor
  rw [List.append_assoc]; rfl
  rw [List.reverse_cons,List.append_assoc]; rfl
theorem Aa3(u:List Int)(l:List IX):∀(m:Nat)(s:List Int)(k:Int),FI u l m s k=D1 u l m s k:=by
 intro m
 induction m with
 | zero=>intros; rfl
 | succ m e =>
  intro s k
  rw [FI,D1]
  simp only [e]
def YD(s:List Int):Prop:=s.length=8∧∀ x ∈ s,-1≤x∧x≤999
theorem Aca{l:List IX}(h:Ib l=true){u:List Int}(hu:∀ x ∈ u,0≤x∧x.toNat<l.length)(hl:u.length≤1000):∃ s,YD s∧D1 u l FU (List.replicate 8 (-1)) 0=some s:=by
 have aj:=NX h
 refine Exists.elim (JY (fun (_:Unit) m (z:List Int) k=>D1 u l m z k) u.length (fun _ z=>YD z) (fun _ z=>some z) (by omega) (fun k z _ v f=>?_) (fun z f j m=>?_) (b:=0) (by omega) (s:=List.replicate 8 (-1)) ⟨by simp,fun x g=>by have:=List.eq_of_mem_replicate g; omega⟩) ?_
 obtain ⟨ah,ab⟩:=f
 obtain ⟨g1,g2⟩:=hu _ (List.getElem_mem v)
 obtain ⟨x,g,_,h7,h9⟩:=Yk h g2
 have ac:x.2.1.toNat<z.length:=by omega
 refine ⟨BL z x.2.1 x.2.2,⟨by unfold BL; simpa using ah,fun y e=>?_⟩,fun _ m=>?_⟩
 unfold BL at e
 rcases List.mem_or_eq_of_mem_set e with e|rfl
 exact ab y e
 omega
 rw [D1,if_pos (by simp; omega),AY,BP v,Aa,Il g1,g,Aa,Aa,Il h7.1,BP ac,Aa,AC (by omega)]
 rw [D1,if_neg (by simp)]
 rintro z ⟨f,hr⟩
 exact ⟨z,f,hr ()⟩
theorem U3{l:List IX}(h:Ib l=true)(i:Int):IE l [i]=some (BW i 0 ((l.length:Int)-1)):=by
 have g:=NX h
 unfold IE
 rw [Ow (Eu [i] l) [i] (fun x=>BW x 0 ((l.length:Int)-1)) (some true) (some false) (by simp) (fun m k x e f=>?_) (fun m=>?_)]
 rw [List.all_cons,List.all_nil,Bool.and_true]
 cases BW i 0 ((l.length:Int)-1) <;> rfl
 rw [Eu,if_pos (by simp at e ⊢; omega),AY,f,Aa,Df,AA (by omega) (by omega),Aa,AC (by simp at e; omega)]
 cases BW x 0 ((l.length:Int)-1) <;> rfl
 rw [Eu,if_neg (by simp),Lu (by omega),Aa,h]
theorem Y6(k:Nat):List.replicate k (-1:Int)++[-1]=List.replicate (k+1) (-1):=by rw [List.replicate_succ']
theorem Zk{l:List IX}(h:Ib l=true)(i:Int):∃ r:List Int×Bool,Lj l i=some r∧Lf l i=some r∧(r.2=true→YD r.1):=by
 have ah:=NX h
 unfold Lj Lf NC Bf
 dsimp only
 rw [U3 h,Aa,Q4 (by omega),Aa,h,if_pos rfl,Dg,AA (by omega) (by omega),Aa,Aa]
 cases hi:BW i 0 ((l.length:Int)-1) with
 | false=>exact ⟨([],false),rfl,rfl,fun h=>by cases h⟩
 | true =>
  have aj:=Eb.1 hi
  obtain ⟨u,g1,g2,g3⟩:=Ahk h i.toNat i.toNat (Nat.le_refl _) (by omega)
  obtain ⟨f,g⟩:=g3 FU [] [] (Dw (by omega)) (by simp) (by simp)
  rw [show ((i.toNat:Nat):Int)=i by omega] at f g
  rw [List.nil_append] at f
  rw [List.append_nil] at g
  obtain ⟨s,hs,v⟩:=Aca h (u:=u.reverse) (fun x hx=>g1 x (List.mem_reverse.1 hx)) (by rw [List.length_reverse]; omega)
  have r1:Lg l i=some s:=by
   unfold Lg
   refine Eq.trans (ES (fun m (z:List Int) k=>FV l i m z k) 8 (fun k=>List.replicate k (-1)) (Option.bind (Ml l i) fun e=>D1 e l FU (List.replicate 8 (-1)) 0) (by omega) (j:=0) (by omega) (fun m k _ hk=>?_) (fun m=>?_)) ?_
   rw [FV,if_pos (by simp; omega),Bg (by simp; omega),Aa,AC (by omega),Y6]
   rw [FV,if_neg (by decide)]
   unfold Ml
   rw [f,Aa,v]
  have r2:KX l i=some s:=by
   unfold KX
   refine Eq.trans (ES (fun m (z:List Int) (_:Int)=>FJ l i m z) 8 (fun k=>List.replicate k (-1)) (Option.bind (Mi l i) fun e=>FI e l FU (List.replicate 8 (-1)) 0) (by omega) (j:=0) (by omega) (fun m k _ hk=>?_) (fun m=>?_)) ?_
   rw [FJ,if_pos (by simp; omega),Bg (by simp; omega),Aa,Y6]
   rw [FJ,if_neg (by decide)]
   unfold Mi
   rw [g,Aa,Aa3,v]
  refine ⟨(s,true),?_,?_,fun _=>hs⟩
  rw [if_neg (by simp),r1,Aa]
  rw [if_neg (by simp),r2,Aa]
theorem Adl(e:List (List Ag))(w f:List Ag):Lib.join (e++[w]) f=if e=[] then w else Lib.join e f++f++w:=by
 cases e with
 | nil=>rw [List.nil_append,if_pos rfl,Lib.join_one]
 | cons x r =>
  rw [List.cons_append,Lib.join_cons,Lib.join_cons,if_neg (by simp)]
  unfold Lib.joinTail
  rw [List.map_append,List.flatten_append]
  simp [List.append_assoc]
def NQ(n:Int):List Ag:=if n<0 then [45] else Lib.decDigits n.toNat
theorem Tu{n:Int}(h:n≤999):(NQ n).length≤3:=by
 unfold NQ
 split
 simp
 exact HN (k:=2) (by omega)
def Hc(ws:List (List Ag)):List Ag:=Lib.join ws [32]
theorem Abg(e:List (List Ag))(w:List Ag):Hc (e++[w])=(if e=[] then [] else Hc e++[32])++w:=by
 unfold Hc
 rw [Adl]
 split
 rfl
 rfl
theorem RE(f:List (List Ag)){k:Nat}(h:k<f.length):Hc (f.take (k+1))=(if k=0 then [] else Hc (f.take k)++[32])++f[k]:=by
 rw [List.take_succ_eq_append_getElem h,Abg]
 by_cases e:k=0
 subst e; simp
 have l:f.take k≠[]:=fun g=>by have:=congrArg List.length g; rw [List.length_take,List.length_nil] at this; omega
 rw [if_neg l,if_neg e]
theorem Pf{B:Nat}(e:List (List Ag))(h:∀ w ∈ e,w.length≤B):∀ k,k≤e.length→(Hc (e.take k)).length≤(B+1)*k
 | 0,_=>by simp [Hc,Lib.join_nil]
 | k+1,hk=>by
  have h1:=Pf e h k (by omega)
  have f:=h e[k] (List.getElem_mem _)
  rw [RE e (by omega),Cy,Nat.mul_succ]
  split
  simp; omega
  rw [Cy,List.length_singleton]; omega
theorem SN{B:Nat}(e:List (List Ag))(h:∀ w ∈ e,w.length≤B):(Hc e).length≤(B+1)*e.length:=by
 have:=Pf e h e.length (Nat.le_refl _)
 rwa [List.take_length] at this
theorem YQ{e:List (List Ag)}{B:Nat}(h:∀ w ∈ e,w.length≤B)(g:B≤1000)(f:e.length≤1000):J5 e [32]=some (Hc e):=by
 have h1:=SN e h
 have l:(B+1)*e.length≤1001*1000:=Nat.mul_le_mul (by omega) f
 unfold Hc at h1
 unfold J5 Hc
 rw [if_pos (by omega)]

theorem Yf{n:Int}(h:¬ n<0)(e:n≤999):Dn n=some (NQ n)∧CL n=some (NQ n):=by
 unfold NQ
 rw [if_neg h]
 exact ⟨MV (by omega) (by omega),Kq (by omega) (by omega)⟩
theorem ZN{s:List Int}(h:YD s):La s=some (Hc (s.map NQ)):=by
 obtain ⟨h8,v⟩:=h
 have g:∀ w ∈ s.map NQ,w.length≤3:=by
  intro w g
  obtain ⟨n,f,rfl⟩:=List.mem_map.1 g
  exact Tu (v n f).2
 unfold La
 refine Eq.trans (ES (DO s) s.length (fun k=>Hc ((s.map NQ).take k)) (some (Hc (s.map NQ))) (by omega) (j:=0) (by omega) (fun m k _ u=>?_) (fun m=>?_)) rfl
 have hl:=Pf _ g k (by simp; omega)
 have f:=v _ (List.getElem_mem u)
 have h3:=Tu f.2
 rw [DO,if_pos (by simp; omega)]
 unfold Bf
 dsimp only
 rw [AY,BP u,Aa,AC (by omega),RE _ (by simp; omega),List.getElem_map]
 have aa:∀ y:List Ag,y.length≤100→(if decide (s[k]<0)=true then Option.bind (BB y [45]) fun ad=>DO s m ad ((k+1:Nat):Int) else Option.bind (CL s[k]) fun ac=>Option.bind (BB y ac) fun ab=>DO s m ab ((k+1:Nat):Int))=DO s m (y++NQ s[k]) ((k+1:Nat):Int):=by
  intro y hy
  by_cases e:s[k]<0
  rw [if_pos (decide_eq_true e),Bg (by simp; omega),Aa]
  unfold NQ
  rw [if_pos e]
  rw [if_neg (by simpa using e),(Yf e f.2).2,Aa,Bg (by omega),Aa]
 by_cases l:k=0
 subst l
 rw [if_neg (by simp),aa _ (by omega),if_pos rfl]
 simp [Hc,Lib.join_nil]
 rw [if_pos (by simp; omega),Bg (by simp; omega),Aa,aa _ (by simp; omega),if_neg l]
 rw [DO,if_neg (by simp),List.take_of_length_le (by simp)]
theorem X7{s:List Int}(h:YD s):C5 (s,true) FU [] 0=some (Hc (s.map NQ)):=by
 obtain ⟨v,u⟩:=h
 have g:∀ w ∈ s.map NQ,w.length≤3:=by
  intro w g
  obtain ⟨n,f,rfl⟩:=List.mem_map.1 g
  exact Tu (u n f).2
 refine Eq.trans (ES (C5 (s,true)) s.length (fun k=>(s.map NQ).take k) (some (Hc (s.map NQ))) (by omega) (j:=0) (by omega) (fun m k _ l=>?_) (fun m=>?_)) rfl
 have f:=u _ (List.getElem_mem l)
 rw [C5,if_pos (by simp; omega)]
 unfold Bf
 dsimp only
 rw [AY,BP l,Aa,AC (by omega),List.take_succ_eq_append_getElem (by simp; omega),List.getElem_map]
 by_cases e:s[k]<0
 rw [if_pos (decide_eq_true e),Bg (by simp; omega),Aa]
 unfold NQ
 rw [if_pos e]
 rw [if_neg (by simpa using e),(Yf e f.2).1,Aa,Bg (by simp; omega),Aa]
 rw [C5,if_neg (by simp),List.take_of_length_le (by simp),YQ g (by omega) (by simp; omega),Aa]
def Qg(q:List Int):List Ag:=Lib.decDigits (JS q 0).toNat++[45]++Lib.decDigits (JS q 1).toNat
def PH(q:List Int):Prop:=∃ i k:Nat,q=[(i:Int),(k:Int)]∧i<100∧k<100
theorem QT{q:List Int}(h:PH q):1≤(Qg q).length∧(Qg q).length≤5:=by
 obtain ⟨i,k,rfl,f,e⟩:=h
 unfold Qg JS
 have h1:=HN (k:=1) (u:=i) (by omega)
 have g:=HN (k:=1) (u:=k) (by omega)
 simp
 omega
theorem Ac7{q:List Int}(h:PH q){R:Type}(f:List Ag→Ae R):(Option.bind (AG q 0) fun m=>Option.bind (AG q 1) fun g=>Option.bind (Dn m) fun s=>Option.bind (BB s [45]) fun e=>Option.bind (Dn g) fun l=>Option.bind (BB e l) f)=f (Qg q):=by
 obtain ⟨i,k,rfl,hi,v⟩:=h
 have h1:=HN (k:=1) (u:=i) (by omega)
 have h2:=HN (k:=1) (u:=k) (by omega)
 show (Option.bind (some (i:Int)) fun m=>Option.bind (some (k:Int)) fun g=>Option.bind (Dn m) fun s=>Option.bind (BB s [45]) fun e=>Option.bind (Dn g) fun l=>Option.bind (BB e l) f)=_
 rw [Aa,Aa,MV (by omega) (by omega),Aa,Bg (by simp; omega),Aa,MV (by omega) (by omega),Aa,Bg (by simp; omega),Aa]
 rfl
theorem Ac6{q:List Int}(h:PH q){R:Type}(f:List Ag→Ae R):(Option.bind (AG q 0) fun m=>Option.bind (AG q 1) fun g=>Option.bind (CL m) fun s=>Option.bind (BB s [45]) fun e=>Option.bind (CL g) fun l=>Option.bind (BB e l) f)=f (Qg q):=by
 obtain ⟨i,k,rfl,hi,v⟩:=h
 have h1:=HN (k:=1) (u:=i) (by omega)
 have h2:=HN (k:=1) (u:=k) (by omega)
 show (Option.bind (some (i:Int)) fun m=>Option.bind (some (k:Int)) fun g=>Option.bind (CL m) fun s=>Option.bind (BB s [45]) fun e=>Option.bind (CL g) fun l=>Option.bind (BB e l) f)=_
 rw [Aa,Aa,Kq (by omega) (by omega),Aa,Bg (by simp; omega),Aa,Kq (by omega) (by omega),Aa,Bg (by simp; omega),Aa]
 rfl
def PP(P:List (List Int)):List Ag:=if P=[] then [110,111,110,101] else Hc (P.map Qg)
theorem Abt{P:List (List Int)}(h:∀ q ∈ P,PH q)(l:P.length≤1000)(b:Bool):CS (P,b) FU [] 0=some (Hc (P.map Qg)):=by
 have e:∀ w ∈ P.map Qg,w.length≤5:=by
  intro w e
  obtain ⟨q,g,rfl⟩:=List.mem_map.1 e
  exact (QT (h q g)).2
 refine Eq.trans (ES (CS (P,b)) P.length (fun k=>(P.map Qg).take k) (some (Hc (P.map Qg))) (by omega) (j:=0) (by omega) (fun m k _ f=>?_) (fun m=>?_)) rfl
 rw [CS,if_pos (by simp; omega)]
 unfold Bf
 dsimp only
 rw [AY,BP f,Aa,Ac7 (h _ (List.getElem_mem f)),AC (by omega),List.take_succ_eq_append_getElem (by simp; omega),List.getElem_map,Bg (by simp; omega),Aa]
 rw [CS,if_neg (by simp),List.take_of_length_le (by simp),YQ e (by omega) (by simp; omega),Aa]
theorem Abs{P:List (List Int)}(h:∀ q ∈ P,PH q)(hl:P.length≤1000)(b:Bool):Dd (P,b) FU [] 0=some (PP P):=by
 have g:∀ w ∈ P.map Qg,w.length≤5:=by
  intro w g
  obtain ⟨q,v,rfl⟩:=List.mem_map.1 g
  exact (QT (h q v)).2
 refine Eq.trans (ES (Dd (P,b)) P.length (fun k=>Hc ((P.map Qg).take k)) (some (PP P)) (by omega) (j:=0) (by omega) (fun m k _ f=>?_) (fun m=>?_)) rfl
 have aa:=Pf _ g k (by simp; omega)
 have s:=QT (h _ (List.getElem_mem f))
 rw [Dd,if_pos (by simp; omega)]
 unfold Bf
 dsimp only
 rw [AY,BP f,Aa,RE _ (by simp; omega),List.getElem_map]
 simp only [Ac6 (h _ (List.getElem_mem f))]
 by_cases l:k=0
 subst l
 rw [if_neg (by simp),Bg (by omega),Aa,if_pos rfl,AC (by omega)]
 simp [Hc,Lib.join_nil]
 rw [if_pos (by simp; omega),Bg (by simp; omega),Aa,Bg (by simp; omega),Aa,if_neg l,AC (by omega)]
 rw [Dd,if_neg (by simp),List.take_of_length_le (by simp)]
 unfold PP
 cases P with
 | nil=>rfl
 | cons q P =>
  have u:(Hc ((q::P).map Qg))≠[]:=by
   have s:=QT (h q (List.mem_cons_self ..))
   unfold Hc
   rw [List.map_cons,Lib.join_cons]
   intro e
   have:=congrArg List.length e
   rw [Cy,List.length_nil] at this
   omega
  rw [if_neg (by simpa using u),if_neg (by simp)]
theorem TY{n:Int}(h:0≤n∧n≤1280):Kc n=some (O1 n):=by
 have h1:=HN (k:=2) (u:=n.toNat / 8) (by omega)
 have f:=HN (k:=0) (u:=n.toNat%8) (by omega)
 unfold Kc O1
 rw [Int.tdiv_eq_ediv_of_nonneg h.1,Int.tmod_eq_emod_of_nonneg h.1,AA (by omega) (by omega),Kq (by omega) (by omega),Aa,Aa,show (n / 8).toNat=n.toNat / 8 by omega]
 by_cases e:0<n.toNat%8
 rw [if_neg (by simp; omega),Kq (by omega) (by omega),show (n%8).toNat=n.toNat%8 by omega,Qp (by simp; omega),Aa,Aa,Qp (by simp; omega),Aa,if_pos e,List.append_assoc]
 rfl
 rw [if_pos (by simp; omega),if_neg e,List.append_nil]
theorem Z9{s:Int×Int}(h:Dk s=true):L2 s=some (R5 s):=by
 have g:=G6.1 h
 have e:=Nf (n:=s.1) (by omega)
 have f:=Nf (n:=s.2) (by omega)
 unfold L2
 rw [TY (by omega),Aa,Qp (by simp; omega),Aa,TY (by omega),Aa,Qp (by simp; omega),Aa]
 unfold R5
 rw [List.append_assoc]
 rfl
def QB(r:Int×Bool):List Ag:=if r.2=true then Lib.decDigits r.1.toNat else [110,111]
theorem PQ{r:Int×Bool}(h:0≤r.1)(e:r.1≤9223372036854775807):Gf r.1 r.2=some (QB r)∧Ge r.1 r.2=some (QB r):=by
 unfold Gf Ge NE QB
 rw [MV h e,Aa,if_neg (c:=decide (r.1<0)=true) (by simp; omega),Kq h e,Aa,Aa]
 cases r.2 <;> exact ⟨rfl,rfl⟩
def OZ(x:Hn)(c:Int):Int×Bool:=if BW c 0 (Uq x)=true then (Tw x c,true) else (0,false)
theorem ZL{x:Hn}(h:GQ x=true)(c:Int):LC x c=some (OZ x c):=by
 have e:=(Nl h).2.1
 unfold LC Bf OZ
 dsimp only
 rw [PN x (by omega),Aa,h,XC x (by omega),Aa,Df,Aa,ZJ x h]
 cases BW c 0 (Uq x) <;> rfl
theorem ZF{x:Hn}(h:GQ x=true)(c:Int):LB x c=some (OZ x c):=by
 have e:=(Nl h).2.1
 unfold LB MS Bf OZ
 dsimp only
 rw [Uc x (by omega),Aa,h,X9 x (by omega),Aa,Dg,Aa,Q6 x h]
 cases BW c 0 (Uq x) <;> rfl
theorem Aeb{x:Hn}(h:GQ x=true){c:Int}(h1:c≤99999):0≤(OZ x c).1∧(OZ x c).1≤720000:=by
 unfold OZ
 split
 rename_i e
 have f:=Eb.1 e
 exact Agk h f.1 (by omega)
 simp
abbrev Gd:=Akg×Akg×Int×Akg×(List BX)×(List IX)
abbrev SpT:=Akg×Akg×Int×Akg×(List BX)×(List IX)×(List Int)×(List Int)×Int
abbrev CtT:=(List Int)×(List Int)×Int
def Fi(s:Gd)(c:CtT):SpT:=(s.1,s.2.1,s.2.2.1,s.2.2.2.1,s.2.2.2.2.1,s.2.2.2.2.2,c.1,c.2.1,c.2.2)
structure KW (s:Gd):Prop where
 ch:C4 s.1=true
 ke:C4 s.2.1=true
 mu:GQ s.2.2.2.1=true
 ca:Gh s.2.2.2.2.1=true
 ve:Ib s.2.2.2.2.2=true
def RY(b:Bool):List Ag:=if b=true then [111,107] else [110,111]
theorem Ab5(b:Bool):J9 b=some (RY b):=by unfold J9 RY; cases b <;> rfl
theorem Ag0(b:Bool):Kg b=some (RY b):=by unfold Kg RY; cases b <;> rfl
def VM(s:Gd)(w:List Ag)(n:List Int)(F:Gd→List Ag→List Int→Ae (List Ag×Gd)):Prop :=
 ∃ ok s',KW s'∧(ok=false→s'=s)∧s'.2.2.2.2.1.length≤s.2.2.2.2.1.length+1∧F s w n=some (RY ok,s')∧∀ c,CB (Fi s c) w n=some (ok,Fi s' c)
theorem nl1{n:List Int}(h:n.length=1):∃ a,n=[a]:=by
 match n,h with
 | [a],_=>exact ⟨a,rfl⟩
theorem nl2{n:List Int}(h:n.length=2):∃ a b,n=[a,b]:=by
 match n,h with
 | [a,b],_=>exact ⟨a,b,rfl⟩
theorem nl3{n:List Int}(h:n.length=3):∃ a b c,n=[a,b,c]:=by
 match n,h with
 | [a,b,c],_=>exact ⟨a,b,c,rfl⟩
theorem nl4{n:List Int}(h:n.length=4):∃ a b c d,n=[a,b,c,d]:=by
 match n,h with
 | [a,b,c,d],_=>exact ⟨a,b,c,d,rfl⟩
theorem Ju{α:Type}(a:α)(l:List α):AG (a::l) 0=some a:=rfl
theorem O9{α:Type}(a b:α)(l:List α):AG (a::b::l) 1=some b:=rfl
theorem ix2{α:Type}(a b c:α)(l:List α):AG (a::b::c::l) 2=some c:=rfl
theorem ix3{α:Type}(a b c d:α)(l:List α):AG (a::b::c::d::l) 3=some d:=rfl
def Tt(s:Gd)(c:List (Int×Int)):Gd:=(c,s.2.1,s.2.2.1,s.2.2.2.1,s.2.2.2.2.1,s.2.2.2.2.2)
theorem Oa(s:Gd)(c:List (Int×Int))(b:Bool):Dz s c b=some (RY b,if b=true then Tt s c else s)∧∀ k,Ft (Fi s k) c b=some (b,Fi (if b=true then Tt s c else s) k):=by
 unfold Dz Ft Bf
 dsimp only
 simp only [Ab5,Aa]
 cases b
 exact ⟨rfl,fun _=>rfl⟩
 exact ⟨rfl,fun _=>rfl⟩
theorem Ad6{l:List (Int×Int)}(h:(Rn l).2=true):C4 (Rn l).1=true:=by
 unfold Rn at h ⊢
 split
 assumption
 rename_i e; rw [if_neg e] at h; cases h
theorem Ac1{l:List (Int×Int)}{p:Int}{a:Int×Int}(h:(MC l p a).2=true):C4 (MC l p a).1=true:=by
 unfold MC at h ⊢
 split
 rename_i e; rw [if_pos e] at h; exact Ad6 h
 rename_i e; rw [if_neg e] at h; cases h
theorem Aga{s:Gd}(h:KW s){r:List (Int×Int)×Bool}(f:r.2=true→C4 r.1=true):KW (if r.2=true then Tt s r.1 else s):=by
 split
 rename_i e; exact ⟨f e,h.ke,h.mu,h.ca,h.ve⟩
 exact h
theorem Ag1{s:Gd}(h:KW s){n:List Int}(f:n.length=2):VM s UX n BU:=by
 obtain ⟨a,b,rfl⟩:=nl2 f
 have g:=Dm h.ch
 refine ⟨(Rn (s.1++[(a,b)])).2,if (Rn (s.1++[(a,b)])).2=true then Tt s (Rn (s.1++[(a,b)])).1 else s,Aga h Ad6,(fun e=>by rw [e]; rfl),?_,?_,fun c=>?_⟩
 split <;> exact Nat.le_succ _
 unfold BU UX Fx
 dsimp only
 rw [if_pos (by rfl),Ju,Aa,O9,Aa,Bg (by simp; omega),Aa,List.nil_append,Bg (by simp; omega),Aa,Ui _ (by simp; omega),Aa,(Oa _ _ _).1,Aa]
 unfold CB UX Fx
 dsimp only
 rw [if_pos (by rfl),Ju,Aa,O9,Aa,show (Fi s c).1=s.1 by rfl,Pa _ (by omega),Aa,Bg (by simp; omega),Aa,Xg _ (by simp; omega),Aa,(Oa _ _ _).2,Aa]
theorem Afn{s:Gd}(h:KW s){n:List Int}(f:n.length=3):VM s S3 n BU:=by
 obtain ⟨p,a,b,rfl⟩:=nl3 f
 refine ⟨(MC s.1 p (a,b)).2,if (MC s.1 p (a,b)).2=true then Tt s (MC s.1 p (a,b)).1 else s,Aga h Ac1,(fun e=>by rw [e]; rfl),?_,?_,fun c=>?_⟩
 split <;> exact Nat.le_succ _
 unfold BU S3 Fx
 dsimp only
 rw [if_neg (by decide),if_pos (by rfl),Ju,Aa,O9,Aa,ix2,Aa,So h.ch,Aa,(Oa _ _ _).1,Aa]
 unfold CB S3 Fx
 dsimp only
 rw [if_neg (by decide),if_pos (by rfl),Ju,Aa,O9,Aa,ix2,Aa,show (Fi s c).1=s.1 by rfl,Sn h.ch,Aa,(Oa _ _ _).2,Aa]
theorem Ady{s:Gd}(h:KW s){n:List Int}:VM s QU n BU:=by
 refine ⟨true,Tt s (s.1.map OE),⟨Ah6 h.ch,h.ke,h.mu,h.ca,h.ve⟩,(fun e=>by cases e),Nat.le_succ _,?_,fun c=>?_⟩
 unfold BU QU Fx
 dsimp only
 rw [if_neg (by decide),if_neg (by decide),if_pos (by rfl),U4 h.ch,Aa,(Oa _ _ _).1,Aa]
 rfl
 unfold CB QU Fx
 dsimp only
 rw [if_neg (by decide),if_neg (by decide),if_pos (by rfl),show (Fi s c).1=s.1 by rfl,Ut h.ch,Aa,(Oa _ _ _).2,Aa]
 rfl
theorem Ag2{s:Gd}(h:KW s){n:List Int}:VM s UZ n BU:=by
 have f:=Dm h.ch
 refine ⟨true,(s.1,s.1,s.2.2.1,s.2.2.2.1,s.2.2.2.2.1,s.2.2.2.2.2),⟨h.ch,h.ch,h.mu,h.ca,h.ve⟩,(fun e=>by cases e),Nat.le_succ _,?_,fun c=>?_⟩
 unfold BU UZ
 rw [if_neg (by decide),if_neg (by decide),if_neg (by decide),if_pos (by rfl),Bg (by simp; omega),Aa]
 rfl
 unfold CB UZ Fx
 dsimp only
 rw [if_neg (by decide),if_neg (by decide),if_neg (by decide),if_pos (by rfl),show (Fi s c).1=s.1 by rfl,Pa _ (by omega),Aa]
 rfl
theorem Adz{s:Gd}(h:KW s){n:List Int}(f:n.length=1):VM s QV n BU:=by
 obtain ⟨a,rfl⟩:=nl1 f
 refine ⟨BW a 1 64,if BW a 1 64=true then (s.1,s.2.1,a,s.2.2.2.1,s.2.2.2.2.1,s.2.2.2.2.2) else s,?_,(fun e=>by rw [e]; rfl),?_,?_,fun c=>?_⟩
 split
 exact ⟨h.ch,h.ke,h.mu,h.ca,h.ve⟩
 exact h
 split <;> exact Nat.le_succ _
 unfold BU QV
 rw [if_neg (by decide),if_neg (by decide),if_neg (by decide),if_neg (by decide),Ju,Aa,Df,Aa,Aa]
 cases BW a 1 64 <;> rfl
 unfold CB QV Fx
 dsimp only
 rw [if_neg (by decide),if_neg (by decide),if_neg (by decide),if_neg (by decide),if_pos (by rfl),Ju,Aa,Dg,Aa,Aa]
 cases BW a 1 64 <;> rfl
theorem Abx{s:Gd}(h:KW s){n:List Int}(f:n.length=2):VM s Pz n CU:=by
 obtain ⟨a,b,rfl⟩:=nl2 f
 have g:=(Nl h.mu).2.1
 refine ⟨GQ (s.2.2.2.1++[(a,b)]),if GQ (s.2.2.2.1++[(a,b)])=true then (s.1,s.2.1,s.2.2.1,s.2.2.2.1++[(a,b)],s.2.2.2.2.1,s.2.2.2.2.2) else s,?_,(fun e=>by rw [e]; rfl),?_,?_,fun c=>?_⟩
 split
 rename_i e; exact ⟨h.ch,h.ke,e,h.ca,h.ve⟩
 exact h
 split <;> exact Nat.le_succ _
 unfold CU Pz Fx
 dsimp only
 rw [if_pos (by rfl),Ju,Aa,O9,Aa,Bg (by simp; omega),Aa,List.nil_append,Bg (by simp; omega),Aa,PN _ (by simp; omega),Aa]
 cases GQ (s.2.2.2.1++[(a,b)]) <;> rfl
 unfold CB Pz Fx
 dsimp only
 rw [if_neg (by decide),if_neg (by decide),if_neg (by decide),if_neg (by decide),if_neg (by decide),if_pos (by rfl),Ju,Aa,O9,Aa,show (Fi s c).2.2.2.1=s.2.2.2.1 by rfl,Bg (by simp; omega),Aa,List.nil_append,Bg (by simp; omega),Aa,Uc _ (by simp; omega),Aa]
 cases GQ (s.2.2.2.1++[(a,b)]) <;> rfl
theorem Abw{s:Gd}(h:KW s){n:List Int}(g:n.length=3):VM s Px n CU:=by
 obtain ⟨a,b,d,rfl⟩:=nl3 g
 have f:=NX h.ve
 refine ⟨(MI s.2.2.2.2.2 (a,b,d)).2,if (MI s.2.2.2.2.2 (a,b,d)).2=true then (s.1,s.2.1,s.2.2.1,s.2.2.2.1,s.2.2.2.2.1,(MI s.2.2.2.2.2 (a,b,d)).1) else s,?_,(fun e=>by rw [e]; rfl),?_,?_,fun c=>?_⟩
 split
 rename_i e
 refine ⟨h.ch,h.ke,h.mu,h.ca,?_⟩
 unfold MI at e ⊢
 dsimp only
 split
 assumption
 rename_i l; rw [if_neg l] at e; cases e
 exact h
 split <;> exact Nat.le_succ _
 unfold CU Px Bf
 dsimp only
 rw [if_neg (by decide),if_neg (by decide),Ju,Aa,O9,Aa,ix2,Aa,V9 h.ve f.2,Aa,Ab5,Aa,Aa]
 cases (MI s.2.2.2.2.2 (a,b,d)).2 <;> rfl
 unfold CB Px Fx
 dsimp only
 rw [if_neg (by decide),if_neg (by decide),if_neg (by decide),if_neg (by decide),if_neg (by decide),if_neg (by decide),if_neg (by decide),if_pos (by rfl),Ju,Aa,O9,Aa,ix2,Aa,show (Fi s c).2.2.2.2.2.1=s.2.2.2.2.2 by rfl,Vj h.ve f.2,Aa]
 cases (MI s.2.2.2.2.2 (a,b,d)).2 <;> rfl
def QX(n:List Int):Prop:=∀ x ∈ n,0≤x∧x≤99999
theorem Afo{s:Gd}(h:KW s)(ai:s.2.2.2.2.1.length≤39){n:List Int}(hn:n.length=4)(g:QX n):VM s S6 n CU:=by
 obtain ⟨a,b,d,e,rfl⟩:=nl4 hn
 have ah:=(HV.1 h.ca).1
 have u:∀ x ∈ s.2.2.2.2.1++[(a,b,d,e)],MD x:=by
  intro x f
  rcases AV.1 f with f|f
  exact W7 h.ca x f
  rw [List.mem_singleton] at f
  subst f
  have hb:=g b (by simp)
  have hd:=g d (by simp)
  exact ⟨hb,hd⟩
 obtain ⟨Z,v,z2,z3,z4⟩:=Aby (l:=s.2.2.2.2.1++[(a,b,d,e)]) (by simp; omega) u
 have m:=v.length_eq
 rw [Cy,List.length_singleton] at m
 refine ⟨Gh Z,if Gh Z=true then (s.1,s.2.1,s.2.2.1,s.2.2.2.1,Z,s.2.2.2.2.2) else s,?_,(fun e=>by rw [e]; rfl),?_,?_,fun c=>?_⟩
 split
 rename_i e; exact ⟨h.ch,h.ke,h.mu,e,h.ve⟩
 exact h
 split
 exact Nat.le_of_eq m
 exact Nat.le_succ _
 unfold CU S6 Fx
 dsimp only
 rw [if_neg (by decide),if_pos (by rfl),Ju,Aa,O9,Aa,ix2,Aa,ix3,Aa,Bg (by simp; omega),Aa,List.nil_append,Bg (by simp; omega),Aa,z2,Aa,z3,Aa]
 cases Gh Z <;> rfl
 unfold CB S6 Fx Sa
 dsimp only
 rw [if_neg (by decide),if_neg (by decide),if_neg (by decide),if_neg (by decide),if_neg (by decide),if_neg (by decide),if_pos (by rfl),Ju,Aa,O9,Aa,ix2,Aa,ix3,Aa,show (Fi s c).2.2.2.2.1=s.2.2.2.2.1 by rfl,Bg (by simp; omega),Aa,List.nil_append,Bg (by simp; omega),Aa,z4,Aa]
 cases Gh Z <;> rfl
def QQ(s:Gd)(w:List Ag)(n:List Int):Prop:=∃ r,r.length≤1000∧Cm s w n=some r∧∀ c,CG (Fi s c) w n=some r
theorem PI{r:Int×Bool}(h:0≤r.1)(e:r.1≤1000000000):(QB r).length≤1000:=by
 unfold QB
 split
 have:=HN (k:=9) (u:=r.1.toNat) (by omega)
 omega
 decide
theorem Afl(e:Int):Mu RZ e=([],false):=by
 unfold Mu
 rw [Ux]
 rfl
theorem Ae7(e:Int):N4 RZ e=(0,false):=by
 unfold N4
 rw [Ux]
 rfl
theorem Agn:NY RZ=(0,false):=by
 unfold NY
 rw [Ux]
 rfl
theorem Xt{a b:List (Int×Int)}{n:Int}(h:(EI a b n).2=false):(EI a b n).1=RZ:=by
 unfold EI at *
 split
 rename_i e; rw [if_pos e] at h; cases h
 rfl
theorem Adj{a b:List (Int×Int)}{n:Int}(h:(Gk a b n).2=false):(Gk a b n).1=RZ:=by
 unfold Gk at *
 split
 rename_i e; rw [if_pos e] at h; cases h
 rfl
theorem Ais{s:Gd}(h:KW s){n:List Int}:QQ s Yi n:=by
 have h1:=Dm h.ch
 have m:=Dm h.ke
 have e:=Adi s.2.1 s.1 s.2.2.1
 have f:=Ago (Gk s.2.1 s.1 s.2.2.1).1
 have g:=PQ (r:=NY (Gk s.2.1 s.1 s.2.2.1).1) f.1 (by omega)
 refine ⟨QB (NY (Gk s.2.1 s.1 s.2.2.1).1),PI f.1 (by omega),?_,fun c=>?_⟩
 unfold Cm Yi YR
 dsimp only
 rw [if_pos (by rfl),RF (by omega) (by omega),Aa,show ((Gk s.2.1 s.1 s.2.2.1).1.1,(Gk s.2.1 s.1 s.2.2.1).1.2.1,(Gk s.2.1 s.1 s.2.2.1).1.2.2.1,(Gk s.2.1 s.1 s.2.2.1).1.2.2.2)=(Gk s.2.1 s.1 s.2.2.1).1 by rfl,e.sum.1,Aa,g.1,Aa]
 unfold CG Yi jK5
 dsimp only
 rw [if_pos (by rfl),show (Fi s c).1=s.1 by rfl,show (Fi s c).2.1=s.2.1 by rfl,show (Fi s c).2.2.1=s.2.2.1 by rfl,R7 (by omega) (by omega),Aa,show ((Gk s.2.1 s.1 s.2.2.1).1.1,(Gk s.2.1 s.1 s.2.2.1).1.2.1,(Gk s.2.1 s.1 s.2.2.1).1.2.2.1,(Gk s.2.1 s.1 s.2.2.1).1.2.2.2)=(Gk s.2.1 s.1 s.2.2.1).1 by rfl]
 cases l:(Gk s.2.1 s.1 s.2.2.1).2 with
 | true=>rw [if_neg (by simp),e.sum.2,Aa,g.2,Aa]
 | false =>
  rw [if_pos (by rfl),Adj l,Agn]
  rfl
theorem Abq{t:Ci}(h:SmT t)(e:Int):(∀ q ∈ (Mu t e).1,PH q)∧(Mu t e).1.length≤144:=by
 have:=h.h1
 unfold Mu
 split
 refine ⟨fun q f=>?_,?_⟩
 obtain ⟨i,k,h1,g,m,l,_⟩:=Ac8 f
 exact ⟨i,k,h1,by omega,by omega⟩
 have h1:=SJ (cfB t e) t.1.length t.1.length
 have g:t.1.length*t.1.length≤12*12:=Nat.mul_le_mul this this
 dsimp only
 omega
 exact ⟨(fun q f=>by cases f),by simp⟩
theorem Abu{P:List (List Int)}(h:∀ q ∈ P,PH q)(g:P.length≤144):(PP P).length≤1000:=by
 unfold PP
 split
 decide
 have:=SN (B:=5) (P.map Qg) (fun w e=>by
  obtain ⟨q,f,rfl⟩:=List.mem_map.1 e
  exact (QT (h q f)).2)
 rw [List.length_map] at this
 omega
theorem Afw{s:Gd}(h:KW s){n:List Int}(l:n.length=1):QQ s S5 n:=by
 obtain ⟨a,rfl⟩:=nl1 l
 have h1:=Dm h.ch
 have u:=Dm h.ke
 have f:=Xs s.2.1 s.1 s.2.2.1
 obtain ⟨e,g⟩:=Abq f a
 refine ⟨if (Mu (EI s.2.1 s.1 s.2.2.1).1 a).2=true then PP (Mu (EI s.2.1 s.1 s.2.2.1).1 a).1 else [110,111],?_,?_,fun c=>?_⟩
 split
 exact Abu e g
 decide
 unfold Cm S5 H1 YR
 dsimp only
 rw [if_neg (by decide),if_pos (by rfl),Ju,Aa,N7 (by omega) (by omega),Aa,show ((EI s.2.1 s.1 s.2.2.1).1.1,(EI s.2.1 s.1 s.2.2.1).1.2.1,(EI s.2.1 s.1 s.2.2.1).1.2.2.1,(EI s.2.1 s.1 s.2.2.1).1.2.2.2)=(EI s.2.1 s.1 s.2.2.1).1 by rfl,SS f,Aa]
 generalize Mu (EI s.2.1 s.1 s.2.2.1).1 a=r at *
 obtain ⟨P,b⟩:=r
 cases b with
 | false=>rfl
 | true =>
  dsimp only at e g ⊢
  rw [if_neg (by simp),if_pos rfl]
  unfold PP
  cases P with
  | nil=>rfl
  | cons q P =>
   rw [if_neg (by simp; omega),Abt e (by omega),Aa,if_neg (by simp)]
 unfold CG S5 Ia Fp Bf
 dsimp only
 rw [if_neg (by decide),if_pos (by rfl),Ju,Aa,show (Fi s c).1=s.1 by rfl,show (Fi s c).2.1=s.2.1 by rfl,show (Fi s c).2.2.1=s.2.2.1 by rfl,Nt (by omega) (by omega),Aa,Aa,SB f,Aa]
 cases m:(EI s.2.1 s.1 s.2.2.1).2 with
 | false =>
  rw [Xt m,Afl]
  rfl
 | true =>
  generalize Mu (EI s.2.1 s.1 s.2.2.1).1 a=r at *
  obtain ⟨P,b⟩:=r
  cases b with
  | false=>rfl
  | true =>
   dsimp only at e g ⊢
   rw [if_neg (by simp),if_neg (by simp),Abs e (by omega),Aa,if_pos rfl]
theorem Aha{s:Gd}(h:KW s){n:List Int}(l:n.length=1):QQ s UY n:=by
 obtain ⟨a,rfl⟩:=nl1 l
 have h1:=Dm h.ch
 have u:=Dm h.ke
 have e:=Xs s.2.1 s.1 s.2.2.1
 have f:=Ae8 (EI s.2.1 s.1 s.2.2.1).1 a
 have g:=PQ (r:=N4 (EI s.2.1 s.1 s.2.2.1).1 a) f.1 (by omega)
 refine ⟨QB (N4 (EI s.2.1 s.1 s.2.2.1).1 a),PI f.1 (by omega),?_,fun c=>?_⟩
 unfold Cm UY YR
 dsimp only
 rw [if_neg (by decide),if_neg (by decide),if_pos (by rfl),N7 (by omega) (by omega),Aa,Ju,Aa,show ((EI s.2.1 s.1 s.2.2.1).1.1,(EI s.2.1 s.1 s.2.2.1).1.2.1,(EI s.2.1 s.1 s.2.2.1).1.2.2.1,(EI s.2.1 s.1 s.2.2.1).1.2.2.2)=(EI s.2.1 s.1 s.2.2.1).1 by rfl,V8 e,Aa,g.1,Aa]
 unfold CG UY Fp
 rw [if_neg (by decide),if_neg (by decide),if_pos (by rfl),show (Fi s c).1=s.1 by rfl,show (Fi s c).2.1=s.2.1 by rfl,show (Fi s c).2.2.1=s.2.2.1 by rfl,Nt (by omega) (by omega),Aa,Aa,Ju,Aa]
 cases m:(EI s.2.1 s.1 s.2.2.1).2 with
 | true=>rw [if_neg (by simp),Vg e,Aa,g.2,Aa]
 | false =>
  rw [if_pos (by rfl),Xt m,Ae7]
  rfl
theorem Afv{s:Gd}(h:KW s){n:List Int}:QQ s S4 n:=by
 obtain ⟨g,l,e,m⟩:=UC h.ch
 have f:=PQ (r:=O8 s.1) e (by omega)
 refine ⟨QB (O8 s.1),PI e (by omega),?_,fun c=>?_⟩
 unfold Cm S4
 rw [if_neg (by decide),if_neg (by decide),if_neg (by decide),if_pos (by rfl),g,Aa,f.1,Aa]
 unfold CG S4
 rw [if_neg (by decide),if_neg (by decide),if_neg (by decide),if_pos (by rfl),show (Fi s c).1=s.1 by rfl,l,Aa,f.2,Aa]
theorem Ag8{s:Gd}(h:KW s){n:List Int}(m:n.length=1)(l:QX n):QQ s UV n:=by
 obtain ⟨a,rfl⟩:=nl1 m
 have g:=l a (by simp)
 have e:=Aeb h.mu (c:=a) g.2
 have f:=PQ (r:=OZ s.2.2.2.1 a) e.1 (by omega)
 refine ⟨QB (OZ s.2.2.2.1 a),PI e.1 (by omega),?_,fun c=>?_⟩
 unfold Cm UV
 rw [if_neg (by decide),if_neg (by decide),if_neg (by decide),if_neg (by decide),if_neg (by decide),if_neg (by decide),if_pos (by rfl),Ju,Aa,ZL h.mu,Aa,f.1,Aa]
 unfold CG UV
 rw [if_neg (by decide),if_neg (by decide),if_neg (by decide),if_neg (by decide),if_pos (by rfl),Ju,Aa,show (Fi s c).2.2.2.1=s.2.2.2.1 by rfl,ZF h.mu,Aa,f.2,Aa]
theorem Air{s:Gd}(h:KW s){n:List Int}(f:n.length=2):QQ s Yh n:=by
 obtain ⟨a,b,rfl⟩:=nl2 f
 have e:=Agh h.ca a b
 refine ⟨if (OD s.2.2.2.2.1 a b).2=true then Lib.decDigits (OD s.2.2.2.2.1 a b).1.toNat else [110,111,110,101],?_,?_,fun c=>?_⟩
 split
 have:=HN (k:=1) (u:=(OD s.2.2.2.2.1 a b).1.toNat) (by omega)
 omega
 decide
 unfold Cm Yh
 rw [if_neg (by decide),if_neg (by decide),if_neg (by decide),if_neg (by decide),if_neg (by decide),if_neg (by decide),if_neg (by decide),if_pos (by rfl),Ju,Aa,O9,Aa,Wr h.ca,Aa,MV e.1 (by omega),Aa]
 cases (OD s.2.2.2.2.1 a b).2 <;> rfl
 unfold CG Yh
 rw [if_neg (by decide),if_neg (by decide),if_neg (by decide),if_neg (by decide),if_neg (by decide),if_pos (by rfl),Ju,Aa,O9,Aa,show (Fi s c).2.2.2.2.1=s.2.2.2.2.1 by rfl,Wd h.ca,Aa,Kq e.1 (by omega),Aa]
 cases (OD s.2.2.2.2.1 a b).2 <;> rfl
theorem Aft{s:Gd}(h:KW s){n:List Int}(f:n.length=1):QQ s S0 n:=by
 obtain ⟨a,rfl⟩:=nl1 f
 obtain ⟨⟨z,b⟩,m,u,e⟩:=Zk h.ve a
 refine ⟨if b=true then Hc (z.map NQ) else [110,111],?_,?_,fun c=>?_⟩
 split
 rename_i g
 obtain ⟨l,g⟩:=e g
 have:=SN (B:=3) (z.map NQ) (fun w v=>by
  obtain ⟨n,f,rfl⟩:=List.mem_map.1 v
  exact Tu (g n f).2)
 rw [List.length_map] at this
 dsimp only at l
 omega
 decide
 unfold Cm S0 Gi
 rw [if_neg (by decide),if_neg (by decide),if_neg (by decide),if_neg (by decide),if_neg (by decide),if_neg (by decide),if_neg (by decide),if_neg (by decide),Ju,Aa,m,Aa]
 cases b with
 | false=>rfl
 | true =>
  rw [if_neg (by simp),X7 (e rfl),Aa]
  rfl
 unfold CG S0
 rw [if_neg (by decide),if_neg (by decide),if_neg (by decide),if_neg (by decide),if_neg (by decide),if_neg (by decide),if_pos (by rfl),Ju,Aa,show (Fi s c).2.2.2.2.2.1=s.2.2.2.2.2 by rfl,u,Aa]
 cases b with
 | false=>rfl
 | true =>
  rw [if_neg (by simp),ZN (e rfl),Aa]
  rfl
theorem Ag9{s:Gd}(h:KW s){n:List Int}(u:n.length=1)(l:QX n):QQ s UW n:=by
 obtain ⟨a,rfl⟩:=nl1 u
 have f:=l a (by simp)
 have h1:=Dm h.ch
 refine ⟨if (s.1.length:Int)≤a then [110,111] else R5 (E0 s.1 a.toNat),?_,?_,fun c=>?_⟩
 split
 decide
 have:=Acd (JC h.ch (i:=a.toNat) (by omega))
 omega
 unfold Cm UW
 rw [if_neg (by decide),if_neg (by decide),if_neg (by decide),if_neg (by decide),if_pos (by rfl),Ju,Aa,Aa]
 by_cases e:(s.1.length:Int)≤a
 rw [if_pos (decide_eq_true e),if_pos e]
 rw [if_neg (by simpa using e),if_neg e,Il f.1,D9 (by omega),Aa,XD (JC h.ch (by omega)),Aa]
 unfold CG UW
 rw [if_neg (by decide),if_neg (by decide),if_neg (by decide),if_neg (by decide),if_neg (by decide),if_neg (by decide),if_neg (by decide)]
 obtain ⟨m,g⟩:∃ m,FU=m+2:=⟨FU-2,rfl⟩
 rw [g,CM,if_pos (by simp),Ju,Aa,show (Fi s c).1=s.1 by rfl]
 by_cases e:(s.1.length:Int)≤a
 rw [if_pos (decide_eq_true e),if_pos e]
 rw [if_neg (by simpa using e),if_neg e,show Ah (0+1)=1 by decide,CM,if_neg (by simp),if_pos (by rfl),Ju,Aa,show (Fi s c).1=s.1 by rfl,Il f.1,D9 (by omega),Aa,Z9 (JC h.ch (by omega)),Aa]
theorem Afu{s:Gd}(h:KW s){n:List Int}(hn:n.length=2)(u:QX n):QQ s Py n:=by
 obtain ⟨a,b,rfl⟩:=nl2 hn
 have l:=u a (by simp)
 have v:=u b (by simp)
 have h1:=Dm h.ch
 by_cases e:(s.1.length:Int)≤Gj a b
 have ai:(s.1.length:Int)≤a∨(s.1.length:Int)≤b:=by unfold Gj at e; split at e <;> omega
 refine ⟨[110,111],by decide,?_,fun c=>?_⟩
 unfold Cm Py
 rw [if_neg (by decide),if_neg (by decide),if_neg (by decide),if_neg (by decide),if_neg (by decide),if_pos (by rfl),Ju,Aa,O9,Aa,if_pos (decide_eq_true e)]
 unfold CG Py
 rw [if_neg (by decide),if_neg (by decide),if_neg (by decide),if_neg (by decide),if_neg (by decide),if_neg (by decide),if_neg (by decide)]
 obtain ⟨m,g⟩:∃ m,FU=m+3:=⟨FU-3,rfl⟩
 rw [g,CM,if_pos (by simp),Ju,Aa,show (Fi s c).1=s.1 by rfl]
 by_cases f:(s.1.length:Int)≤a
 rw [if_pos (decide_eq_true f)]
 rw [if_neg (by simpa using f),show Ah (0+1)=1 by decide,CM,if_pos (by simp),O9,Aa,show (Fi s c).1=s.1 by rfl,if_pos (decide_eq_true (by omega))]
 have f:¬ (s.1.length:Int)≤a:=by unfold Gj at e; split at e <;> omega
 have ad:¬ (s.1.length:Int)≤b:=by unfold Gj at e; split at e <;> omega
 obtain ⟨e1,e2,b1,b2⟩:=WA (JC h.ch (i:=a.toNat) (by omega)) (JC h.ch (i:=b.toNat) (by omega))
 have nb:=PQ (r:=P4 (E0 s.1 a.toNat) (E0 s.1 b.toNat)) b1 (by omega)
 refine ⟨QB (P4 (E0 s.1 a.toNat) (E0 s.1 b.toNat)),PI b1 (by omega),?_,fun c=>?_⟩
 unfold Cm Py
 rw [if_neg (by decide),if_neg (by decide),if_neg (by decide),if_neg (by decide),if_neg (by decide),if_pos (by rfl),Ju,Aa,O9,Aa,if_neg (by simpa using e),Aa,Il l.1,D9 (by omega),Aa,Aa,Il v.1,D9 (by omega),Aa,e1,Aa,nb.1,Aa]
 unfold CG Py
 rw [if_neg (by decide),if_neg (by decide),if_neg (by decide),if_neg (by decide),if_neg (by decide),if_neg (by decide),if_neg (by decide)]
 obtain ⟨m,g⟩:∃ m,FU=m+3:=⟨FU-3,rfl⟩
 rw [g,CM,if_pos (by simp),Ju,Aa,show (Fi s c).1=s.1 by rfl,if_neg (by simpa using f),show Ah (0+1)=1 by decide,CM,if_pos (by simp),O9,Aa,show (Fi s c).1=s.1 by rfl,if_neg (by simpa using ad),show Ah (1+1)=2 by decide,CM,if_neg (by simp),if_neg (by decide),Ju,Aa,show (Fi s c).1=s.1 by rfl,Il l.1,D9 (by omega),Aa,O9,Aa,Il v.1,D9 (by omega),Aa,e2,Aa,nb.2,Aa]
structure VJ (s:Gd) (l:List Ag) (r:List Ag) (s':Gd):Prop where
 ok:KW s'
 len:r.length≤1000
 car:s'.2.2.2.2.1.length≤s.2.2.2.2.1.length+1
 im:DH s l=some (r,s')
 sp:∀ c,E6 (Fi s c) l=some (r,Fi s' c)
 no:r=[110,111]∨r=[119,104,97,116]→s'=s
theorem Aeg(c:Ag)(l:List Ag):∃ w e,CP c l=w::e:=by
 cases h:CP c l with
 | nil=>have:=I4 c l; rw [h] at this; simp at this
 | cons w e=>exact ⟨w,e,rfl⟩
theorem Ah3{b:Bool}(h:RY b=[110,111]∨RY b=[119,104,97,116]):b=false:=by
 cases b with
 | false=>rfl
 | true=>rcases h with h|h <;> exact absurd h (by decide)
theorem Ace(c:Ag):∀(m:List Ag),∀ b ∈ CP c m,b.length≤m.length:=by
 intro m
 induction m with
 | nil=>intro b e; simp [CP] at e; simp [e]
 | cons x m f =>
  intro b e
  rw [CP] at e
  split at e
  rcases List.mem_cons.1 e with rfl|e
  simp
  have:=f b e; simp; omega
  cases g:CP c m with
  | nil=>have:=I4 c m; rw [g] at this; simp at this
  | cons a t =>
   rw [g] at e f
   rcases List.mem_cons.1 e with rfl|e
   have:=f a (List.mem_cons_self ..); simp; omega
   have:=f b (List.mem_cons_of_mem _ e); simp; omega
theorem Aay{s:Gd}(h:KW s)(u:s.2.2.2.2.1.length≤39){w:List Ag}{f:List Int}(g:QX f)(m:QK w=(f.length:Int)) :
  (∃ F,VM s w f F∧(w ∈ JZ∧F=BU∨w ∈ QL∧F=CU))∨(w ∈ Nd∧QQ s w f):=by
 have l:=Ae6 (w:=w) (by rw [m]; omega)
 have len:∀ k:Nat,QK w=(k:Int)→f.length=k:=fun k e=>by rw [e] at m; omega
 simp only [JZ,QL,Nd,List.cons_append,List.nil_append,List.mem_cons,List.not_mem_nil,or_false] at l
 rcases l with rfl|rfl|rfl|rfl|rfl|rfl|rfl|rfl|rfl|rfl|rfl|rfl|rfl|rfl|rfl|rfl|rfl
 exact .inl ⟨_,Ag1 h (len 2 rfl),.inl ⟨by simp [JZ],rfl⟩⟩
 exact .inl ⟨_,Afn h (len 3 rfl),.inl ⟨by simp [JZ],rfl⟩⟩
 exact .inl ⟨_,Ady h,.inl ⟨by simp [JZ],rfl⟩⟩
 exact .inl ⟨_,Ag2 h,.inl ⟨by simp [JZ],rfl⟩⟩
 exact .inl ⟨_,Adz h (len 1 rfl),.inl ⟨by simp [JZ],rfl⟩⟩
 exact .inl ⟨_,Abx h (len 2 rfl),.inr ⟨by simp [QL],rfl⟩⟩
 exact .inl ⟨_,Afo h u (len 4 rfl) g,.inr ⟨by simp [QL],rfl⟩⟩
 exact .inl ⟨_,Abw h (len 3 rfl),.inr ⟨by simp [QL],rfl⟩⟩
 exact .inr ⟨by simp [Nd],Ais h⟩
 exact .inr ⟨by simp [Nd],Afw h (len 1 rfl)⟩
 exact .inr ⟨by simp [Nd],Aha h (len 1 rfl)⟩
 exact .inr ⟨by simp [Nd],Afv h⟩
 exact .inr ⟨by simp [Nd],Ag8 h (len 1 rfl) g⟩
 exact .inr ⟨by simp [Nd],Air h (len 2 rfl)⟩
 exact .inr ⟨by simp [Nd],Aft h (len 1 rfl)⟩
 exact .inr ⟨by simp [Nd],Ag9 h (len 1 rfl) g⟩
 exact .inr ⟨by simp [Nd],Afu h (len 2 rfl) g⟩
theorem Aeu{g:List (List Ag)}{f:List Int}(h:JV Ra g=some f):QX f:=by
 refine YL (fun x y e=>?_) h
 unfold Ra at e
 split at e
 rename_i l
 cases e
 exact Eb.1 l
 cases e
theorem Ael(s:Gd)(w:List Ag){f:List (List Ag)}(hl:f.length≤2000)(hm:∀ a ∈ f,a.length≤2000):Ce f s w FU [] 0=match JV Ra f with
  | none=>some ([119,104,97,116],s)
  | some l=>Ce f s w 1 l (f.length:Int):=by
 refine (XY (Ce f s w) f Ra (fun l=>Ce f s w 1 l (f.length:Int)) (some ([119,104,97,116],s)) (by omega) (fun m k aa x g ha=>?_) (fun m aa ha=>?_)).trans (by cases JV Ra f <;> rfl)
 have hk:=(List.getElem?_eq_some_iff.1 g).1
 have ag:=hm x (List.mem_of_getElem? g)
 rw [Ce,if_pos (by simp; omega),AY,g,Aa,YS x (by omega),Aa,AC (by omega)]
 unfold Bf Ra
 dsimp only
 cases v:BW (Ms x) 0 99999 with
 | true =>
  obtain ⟨e,u⟩:=ZI v
  rw [e,if_neg (by simp),if_neg (by simp; omega),Bg (by simp; omega),Aa,if_pos rfl]
 | false =>
  rw [if_neg (c:=false=true) (by simp)]
  cases hb:(Nz x).2 with
  | false=>rw [if_pos (by rfl),if_pos rfl]
  | true =>
   have u:99999<(Nz x).1:=by
    rcases YF v with h|h
    rw [hb] at h; cases h
    exact h
   rw [if_neg (by simp),if_pos (decide_eq_true u)]
 rw [Ce,Ce,if_neg (by simp),if_neg (by simp)]
theorem Adh(x:SpT)(u:List (List Ag)){e:List (List Ag)}(hl:e.length≤2000)(s:∀ a ∈ e,a.length≤2000):Cd e x u FU [] 0=match JV Ra e with
  | none=>some ([119,104,97,116],x)
  | some g=>Cd e x u 1 g (e.length:Int):=by
 refine (XY (Cd e x u) e Ra (fun g=>Cd e x u 1 g (e.length:Int)) (some ([119,104,97,116],x)) (by omega) (fun m k h y f l=>?_) (fun m h l=>?_)).trans (by cases JV Ra e <;> rfl)
 have v:=(List.getElem?_eq_some_iff.1 f).1
 have aa:=s y (List.mem_of_getElem? f)
 rw [Cd,if_pos (by simp; omega),AY,f,Aa,Adk y (by omega),Aa,Dg,Aa,AC (by omega),Bg (by simp; omega),Aa]
 unfold Ra
 cases BW (Ms y) 0 99999 <;> rfl
 rw [Cd,Cd,if_neg (by simp),if_neg (by simp)]
theorem SL{s:Gd}(h:KW s)(a1:s.2.2.2.2.1.length≤39){l:List Ag}(hl:l.length≤2000):∃ r s',VJ s l r s':=by
 obtain ⟨w,f,ah⟩:=Aeg 32 l
 have ap:f.length≤2000:=by
  have h1:=I4 32 l
  have h2:l.count 32≤l.length:=List.count_le_length
  rw [ah,List.length_cons] at h1
  omega
 have an:∀ a ∈ f,a.length≤2000:=fun a ha=>by
  have:=Ace 32 l a (by rw [ah]; exact List.mem_cons_of_mem _ ha)
  omega
 have az:Ff l [32]=some (w::f):=by rw [← ah]; exact ZW l 32 (by omega)
 have a0:E3 l 32=some (w::f):=by rw [← ah]; exact Vf l 32 (by omega)
 have aw:sl (w::f) 1 (((w::f).length:Nat):Int)=some f:=SD (w::f) (k:=1) (by simp)
 have im:DH s l=match JV Ra f with
  | none=>some ([119,104,97,116],s)
  | some m=>Ce f s w 1 m (f.length:Int):=by
  unfold DH
  rw [az,Aa,Ju,Aa,aw,Aa,Ael s w ap an]
 have sp:∀ c,E6 (Fi s c) l=if (f.length:Int)≠QK w then some ([119,104,97,116],Fi s c) else match JV Ra f with
  | none=>some ([119,104,97,116],Fi s c)
  | some m=>Cd f (Fi s c) (w::f) 1 m (f.length:Int):=by
  intro c
  unfold E6
  rw [a0,Aa,Ju,Aa,VA,Aa,aw,Aa,Adh _ _ ap an,AA (by rw [List.length_cons]; omega) (by rw [List.length_cons]; omega),show (((w::f).length:Nat):Int)-1=(f.length:Int) by simp]
  by_cases e:(f.length:Int)=QK w
  rw [if_neg (by simpa using e),if_neg (by simpa using e)]
  rw [if_pos (by simpa using e),if_pos e]
 have av:(∀ c,E6 (Fi s c) l=some ([119,104,97,116],Fi s c))→DH s l=some ([119,104,97,116],s)→∃ r s',VJ s l r s':=fun a b=>⟨_,s,h,by decide,Nat.le_succ _,b,a,fun _=>rfl⟩
 cases ad:JV Ra f with
 | none =>
  rw [ad] at im
  refine av (fun c=>?_) im
  rw [sp c,ad]
  split <;> rfl
 | some m =>
  have ar:=YM ad
  rw [ad] at im
  dsimp only at im
  rw [Ce,if_neg (by simp),VX,Aa] at im
  by_cases hc:QK w=(m.length:Int)
  rw [if_neg (by simp [hc])] at im
  have au:∀ c,E6 (Fi s c) l=Cd f (Fi s c) (w::f) 1 m (f.length:Int):=fun c=>by
   rw [sp c,if_neg (by rw [hc,ar]; simp),ad]
  rcases Aay h a1 (Aeu ad) hc with ⟨F,⟨ok,s',g1,g2,g3,g4,g5⟩,hF⟩|⟨g,r,g1,g2,g3⟩
  refine ⟨RY ok,s',g1,by cases ok <;> decide,g3,?_,fun c=>?_,fun e=>g2 (Ah3 e)⟩
  rw [im]
  rcases hF with ⟨g,rfl⟩|⟨g,rfl⟩
  simp only [JZ,List.mem_cons,List.not_mem_nil,or_false] at g
  have ab:(Option.bind (BU s w m) fun u=>some (u.1,u.2))=some (RY ok,s'):=by rw [g4]; rfl
  rcases g with rfl|rfl|rfl|rfl|rfl <;> exact ab
  simp only [QL,List.mem_cons,List.not_mem_nil,or_false] at g
  have ab:(Option.bind (CU s w m) fun u=>some (u.1,u.2))=some (RY ok,s'):=by rw [g4]; rfl
  rcases g with rfl|rfl|rfl <;> exact ab
  rw [au c,Cd,if_neg (by simp)]
  have ab:(Option.bind (CB (Fi s c) w m) fun u=>Option.bind (Kg u.1) fun v=>some (v,u.2))=some (RY ok,Fi s' c):=by rw [g5,Aa,Ag0]; rfl
  have am:w ∈ JZ++QL:=by
   rcases hF with ⟨g,_⟩|⟨g,_⟩
   exact Ax _ g
   exact Bm _ g
  simp only [JZ,QL,List.cons_append,List.nil_append,List.mem_cons,List.not_mem_nil,or_false] at am
  rcases am with rfl|rfl|rfl|rfl|rfl|rfl|rfl|rfl <;> exact ab
  refine ⟨r,s,h,g1,Nat.le_succ _,?_,fun c=>?_,fun _=>rfl⟩
  rw [im]
  have ab:(Option.bind (Cm s w m) fun u=>some (u,s))=some (r,s):=by rw [g2]; rfl
  simp only [Nd,List.mem_cons,List.not_mem_nil,or_false] at g
  rcases g with rfl|rfl|rfl|rfl|rfl|rfl|rfl|rfl|rfl <;> exact ab
  rw [au c,Cd,if_neg (by simp)]
  have ab:(Option.bind (CG (Fi s c) w m) fun u=>some (u,Fi s c))=some (r,Fi s c):=by rw [g3]; rfl
  simp only [Nd,List.mem_cons,List.not_mem_nil,or_false] at g
  rcases g with rfl|rfl|rfl|rfl|rfl|rfl|rfl|rfl|rfl <;> exact ab
  rw [if_pos (by simpa using fun e=>hc e.symm)] at im
  refine av (fun c=>?_) im
  rw [sp c,if_pos (by rw [← ar]; exact fun e=>hc e.symm)]
def JP(s:Gd)(l:List Ag):List Ag×Gd:=(DH s l).getD ([],s)
def JW(s:Gd):List (List Ag)→Gd
 | []=>s
 | l::ls=>JW (JP s l).2 ls
def H4(s:Gd):List (List Ag)→List (List Ag)
 | []=>[]
 | l::ls=>(JP s l).1::H4 (JP s l).2 ls
theorem Qu(l:List Ag):∀(e:List (List Ag))(s:Gd),JW s (e++[l])=(JP (JW s e) l).2
 | [],s=>rfl
 | a::e,s=>Qu l e (JP s a).2
theorem SE(l:List Ag):∀(e:List (List Ag))(s:Gd),H4 s (e++[l])=H4 s e++[(JP (JW s e) l).1]
 | [],s=>rfl
 | a::e,s=>by rw [List.cons_append,H4,SE l e,H4,JW]; rfl
theorem P7:∀(e:List (List Ag))(s:Gd),(H4 s e).length=e.length
 | [],s=>rfl
 | a::e,s=>by rw [H4,List.length_cons,P7 e,List.length_cons]
def Ln:Gd:=([(0,0)],[(0,0)],8,[(4,120)],[],[((-1),0,0)])
theorem Acc:KW Ln:=⟨by decide,by decide,by decide,by decide,by decide⟩
theorem Wa{s:Gd}{l r:List Ag}{e:Gd}(h:VJ s l r e):JP s l=(r,e):=by unfold JP; rw [h.im]; rfl
structure Aj1 (ls:List (List Ag)) (k:Nat):Prop where
 ok:KW (JW Ln (ls.take k))
 car:(JW Ln (ls.take k)).2.2.2.2.1.length≤k
 rep:∀ r ∈ H4 Ln (ls.take k),r.length≤1000
theorem Kp{α:Type}(l:List α){k:Nat}(h:k<l.length):l.take (k+1)=l.take k++[l[k]]:=List.take_succ_eq_append_getElem h
theorem O5{l:List (List Ag)}(u:l.length≤40)(s:∀ a ∈ l,a.length≤2000):∀ k,k≤l.length→Aj1 l k
 | 0,_=>⟨Acc,Nat.le_refl _,fun r v=>by cases v⟩
 | k+1,h=>by
  have f:=O5 u s k (by omega)
  have hc:=f.car
  obtain ⟨r,s',g⟩:=SL f.ok (by omega) (s l[k] (List.getElem_mem _))
  have e:=Wa g
  refine ⟨?_,?_,?_⟩
  rw [Kp l (by omega),Qu,e]; exact g.ok
  rw [Kp l (by omega),Qu,e]; exact Az g.car (by omega)
  rw [Kp l (by omega),SE,e]
  intro x m
  rcases AV.1 m with m|m
  exact f.rep x m
  rw [List.mem_singleton] at m; rw [m]; exact g.len
theorem Y4{e:List (List Ag)}(m:e.length≤40)(h:∀ a ∈ e,a.length≤2000){k:Nat}(l:k<e.length):VJ (JW Ln (e.take k)) e[k] (JP (JW Ln (e.take k)) e[k]).1 (JW Ln (e.take (k+1))):=by
 have f:=O5 m h k (by omega)
 have u:=f.car
 obtain ⟨r,s,g⟩:=SL f.ok (by omega) (h e[k] (List.getElem_mem _))
 rw [Kp e l,Qu,Wa g]
 exact g
theorem Xo(e:List (List Ag)){k:Nat}(f:k<e.length):H4 Ln (e.take (k+1))=H4 Ln (e.take k)++[(JP (JW Ln (e.take k)) e[k]).1]:=by rw [Kp e f,SE]
def D6(p:List Ag→Bool)(rs:List (List Ag)):List Int:=((List.range rs.length).filter fun i=>p ((rs[i]?).getD [])).map fun (i:Nat)=>(i:Int)+1
theorem ST(p:List Ag→Bool)(rs:List (List Ag))(r:List Ag):D6 p (rs++[r])=D6 p rs++if p r=true then [(rs.length:Int)+1] else []:=by
 unfold D6
 rw [Cy,List.length_singleton,List.range_succ,List.filter_append,List.map_append]
 have f:(List.range rs.length).filter (fun i=>p (((rs++[r])[i]?).getD []))=(List.range rs.length).filter fun i=>p ((rs[i]?).getD []):=by
  refine List.filter_congr fun i h=>?_
  rw [List.getElem?_append_left (List.mem_range.1 h)]
 rw [f,List.filter_cons]
 have e:(rs++[r])[rs.length]? = some r:=by simp
 rw [e]
 cases g:p r <;> simp [g]
def KU(r:List Ag):Bool:=r==[110,111]
def Ko(r:List Ag):Bool:=r==[119,104,97,116]
theorem Im(p:List Ag→Bool)(rs:List (List Ag)):(D6 p rs).length≤rs.length:=by
 unfold D6
 rw [List.length_map]
 exact Az (List.length_filter_le _ _) (by simp)
structure Aj0 (l:List Ag):Prop where
 n40:(Cx l).length≤40
 each:∀ a ∈ Cx l,a.length≤2000
theorem O3{l:List Ag}(h:BH l=true):Aj0 l:=by
 obtain ⟨h1,g,e⟩:=E4.1 h
 exact ⟨by rw [Pc g]; exact e,fun a f=>Az (Abf f) h1⟩
def PO(l:List Ag):Gd:=JW Ln (Cx l)
def EW(l:List Ag):List (List Ag):=H4 Ln (Cx l)
theorem QZ{l:List Ag}(h:BH l=true):(EW l).length≤40∧∀ r ∈ EW l,r.length≤1000:=by
 have f:=O3 h
 have g:=(O5 f.n40 f.each _ (Nat.le_refl _)).rep
 rw [List.take_length] at g
 exact ⟨by unfold EW; rw [P7]; exact f.n40,g⟩
theorem J2{l:List Ag}(u:l.length≤4194304):EH l=some (if BH l=true then ((true,PO l),EW l,true) else ((false,([],[],0,[],[],[])),[],false)):=by
 unfold EH
 rw [Wf l u,Aa]
 unfold Po
 cases h:BH l with
 | false=>rfl
 | true =>
  have f:=O3 h
  rw [if_pos rfl,if_neg (by simp),if_pos rfl]
  unfold LU
  rw [Aa]
  refine Eq.trans (ES (fun m (z:Gd×List (List Ag)) k=>EP (Cx l,true) m z.1 z.2 k) (Cx l).length (fun k=>(JW Ln ((Cx l).take k),H4 Ln ((Cx l).take k))) (some ((true,PO l),EW l,true)) (by have:=f.n40; omega) (j:=0) (by omega) (fun m k _ e=>?_) (fun m=>?_)) rfl
  have g:=Y4 f.n40 f.each e
  have s:=P7 ((Cx l).take k) Ln
  rw [List.length_take,Nat.min_eq_left (by omega)] at s
  have v:=f.n40
  rw [EP,if_pos (by simp; omega),AY,BP e,Aa,g.im,Aa,Bg (by simp; omega),Aa,AC (by omega),Xo _ e]
  rw [EP,if_neg (by simp),List.take_length]
  rfl
def ctK(rs:List (List Ag)):CtT:=(D6 KU rs,D6 Ko rs,0)
theorem Nr{l:List Ag}(hl:l.length≤4194304):HB l=some (if BH l=true then (Fi (PO l) (D6 KU (EW l),D6 Ko (EW l),((Cx l).length:Int)),DA (EW l),true) else (Fi Ln ([],[],0),[],false)):=by
 unfold HB Mw
 rw [Abp l hl,Aa,Aa]
 unfold Po
 cases h:BH l with
 | false=>rfl
 | true =>
  have f:=O3 h
  have ag:=f.n40
  rw [if_pos rfl,if_neg (by simp),if_pos rfl]
  refine Eq.trans (ES (fun m (z:SpT×List Ag) k=>GN (Cx l,true) m z.1 z.2 k) (Cx l).length (fun k=>(Fi (JW Ln ((Cx l).take k)) (ctK (H4 Ln ((Cx l).take k))),DA (H4 Ln ((Cx l).take k)))) (some (Fi (PO l) (D6 KU (EW l),D6 Ko (EW l),((Cx l).length:Int)),DA (EW l),true)) (by omega) (j:=0) (by omega) (fun m k _ hk=>?_) (fun m=>?_)) rfl
  have g:=Y4 f.n40 f.each hk
  have hr:=P7 ((Cx l).take k) Ln
  have ac:=(O5 f.n40 f.each k (by omega)).rep
  rw [List.length_take,Nat.min_eq_left (by omega)] at hr
  have hj:=SO 1000 _ ac
  have h1:=Im KU (H4 Ln ((Cx l).take k))
  have h2:=Im Ko (H4 Ln ((Cx l).take k))
  have ah:=g.len
  rw [GN,if_pos (by simp; omega),AY,BP hk,Aa,g.sp,Aa,Xo _ hk]
  generalize (JP (JW Ln ((Cx l).take k)) (Cx l)[k]).1=r at *
  unfold Bf ctK Fi
  dsimp only
  rw [N5,ST,ST,hr,AC (by omega)]
  have ej:DA [r]=r++[10]:=by unfold DA; simp
  rw [ej]
  by_cases s:r=[110,111]
  have v:KU r=true:=by rw [s]; rfl
  have e:Ko r=false:=by rw [s]; rfl
  rw [if_pos (by rw [s]; rfl),v,e,if_pos rfl,if_neg (c:=false=true) (by simp),List.append_nil,Bg (by simp; omega),Aa,Bg (by simp; omega),Aa,Bg (by simp; omega),Aa]
  rfl
  have v:KU r=false:=beq_eq_false_iff_ne.2 s
  rw [if_neg (by simpa using s),v,if_neg (c:=false=true) (by simp),List.append_nil]
  by_cases u:r=[119,104,97,116]
  have e:Ko r=true:=by rw [u]; rfl
  rw [if_pos (by rw [u]; rfl),e,if_pos rfl,Bg (by simp; omega),Aa,Bg (by simp; omega),Aa,Bg (by simp; omega),Aa]
  rfl
  have e:Ko r=false:=beq_eq_false_iff_ne.2 u
  rw [if_neg (by simpa using u),e,if_neg (c:=false=true) (by simp),List.append_nil,Bg (by simp; omega),Aa,Bg (by simp; omega),Aa]
  rw [GN,if_neg (by simp),List.take_length]
  rfl
theorem Abh(rs:List (List Ag)){k:Nat}(h:k<rs.length):DA (rs.take (k+1))=DA (rs.take k)++(rs[k]++[10]):=by
 rw [Kp rs h,N5]
 unfold DA
 simp
theorem Xu{rs:List (List Ag)}(l:rs.length≤40)(f:∀ r ∈ rs,r.length≤1000):EB rs FU [] 0=some (DA rs):=by
 refine Eq.trans (ES (EB rs) rs.length (fun k=>Lt (DA (rs.take k))) (some (DA rs)) (by omega) (j:=0) (by omega) (fun m k _ e=>?_) (fun m=>?_)) rfl
 have h1:=f _ (List.getElem_mem e)
 have h:=SO 1000 (rs.take k) (fun a g=>f a (List.mem_of_mem_take g))
 rw [List.length_take,Nat.min_eq_left (by omega)] at h
 rw [EB,if_pos (by simp; omega),AY,BP e,Aa,Bg (by simp; omega),Aa,Ahm (by simp; omega),Aa,AC (by omega),Abh rs e]
 rw [EB,if_neg (by simp),List.take_length,Agj,Aa]
def PD(l:List Ag):List Ag:=if BH l=true then DA (EW l) else []
theorem OH{l:List Ag}(f:l.length≤4194304):GP l=some (PD l):=by
 unfold GP Bf PD
 dsimp only
 rw [J2 f,Aa]
 cases h:BH l with
 | false=>exact Xu (rs:=[]) (by simp) (fun r e=>by cases e)
 | true =>
  obtain ⟨h1,g⟩:=QZ h
  exact Xu h1 g
theorem XB{l:List Ag}(e:l.length≤4194304):KA l=some (PD l):=by
 unfold KA PD
 rw [Nr e,Aa]
 cases BH l <;> rfl
theorem Nq(p:List Ag→Bool)(rs:List (List Ag)){k:Nat}(h:k<rs.length):D6 p (rs.take (k+1))=D6 p (rs.take k)++if p rs[k]=true then [(k:Int)+1] else []:=by
 rw [Kp rs h,ST,List.length_take,Nat.min_eq_left (by omega)]
def Mg(l:List Ag):Int×Int×Int×Bool:=if BH l=true then (((D6 KU (EW l)).length:Int),((D6 Ko (EW l)).length:Int),((EW l).length:Int)-((D6 KU (EW l)).length:Int)-((D6 Ko (EW l)).length:Int),true) else (0,0,0,false)
theorem Adx{rs:List (List Ag)}(u:rs.length≤40):D4 rs FU 0 0 0=some (((D6 KU rs).length:Int),((D6 Ko rs).length:Int),(rs.length:Int)-((D6 KU rs).length:Int)-((D6 Ko rs).length:Int),true):=by
 refine Eq.trans (ES (fun m (z:Int×Int) k=>D4 rs m z.1 z.2 k) rs.length (fun k=>(((D6 KU (rs.take k)).length:Int),((D6 Ko (rs.take k)).length:Int))) (some (((D6 KU rs).length:Int),((D6 Ko rs).length:Int),(rs.length:Int)-((D6 KU rs).length:Int)-((D6 Ko rs).length:Int),true)) (by omega) (j:=0) (by omega) (fun m k _ l=>?_) (fun m=>?_)) rfl
 have h1:=Im KU (rs.take k)
 have s:=Im Ko (rs.take k)
 rw [List.length_take,Nat.min_eq_left (by omega)] at h1 s
 rw [D4,if_pos (by simp; omega)]
 unfold Fx
 dsimp only
 rw [AY,BP l,Aa,Nq _ _ l,Nq _ _ l,AC (k:=k) (by omega)]
 by_cases f:rs[k]=[110,111]
 have h:KU rs[k]=true:=by rw [f]; rfl
 have e:Ko rs[k]=false:=by rw [f]; rfl
 rw [if_pos (by rw [f]; rfl),h,e,if_pos rfl,if_neg (c:=false=true) (by simp),List.append_nil,Cy,AC (by omega)]
 rfl
 have h:KU rs[k]=false:=beq_eq_false_iff_ne.2 f
 rw [if_neg (by simpa using f),h,if_neg (c:=false=true) (by simp),List.append_nil]
 by_cases g:rs[k]=[119,104,97,116]
 have e:Ko rs[k]=true:=by rw [g]; rfl
 rw [if_pos (by rw [g]; rfl),e,if_pos rfl,Cy,AC (by omega)]
 rfl
 have e:Ko rs[k]=false:=beq_eq_false_iff_ne.2 g
 rw [if_neg (by simpa using g),e,if_neg (c:=false=true) (by simp),List.append_nil]
 have h1:=Im KU rs
 have s:=Im Ko rs
 rw [D4,if_neg (by simp),List.take_length,AA (x:=(rs.length:Int)-_) (by omega) (by omega),AA (by omega) (by omega)]
theorem Aet{l:List Ag}:(EW l).length=(Cx l).length:=P7 _ _
theorem TK{l:List Ag}(e:l.length≤4194304):Ii l=some (Mg l):=by
 unfold Ii Fx Mg
 dsimp only
 rw [J2 e,Aa]
 cases h:BH l with
 | false=>rfl
 | true=>exact Adx (QZ h).1
def JF(l:List Ag):Akg×Bool:=if BH l=true then ((PO l).1,true) else ([],false)
def Kv(l:List Ag):Akg×Bool:=if BH l=true then ((PO l).2.2.2.1,true) else ([],false)
def LQ(l:List Ag):(List IX)×Bool:=if BH l=true then ((PO l).2.2.2.2.2,true) else ([],false)
theorem Qr{l:List Ag}(e:l.length≤4194304):HR l=some (JF l):=by
 unfold HR JF
 rw [J2 e,Aa]
 cases BH l <;> rfl
theorem Vi{l:List Ag}(e:l.length≤4194304):Ji l=some (JF l):=by
 unfold Ji JF
 rw [Nr e,Aa]
 cases BH l <;> rfl
theorem Qq{l:List Ag}(e:l.length≤4194304):HQ l=some (Kv l):=by
 unfold HQ Kv
 rw [J2 e,Aa]
 cases BH l <;> rfl
theorem Vh{l:List Ag}(e:l.length≤4194304):Jh l=some (Kv l):=by
 unfold Jh Kv
 rw [Nr e,Aa]
 cases BH l <;> rfl
theorem OB{l:List Ag}(e:l.length≤4194304):G9 l=some (LQ l):=by
 unfold G9 LQ
 rw [J2 e,Aa]
 cases BH l <;> rfl
theorem SA{l:List Ag}(e:l.length≤4194304):HC l=some (LQ l):=by
 unfold HC LQ
 rw [Nr e,Aa]
 cases BH l <;> rfl
theorem TE{l:List Ag}(h:BH l=true):KW (PO l):=by
 have f:=O3 h
 have g:=(O5 f.n40 f.each _ (Nat.le_refl _)).ok
 rwa [List.take_length] at g
theorem Abv(l:List Ag):(JF l).1.length≤12:=by
 unfold JF
 cases h:BH l with
 | false=>simp
 | true=>exact (Dm (TE h).ch).2
theorem Abd(l:List Ag):(Kv l).1.length≤40:=by
 unfold Kv
 cases h:BH l with
 | false=>simp
 | true=>exact (Nl (TE h).mu).2.1
theorem Ab7(l:List Ag):(LQ l).1.length≤60:=by
 unfold LQ
 cases h:BH l with
 | false=>simp
 | true=>exact (NX (TE h).ve).2
abbrev Ol(l:List Int):Prop:=l.Pairwise (·<·)
theorem Yp:∀{l m:List Int},Ol l→Ol m→(∀ x,x ∈ l↔x ∈ m)→l=m
 | [],[],_,_,_=>rfl
 | [],b::m,_,_,h=>by have:=(h b).2 (List.mem_cons_self ..); cases this
 | a::l,[],_,_,h=>by have:=(h a).1 (List.mem_cons_self ..); cases this
 | a::l,b::m,hl,hm,h=>by
  rw [Ol,List.pairwise_cons] at hl hm
  have e:a=b:=by
   rcases List.mem_cons.1 ((h a).1 (List.mem_cons_self ..)) with e|e
   exact e
   rcases List.mem_cons.1 ((h b).2 (List.mem_cons_self ..)) with g|g
   exact g.symm
   have:=hl.1 b g; have:=hm.1 a e; omega
  subst e
  rw [Yp hl.2 hm.2 (fun x=>?_)]
  constructor
  intro f
  rcases List.mem_cons.1 ((h x).1 (List.mem_cons_of_mem _ f)) with e|e
  have:=hl.1 x f; omega
  exact e
  intro f
  rcases List.mem_cons.1 ((h x).2 (List.mem_cons_of_mem _ f)) with e|e
  have:=hm.1 x f; omega
  exact e
theorem Agv{l:List Int}(hs:Ol l)(hl:l.length≤1000)(x:Int):∃ l',Kz l x=some l'∧Ol l'∧(∀ y,y ∈ l'↔y ∈ l∨y=x)∧l'.length≤l.length+1:=by
 have an:∀(d k m:Nat),l.length-k=d→k≤l.length→d<m→(∀ y ∈ l.take k,y<x)→∃ l',El l x m (k:Int)=some l'∧Ol l'∧(∀ y,y ∈ l'↔y ∈ l∨y=x)∧l'.length≤l.length+1:=by
  intro d
  have ag:∀ k,k≤l.length→(∀ y ∈ l.take k,y<x)→(∀ y ∈ l.drop k,x<y)→(Option.bind (sl l 0 (k:Int)) fun aq=>Option.bind (BB [] aq) fun ah=>Option.bind (BB ah [x]) fun ao=>Option.bind (sl l (k:Int) (List.length l:Int)) fun ar=>Option.bind (BB ao ar) fun am=>some am)=some (l.take k++[x]++l.drop k)∧Ol (l.take k++[x]++l.drop k)∧(∀ y,y ∈ l.take k++[x]++l.drop k↔y ∈ l∨y=x)∧(l.take k++[x]++l.drop k).length≤l.length+1:=by
   intro k s h1 v
   refine ⟨?_,?_,fun y=>?_,?_⟩
   rw [KS l s,Aa,Bg (by simp; omega),Aa,List.nil_append,Bg (by simp; omega),Aa,SD l s,Aa,Bg (by simp; omega),Aa]
   have ht:Ol (l.take k):=hs.sublist (List.take_sublist k l)
   have hd:Ol (l.drop k):=hs.sublist (List.drop_sublist k l)
   rw [Ol,List.append_assoc,List.pairwise_append]
   refine ⟨ht,?_,fun a ha b hb=>?_⟩
   rw [List.singleton_append,List.pairwise_cons]
   exact ⟨v,hd⟩
   rw [List.singleton_append,List.mem_cons] at hb
   have:=h1 a ha
   rcases hb with rfl|hb
   exact this
   have:=v b hb; omega
   constructor
   intro h
   rw [AV,AV,List.mem_singleton] at h
   rcases h with (h|h)|h
   exact .inl (List.mem_of_mem_take h)
   exact .inr h
   exact .inl (List.mem_of_mem_drop h)
   intro h
   rw [AV,AV,List.mem_singleton]
   rcases h with h|h
   rw [← List.take_append_drop k l,AV] at h
   rcases h with h|h
   exact .inl (.inl h)
   exact .inr h
   exact .inl (.inr h)
   simp; omega
  induction d with
  | zero =>
   intro k m hd s hm h1
   have:k=l.length:=by omega
   subst this
   cases m with
   | zero=>omega
   | succ m =>
    obtain ⟨e,g⟩:=ag l.length s h1 (fun y f=>by rw [List.drop_length] at f; cases f)
    refine ⟨_,?_,g⟩
    rw [El]
    unfold Bf
    dsimp only
    rw [if_neg (by simp),if_neg (by simp),if_neg (by simp),if_neg (by simp)]
    exact e
  | succ d ih =>
   intro k m hd s hm h1
   have u:k<l.length:=by omega
   cases m with
   | zero=>omega
   | succ m =>
    rw [El]
    unfold Bf
    dsimp only
    rw [if_pos (by simp; omega),AY,BP u,Aa,Aa]
    by_cases hx:l[k]<x
    rw [if_pos (decide_eq_true hx),AC (by omega)]
    refine ih (k+1) m (by omega) (by omega) (by omega) (fun y f=>?_)
    rw [Kp l u,AV,List.mem_singleton] at f
    rcases f with f|rfl
    exact h1 y f
    exact hx
    rw [if_neg (by simpa using hx),if_pos (by simp; omega)]
    by_cases he:l[k]=x
    rw [if_pos (by simpa using he)]
    exact ⟨l,rfl,hs,fun y=>⟨.inl,fun h=>h.elim id (fun e=>by rw [e,← he]; exact List.getElem_mem u)⟩,Nat.le_succ _⟩
    rw [if_neg (by simpa using he)]
    have v:∀ y ∈ l.drop k,x<y:=by
     intro y f
     rw [List.drop_eq_getElem_cons u,List.mem_cons] at f
     rcases f with rfl|f
     omega
     obtain ⟨j,hj,rfl⟩:=List.getElem_of_mem f
     rw [List.getElem_drop]
     have:=List.pairwise_iff_getElem.1 hs k (k+1+j) u (by simp at hj; omega) (by omega)
     omega
    obtain ⟨e,g⟩:=ag k s h1 v
    exact ⟨_,e,g⟩
 exact an l.length 0 FU rfl (by omega) (Dw (by omega)) (fun y f=>by cases f)
def Jw(r:List Ag):Bool:=KU r||Ko r
theorem Afc(p:List Ag→Bool)(rs:List (List Ag)):Ol (D6 p rs):=by
 unfold D6
 rw [Ol,List.pairwise_map]
 refine List.Pairwise.sublist List.filter_sublist ?_
 exact List.pairwise_lt_range.imp (fun h=>by omega)
theorem RG{p:List Ag→Bool}{rs:List (List Ag)}{x:Int}:x ∈ D6 p rs↔∃ i:Nat,∃ h:i<rs.length,x=(i:Int)+1∧p rs[i]=true:=by
 unfold D6
 rw [List.mem_map]
 constructor
 rintro ⟨i,e,rfl⟩
 rw [List.mem_filter,List.mem_range] at e
 refine ⟨i,e.1,rfl,?_⟩
 have:=e.2
 rw [BP e.1] at this
 exact this
 rintro ⟨i,e,rfl,f⟩
 refine ⟨i,?_,rfl⟩
 rw [List.mem_filter,List.mem_range,BP e]
 exact ⟨e,f⟩
def KO(l:List Ag):List Int×Bool:=if BH l=true then (D6 Jw (EW l),true) else ([],false)
theorem Adv(l:List Ag):(KO l).1.length≤40:=by
 unfold KO
 cases h:BH l with
 | false=>simp
 | true=>exact Az (Im _ _) (QZ h).1
theorem Afj{rs:List (List Ag)}(l:rs.length≤40):DE rs FU [] 0=some (D6 Jw rs,true):=by
 refine Eq.trans (ES (DE rs) rs.length (fun k=>D6 Jw (rs.take k)) (some (D6 Jw rs,true)) (by omega) (j:=0) (by omega) (fun m k _ g=>?_) (fun m=>?_)) rfl
 have h1:=Im Jw (rs.take k)
 rw [List.length_take,Nat.min_eq_left (by omega)] at h1
 rw [DE,if_pos (by simp; omega)]
 unfold Bf
 dsimp only
 rw [AY,BP g,Aa,Nq _ _ g,AC (by omega),Bg (by simp; omega),Aa]
 by_cases e:rs[k]=[110,111]
 have f:Jw rs[k]=true:=by rw [e]; rfl
 rw [if_pos (by rw [e]; rfl),f,if_pos rfl,if_pos rfl]
 rfl
 have h:KU rs[k]=false:=beq_eq_false_iff_ne.2 e
 rw [if_neg (by simpa using e)]
 have f:Jw rs[k]=(rs[k]==[119,104,97,116]):=by unfold Jw; rw [h]; rfl
 rw [f]
 cases rs[k]==[119,104,97,116]
 rw [if_neg (by simp),if_neg (by simp),List.append_nil]
 rw [if_pos rfl,if_pos rfl]; rfl
 rw [DE,if_neg (by simp),List.take_length]
theorem U6{l:List Ag}(e:l.length≤4194304):II l=some (KO l):=by
 unfold II Fx KO
 dsimp only
 rw [J2 e,Aa]
 cases h:BH l with
 | false=>rfl
 | true=>exact Afj (QZ h).1
theorem Uv{l:List Ag}(hl:l.length≤4194304):IC l=some (KO l):=by
 unfold IC KO
 rw [Nr hl,Aa]
 cases h:BH l with
 | false=>rfl
 | true =>
  have h1:=Im KU (EW l)
  have h2:=Im Ko (EW l)
  have am:=(QZ h).1
  rw [if_pos rfl,if_neg (by simp),if_pos rfl]
  unfold Fi
  dsimp only
  rw [R6 _ (by omega),Aa,Bg (by omega),Aa]
  generalize hu:D6 KU (EW l)++D6 Ko (EW l)=u
  have ap:u.length≤80:=by rw [← hu,Cy]; omega
  refine Exists.elim (JY (fun (_:Unit) m (z:List Int) k=>Eo u m z k) u.length (fun k z=>Ol z∧z.length≤k∧∀ y,y ∈ z↔y ∈ u.take k) (fun _ z=>some (z,true)) (by omega) (fun k z _ hk hz=>?_) (fun z hz j m=>?_) (b:=0) (by omega) (s:=[]) ⟨List.Pairwise.nil,Nat.le_refl _,fun y=>by simp⟩) ?_
  obtain ⟨v,z2,z3⟩:=hz
  obtain ⟨z',p1,p2,p3,p4⟩:=Agv v (by omega) u[k]
  refine ⟨z',⟨p2,by omega,fun y=>?_⟩,fun _ m=>?_⟩
  rw [p3,z3,Kp u hk,AV,List.mem_singleton]
  rw [Eo,if_pos (by simp; omega),AY,BP hk,Aa,p1,Aa,AC (by omega)]
  rw [Eo,if_neg (by simp)]
  rintro z ⟨⟨v,z2,z3⟩,hr⟩
  refine (hr ()).trans ?_
  have:z=D6 Jw (EW l):=by
   refine Yp v (Afc _ _) (fun x=>?_)
   rw [z3,List.take_length,← hu,AV,RG,RG,RG]
   constructor
   rintro (⟨i,g,e,f⟩|⟨i,g,e,f⟩)
   exact ⟨i,g,e,by unfold Jw; rw [f]; rfl⟩
   exact ⟨i,g,e,by unfold Jw; rw [f,Bool.or_true]⟩
   rintro ⟨i,g,e,f⟩
   unfold Jw at f
   rw [Bool.or_eq_true] at f
   rcases f with f|f
   exact .inl ⟨i,g,e,f⟩
   exact .inr ⟨i,g,e,f⟩
  rw [this]
def Tot{α:Type}(o:Ae α)(P:α→Prop):Prop:=∃ v,o=some v∧P v
section
variable {α β:Type}
theorem Tot.some{v:α}{P:α→Prop}(h:P v):Tot (some v) P:=⟨v,rfl,h⟩
theorem Tot.bind{o:Ae α}{f:α→Ae β}{P:α→Prop}{Q:β→Prop}(h:Tot o P)(g:∀ v,P v→Tot (f v) Q):Tot (Option.bind o f) Q:=by
 obtain ⟨v,rfl,e⟩:=h
 exact g v e
theorem Tot.bindE{o:Ae α}{v:α}{f:α→Ae β}{Q:β→Prop}(h:o=Option.some v)(e:Tot (f v) Q):Tot (Option.bind o f) Q:=by
 rw [h]
 exact e
theorem Tot.mono{o:Ae α}{P Q:α→Prop}(h:Tot o P)(f:∀ v,P v→Q v):Tot o Q:=by
 obtain ⟨v,h1,e⟩:=h
 exact ⟨v,h1,f v e⟩
theorem Tot.ite{c:Bool}{A B:Ae α}{P:α→Prop}(h1:c=true→Tot A P)(e:c=false→Tot B P):Tot (if c=true then A else B) P:=by
 cases c with
 | true=>exact h1 rfl
 | false=>exact e rfl
theorem Tot.j1{A:Type}{rest:A→Ae β}{e:(A→Ae β)→Ae β}{Q:β→Prop}(P:A→Prop)(f:∀ a,P a→Tot (rest a) Q)(g:∀ k,(∀ a,P a→Tot (k a) Q)→Tot (e k) Q):Tot (Bf rest e) Q:=g rest f
theorem Tot.of{o:Ae Bool}(h:Tot o fun b=>b=true):o=Option.some true:=by
 obtain ⟨v,h1,e⟩:=h
 rw [h1,e]
theorem Tot.loop{S R:Type}(f:Nat→S→Ae R)(μ:S→Nat)(I:S→Prop)(Q:R→Prop)(u:∀ m s,I s→(∀ e,I e→μ e<μ s→Tot (f m e) Q)→Tot (f (m+1) s) Q) :
  ∀ m s,I s→μ s<m→Tot (f m s) Q:=by
 intro m
 induction m with
 | zero=>intro s _ h; omega
 | succ m g=>intro s l h; exact u m s l fun e v aa=>g e v (by omega)
end
def Cu(c:List Int)(n a:Int):Prop:=(∀ b ∈ c,0≤b∧b≤255)∧0≤a∧0≤n∧a+n≤4000000000000000000
theorem Cu.mono{c:List Int}{n m a:Int}(h:Cu c n a)(e:0≤m)(f:m≤n):Cu c m a:=⟨h.1,h.2.1,e,by have:=h.2.2.2; omega⟩
def Pk{α:Type}(c:List Int)(n:Int)(P:α→Prop)(v:α×List Int×Int×Int):Prop:=P v.1∧v.2.1=c∧Cu c n v.2.2.1
theorem Pk.imp{α:Type}{c:List Int}{n m:Int}{P Q:α→Prop}{v:α×List Int×Int×Int}(h:Pk c n P v)(g:∀ r,P r→Q r)(e:0≤m)(f:m≤n):Pk c m Q v:=⟨g _ h.1,h.2.1,h.2.2.mono e f⟩
abbrev Cur:=List Int×Int×Int
theorem Yj{b:Int}(h:0≤b∧b≤255):Ah b=b:=AA (by omega) (by omega)
theorem Afx(a:Int):0≤Ah (B8 .u64 a 255)∧Ah (B8 .u64 a 255)≤255:=by
 have h:B8 .u64 a 255=IntKind.wrap .u64 (((BitVec.ofInt 64 a &&& BitVec.ofInt 64 255).toNat:Nat):Int):=rfl
 have f:(BitVec.ofInt 64 a &&& BitVec.ofInt 64 255).toNat≤255:=by
  rw [BitVec.toNat_and]
  exact Az Nat.and_le_right (by decide)
 rw [h]
 generalize (BitVec.ofInt 64 a &&& BitVec.ofInt 64 255).toNat=v at *
 have e:IntKind.wrap .u64 (v:Int)=v:=by
  unfold IntKind.wrap
  simp only [IntKind.bits,IntKind.signed]
  simp
  omega
 rw [e,Yj (by omega)]
 omega
theorem Aah(x:Cur){m:Int}(h:Cu x.1 m x.2.1)(hm:1≤m):Tot (Ec x) (Pk x.1 (m-1) fun r=>0≤r∧r≤255):=by
 obtain ⟨h1,h2,h3,h4⟩:=h
 unfold Ec Bf
 have e:Ah (x.2.1+1)=x.2.1+1:=AA (by omega) (by omega)
 have s:Cu x.1 (m-1) (x.2.1+1):=⟨h1,by omega,by omega,by omega⟩
 dsimp only
 rw [e]
 have l:∀ y:Int,(0≤y∧y≤255)→∀ s1 s2 u:Int,Tot (if (decide (x.2.1+1≤(List.length x.1:Int)))=true then some (y,(x.1,x.2.1+1,s1)) else some ((Ah (B8 .u64 s2 255)),(x.1,x.2.1+1,u))) (Pk x.1 (m-1) fun r=>0≤r∧r≤255):=by
  intro y hy s1 s2 u
  refine Tot.ite (fun _=>Tot.some ⟨hy,rfl,s⟩) fun _=>Tot.some ⟨Afx _,rfl,s⟩
 refine Tot.ite (fun hc=>?_) fun _=>l 0 (by omega) _ _ _
 have f:x.2.1.toNat<x.1.length:=by simp at hc; omega
 refine Tot.bindE (v:=x.1[x.2.1.toNat]) (by rw [Il h2]; simp [f]) ?_
 have g:=h1 _ (List.getElem_mem f)
 exact l _ (by rw [Yj g]; exact g) _ _ _
theorem LG(x:Cur)(k:Int){m:Int}(h:Cu x.1 m x.2.1)(hm:2≤m):Tot (BM x k) (Pk x.1 (m-2) fun r=>0≤r∧(r<k∨r=0)):=by
 unfold BM
 refine Tot.ite (fun _=>Tot.some ⟨⟨by simp,.inr rfl⟩,rfl,h.mono (by omega) (by omega)⟩) fun l=>?_
 have ag:1<k:=by simpa using l
 refine Tot.bind (Aah x h (by omega)) fun u hu=>?_
 obtain ⟨ac,aj,e⟩:=hu
 have f:∀(y a s:Int),0≤y→Cu x.1 (m-2) a→Tot (if k=0 then none else some ((Int.tmod y k),(x.1,a,s))) (Pk x.1 (m-2) fun r=>0≤r∧(r<k∨r=0)):=by
  intro y a s g ha
  rw [if_neg (by omega)]
  exact Tot.some ⟨⟨Int.tmod_nonneg _ g,.inl (Int.tmod_lt_of_pos _ (by omega))⟩,rfl,ha⟩
 unfold Sa
 dsimp only
 refine Tot.ite (fun _=>?_) fun _=>f _ _ _ ac.1 (e.mono (by omega) (by omega))
 refine Tot.bind (Aah (x.1,u.2.2.1,u.2.2.2) e (by omega)) fun v hv=>?_
 obtain ⟨ah,ak,ab⟩:=hv
 refine f _ _ _ ?_ (ab.mono (by omega) (by omega))
 rw [AA (x:=u.1*256) (by omega) (by omega),AA (by omega) (by omega)]
 omega
theorem Ada(x:Cur)(k:Int){m:Int}(h:Cu x.1 m x.2.1)(e:2≤m):Tot (Em x k) (Pk x.1 (m-2) fun _=>True):=by
 unfold Em
 refine Tot.bind (LG x k h e) fun u f=>Tot.some ⟨trivial,rfl,f.2.2⟩
theorem YU{α:Type}(l:List α){r:Int}(f:l≠[])(h:0≤r∧(r<(l.length:Int)∨r=0)):∃ v,AG l r=some v∧v ∈ l∧r.toNat<l.length:=by
 have g:0<l.length:=List.length_pos_iff.2 f
 have e:r.toNat<l.length:=by omega
 exact ⟨l[r.toNat],by rw [Il h.1]; simp [e],List.getElem_mem e,e⟩
theorem Zr(x:Cur)(l:List Int)(P:Int→Prop){m:Int}(h:Cu x.1 m x.2.1)(f:2≤m)(hl:l≠[])(s:∀ v ∈ l,P v):Tot (DQ x l) (Pk x.1 (m-2) P):=by
 unfold DQ
 refine Tot.bind (LG x _ h f) fun u e=>?_
 obtain ⟨v,hv,g,_⟩:=YU l hl e.1
 exact Tot.bindE hv (Tot.some ⟨s v g,rfl,e.2.2⟩)
theorem Agu(x:List Int)(e:x.length≤1048576):NH x x=some true:=Ajw neI (IR x x) x (fun _ _=>rfl) (S:=Ajy) ⟨e,fun _ _=>trivial⟩
theorem Ahv(x:List Int)(n:Int)(l:x.length<4611686018427387904):MK x n=some (decide (n ∈ x)):=by
 unfold MK
 rw [Ow (Ht x n) x (fun u=>u != n) (some false) (some true) l (fun m k u s f=>?_) (fun m=>?_)]
 by_cases h:n ∈ x
 rw [if_neg (fun g=>by have:=List.all_eq_true.1 g n h; simp at this)]
 simp [h]
 rw [if_pos (List.all_eq_true.2 fun u f=>by simp; intro e; exact h (e ▸ f))]
 simp [h]
 rw [Ht,if_pos (by simp; omega),AY,f,Aa,AC (by omega)]
 by_cases e:u=n <;> simp [e]
 rw [Ht,if_neg (by simp)]
theorem Aew(x y:List (Int×Int))(l:x.length<4611686018427387904)(s:y.length<4611686018427387904):Jc x y=some (decide (x=y)):=by
 unfold Jc
 by_cases f:x.length=y.length
 rw [if_neg (by simp [f]),Ae2 (Gw x y) x y (some true) (some false) l f (fun j k a b g m=>?_) (fun j=>by rw [Gw,if_neg (by simp)])]
 by_cases e:x=y <;> simp [e]
 have u:=(List.getElem?_eq_some_iff.1 g).1
 rw [Gw,if_pos (by simp; omega),AY,g,Aa,AY,m,Aa,AC (by omega)]
 have e:Lv a b=decide (a=b):=by
  unfold Lv
  rw [Bool.eq_iff_iff]
  simp [Prod.ext_iff]
 rw [e]
 by_cases h:a=b <;> simp [h]
 rw [if_pos (by simp; omega)]
 have:¬ x=y:=fun e=>f (by rw [e])
 simp [this]
theorem QD(c:Ag):∀(m:List Ag),∀ a ∈ CP c m,c ∉ a
 | [],a,h=>by simp [CP] at h; subst h; simp
 | x::m,a,h=>by
  rw [CP] at h
  split at h
  rcases List.mem_cons.1 h with rfl|h
  simp
  exact QD c m a h
  rename_i l
  have f:=QD c m
  cases g:CP c m with
  | nil=>have:=I4 c m; rw [g] at this; simp at this
  | cons y t =>
   rw [g] at h f
   rcases List.mem_cons.1 h with rfl|h
   rw [List.mem_cons,not_or]
   exact ⟨fun e=>l e.symm,f y (List.mem_cons_self ..)⟩
   exact f a (List.mem_cons_of_mem _ h)
theorem V2:∀(m:List Ag),DA (CP 10 m)=m++[10]
 | []=>rfl
 | x::m=>by
  have e:=V2 m
  rw [CP]
  split
  rename_i g
  rw [H7,e,g]
  rfl
  cases f:CP 10 m with
  | nil=>have:=I4 10 m; rw [f] at this; simp at this
  | cons y t =>
   rw [f,H7] at e
   show DA ((x::y)::t)=_
   rw [H7,List.cons_append,e]
   rfl
theorem SK{l a:List Ag}(h:a ∈ Cx l):(10:Ag) ∉ a:=by
 unfold Cx at h
 split at h
 cases h
 exact QD 10 _ a h
theorem Pe{l:List Ag}(h:l=[]∨l.getLast? = some 10):DA (Cx l)=l:=by
 unfold Cx
 by_cases e:l=[]
 rw [if_pos e,e]; rfl
 rw [if_neg e,V2]
 obtain ⟨b,_,g,f⟩:=Ps e
 have:b=10:=by
  rcases h with h|h
  exact absurd h e
  rw [g] at h; exact Option.some.inj h
 rw [this] at f
 exact f.symm
theorem Pd:∀(I:List (List Ag)),DA I=[]∨(DA I).getLast? = some 10
 | []=>.inl rfl
 | a::I=>by
  right
  rw [H7]
  rcases Pd I with h|h
  rw [h]; simp
  have f:DA I≠[]:=fun e=>by rw [e] at h; cases h
  rw [show a++10::DA I=(a++[10])++DA I by simp,List.getLast?_append,h]
  rfl
theorem Vz{I:List (List Ag)}(h:∀ a ∈ I,(10:Ag) ∉ a):Cx (DA I)=I:=by
 have h1:=QG (Pd I)
 have e:=TX [] (by simp) I h
 rw [List.append_nil] at e
 rw [e] at h1
 exact (List.append_cancel_right h1).symm
theorem YO{a b:List Ag}(f:a=[]∨a.getLast? = some 10)(g:b=[]∨b.getLast? = some 10):Cx (a++b)=Cx a++Cx b:=by
 conv=>lhs; rw [← Pe f,← Pe g,← N5]
 refine Vz fun x e=>?_
 rcases AV.1 e with e|e
 exact SK e
 exact SK e
theorem Ug:∀(A B:List (List Ag))(s:Gd),H4 s (A++B)=H4 s A++H4 (JW s A) B
 | [],B,s=>rfl
 | a::A,B,s=>by rw [List.cons_append,H4,Ug A B,H4,JW]; rfl
theorem Aba{a b:List Ag}(e:BH a=true)(f:BH b=true)(g:BH (a++b)=true):∃ t,PD (a++b)=PD a++t:=by
 refine ⟨DA (H4 (JW Ln (Cx a)) (Cx b)),?_⟩
 unfold PD EW
 rw [if_pos g,if_pos e,YO (E4.1 e).2.1 (E4.1 f).2.1,Ug,N5]
def MP(F:List Int):List Ag→Int→List Ag
 | [],_=>[]
 | b::t,n=>if n ∈ F then MP F t (if b=10 then n+1 else n) else b::MP F t (if b=10 then n+1 else n)
def Rg:List Ag→Int→Int
 | [],n=>n
 | b::t,n=>Rg t (if b=10 then n+1 else n)
def LS(F:List Int):List (List Ag)→Int→List (List Ag)
 | [],_=>[]
 | a::I,n=>if n ∈ F then LS F I (n+1) else a::LS F I (n+1)
theorem Xm(F:List Int)(B:List Ag):∀(A:List Ag)(n:Int),(10:Ag) ∉ A→MP F (A++10::B) n=(if n ∈ F then [] else A++[10])++MP F B (n+1)∧Rg (A++10::B) n=Rg B (n+1)
 | [],n,_=>by
  rw [List.nil_append,MP,Rg,if_pos rfl]
  split <;> exact ⟨rfl,rfl⟩
 | b::A,n,h=>by
  rw [List.mem_cons,not_or] at h
  have f:=Xm F B A n h.2
  rw [List.cons_append,MP,Rg,if_neg (c:=b=10) (fun e=>h.1 e.symm),f.1,f.2]
  split
  exact ⟨rfl,rfl⟩
  exact ⟨by simp,rfl⟩
theorem Xn(F:List Int):∀(I:List (List Ag))(n:Int),(∀ a ∈ I,(10:Ag) ∉ a)→MP F (DA I) n=DA (LS F I n)∧Rg (DA I) n=n+I.length
 | [],n,_=>⟨rfl,by simp [DA,Rg]⟩
 | a::I,n,h=>by
  have e:=Xn F I (n+1) (fun x f=>h x (List.mem_cons_of_mem _ f))
  have:=Xm F (DA I) a n (h a (List.mem_cons_self ..))
  rw [H7,this.1,this.2,e.1,e.2,LS]
  refine ⟨?_,by rw [List.length_cons]; omega⟩
  split
  rfl
  rw [H7]; simp
theorem Uz{F:List Int}:∀{I:List (List Ag)}{n:Int}{a:List Ag},a ∈ LS F I n→a ∈ I
 | [],_,_,h=>h
 | b::I,n,a,h=>by
  rw [LS] at h
  split at h
  exact List.mem_cons_of_mem _ (Uz h)
  rcases List.mem_cons.1 h with rfl|h
  exact List.mem_cons_self ..
  exact List.mem_cons_of_mem _ (Uz h)
theorem U0(F:List Int):∀(I:List (List Ag))(n:Int),(LS F I n).length≤I.length∧(DA (LS F I n)).length≤(DA I).length
 | [],_=>⟨Nat.le_refl _,Nat.le_refl _⟩
 | a::I,n=>by
  have e:=U0 F I (n+1)
  rw [LS]
  split
  rw [H7]; simp; omega
  rw [H7,H7]; simp; omega
def VK:Gd→List (List Ag)→Prop
 | _,[]=>True
 | s,a::I=>VJ s a (JP s a).1 (JP s a).2∧VK (JP s a).2 I
theorem Adr:∀(I:List (List Ag))(s:Gd),KW s→s.2.2.2.2.1.length+I.length≤40→(∀ a ∈ I,a.length≤2000)→VK s I
 | [],_,_,_,_=>trivial
 | a::I,s,h,hc,hm=>by
  rw [List.length_cons] at hc
  obtain ⟨r,f,g⟩:=SL h (by omega) (hm a (List.mem_cons_self ..))
  have e:=Wa g
  have m:=g.car
  rw [VK,e]
  exact ⟨g,Adr I f g.ok (by omega) (fun x l=>hm x (List.mem_cons_of_mem _ l))⟩
theorem Aiq{r:List Ag}(h:Jw r=true):r=[110,111]∨r=[119,104,97,116]:=by
 unfold Jw KU Ko at h
 rw [Bool.or_eq_true,beq_iff_eq,beq_iff_eq] at h
 exact h
theorem V1(F:List Int):∀(I:List (List Ag))(s:Gd)(n:Int),VK s I→(∀ i:Nat,∀ h:i<(H4 s I).length,(n+(i:Int) ∈ F↔Jw (H4 s I)[i]=true))→JW s (LS F I n)=JW s I
 | [],_,_,_,_=>rfl
 | a::I,s,n,hg,hF=>by
  rw [VK] at hg
  have g:=hF 0 (by rw [H4]; simp)
  have u:∀ i:Nat,∀ h:i<(H4 (JP s a).2 I).length,((n+1)+(i:Int) ∈ F↔Jw (H4 (JP s a).2 I)[i]=true):=fun i h=>by
   have:=hF (i+1) (by rw [H4,List.length_cons]; omega)
   rw [show n+((i+1:Nat):Int)=(n+1)+(i:Int) by omega] at this
   rw [this]
   simp [H4]
  have e:=V1 F I (JP s a).2 (n+1) hg.2 u
  rw [LS,JW]
  split
  rename_i l
  have m:Jw (JP s a).1=true:=by
   have:=g.1 (by simpa using l)
   simpa [H4] using this
  have f:=hg.1.no (Aiq m)
  rw [f] at e
  rw [e,f]
  rw [JW,e]
theorem Xw:∀(rs:List (List Ag))(k:Nat),k≤rs.length→(D6 KU (rs.take k)).length+(D6 Ko (rs.take k)).length=(D6 Jw (rs.take k)).length
 | rs,0,_=>rfl
 | rs,k+1,h=>by
  have s:=Xw rs k (by omega)
  rw [Nq _ _ h,Nq _ _ h,Nq _ _ h,Cy,Cy,Cy]
  by_cases l:rs[k]=[110,111]
  have f:KU rs[k]=true:=by rw [l]; rfl
  have e:Ko rs[k]=false:=by rw [l]; rfl
  have g:Jw rs[k]=true:=by rw [l]; rfl
  rw [f,e,g]
  simp
  omega
  have f:KU rs[k]=false:=beq_eq_false_iff_ne.2 l
  by_cases m:rs[k]=[119,104,97,116]
  have e:Ko rs[k]=true:=by rw [m]; rfl
  have g:Jw rs[k]=true:=by rw [m]; rfl
  rw [f,e,g]
  simp
  omega
  have e:Ko rs[k]=false:=beq_eq_false_iff_ne.2 m
  have g:Jw rs[k]=false:=by unfold Jw; rw [f,e]; rfl
  rw [f,e,g]
  simpa using s
theorem Ai6(x:List (Int×Int))(g:x.length≤1048576):Kl x x=some true:=by
 unfold Kl
 rw [if_neg (by simp),N3 (Gx x x) x.length (fun _=>true) (some true) (some false) (by omega) (fun m k f=>?_) (fun m=>by rw [Gx,if_neg (by simp)])]
 simp
 rw [Gx,if_pos (by simp; omega),AY,BP f,Aa,Aa,AC (by omega)]
 have e:MG x[k] x[k]=true:=by unfold MG; simp
 rw [e]
 simp
theorem Ai5(x:List IX)(g:x.length≤1048576):It x x=some true:=by
 unfold It
 rw [if_neg (by simp),N3 (EM x x) x.length (fun _=>true) (some true) (some false) (by omega) (fun m k f=>?_) (fun m=>by rw [EM,if_neg (by simp)])]
 simp
 rw [EM,if_pos (by simp; omega),AY,BP f,Aa,Aa,AC (by omega)]
 have e:MF x[k] x[k]=true:=by unfold MF; simp
 rw [e]
 simp
def MO(s:List Ag):List Ag:=DA (LS (D6 Jw (EW s)) (Cx s) 1)
theorem Aa8{s:List Ag}(h:BH s=true):BH (MO s)=true∧PO (MO s)=PO s∧MP (D6 Jw (EW s)) s 1=MO s∧Rg s 1=1+((Cx s).length:Int):=by
 have u:=E4.1 h
 have aa:∀ a ∈ Cx s,(10:Ag) ∉ a:=fun a g=>SK g
 have hk:=U0 (D6 Jw (EW s)) (Cx s) 1
 have v:=Pe u.2.1
 have l:=Xn (D6 Jw (EW s)) (Cx s) 1 aa
 rw [v] at l
 have hl:Cx (MO s)=LS (D6 Jw (EW s)) (Cx s) 1:=Vz fun a g=>aa a (Uz g)
 have f:=O3 h
 have hg:=Adr (Cx s) Ln Acc (by have:=f.n40; show 0+_≤40; omega) f.each
 have ad:=V1 (D6 Jw (EW s)) (Cx s) Ln 1 hg (fun i u=>by
  rw [RG]
  constructor
  rintro ⟨j,v,e,m⟩
  have:j=i:=by omega
  subst this
  exact m
  intro m
  exact ⟨i,u,by omega,m⟩)
 have hv:BH (MO s)=true:=by
  refine E4.2 ⟨?_,Pd _,?_⟩
  unfold MO
  rw [v] at hk
  omega
  unfold MO
  rw [← Pc (Pd _),show Cx (DA (LS (D6 Jw (EW s)) (Cx s) 1))=_ from hl]
  have:=f.n40
  omega
 refine ⟨hv,?_,l.1,l.2⟩
 unfold PO
 rw [hl,ad]
theorem Acs{s:List Ag}(hs:s.length≤4194304)(F:List Int)(b:Bool)(hF:F.length≤100):CH s (F,b) FU [] 1 0=CH s (F,b) 1 (MP F s 1) (Rg s 1) (s.length:Int):=by
 have ad:∀(d k m:Nat)(y:List Ag)(n:Int),s.length-k=d→k≤s.length→d<m→y.length≤k→0≤n→n≤(k:Int)+1→CH s (F,b) m y n (k:Int)=CH s (F,b) 1 (y++MP F (s.drop k) n) (Rg (s.drop k) n) (s.length:Int):=by
  intro d
  induction d with
  | zero =>
   intro k m y n hd hk hm hy v h1
   have:k=s.length:=by omega
   subst this
   cases m with
   | zero=>omega
   | succ m =>
    rw [List.drop_length,MP,Rg,List.append_nil,CH,CH,if_neg (by simp),if_neg (by simp)]
  | succ d f =>
   intro k m y n hd hk hm hy v h1
   have l:k<s.length:=by omega
   cases m with
   | zero=>omega
   | succ m =>
    rw [CH,if_pos (by simp; omega)]
    unfold Fx Bf
    dsimp only
    rw [Ahv F n (by omega),Aa,Ic l]
    simp only [Aa]
    rw [List.drop_eq_getElem_cons l,MP,Rg,AC (by omega)]
    have u:sl s (k:Int) ((k+1:Nat):Int)=some [s[k]]:=by
     rw [Adg _ (by omega) (by omega),List.take_succ_eq_append_getElem l,List.drop_append_of_le_length (by simp; omega),List.drop_of_length_le (by simp; omega),List.nil_append]
    by_cases g:s[k]=10
    have h:((s[k].toNat:Int)==10)=true:=by rw [g]; rfl
    rw [h]
    simp only [if_true,if_pos g]
    rw [AA (by omega) (by omega)]
    by_cases e:n ∈ F
    rw [decide_eq_true e,if_neg (by simp),if_pos e,f (k+1) m y (n+1) (by omega) (by omega) (by omega) (by omega) (by omega) (by omega)]
    rw [decide_eq_false e,if_pos (by rfl),if_neg e,u,Aa,Bg (by simp; omega),Aa,f (k+1) m (y++[s[k]]) (n+1) (by omega) (by omega) (by omega) (by simp; omega) (by omega) (by omega),List.append_assoc]
    rfl
    have h:((s[k].toNat:Int)==10)=false:=beq_eq_false_iff_ne.2 (Ni (c:=10) g)
    rw [h]
    simp only [Bool.false_eq_true,if_false,if_neg g]
    by_cases e:n ∈ F
    rw [decide_eq_true e,if_neg (by simp),if_pos e,f (k+1) m y n (by omega) (by omega) (by omega) (by omega) (by omega) (by omega)]
    rw [decide_eq_false e,if_pos (by rfl),if_neg e,u,Aa,Bg (by simp; omega),Aa,f (k+1) m (y++[s[k]]) n (by omega) (by omega) (by omega) (by simp; omega) (by omega) (by omega),List.append_assoc]
    rfl
 have:=ad s.length 0 FU [] 1 rfl (by omega) (Dw (by omega)) (by simp) (by omega) (by omega)
 simpa using this
theorem Aes{s:List Ag}(e:s.length≤4194304)(h:BH s=true):CH s (KO s) FU [] 1 0=some true:=by
 obtain ⟨r1,r2,r3,r4⟩:=Aa8 h
 have hr:=QZ h
 have u:KO s=(D6 Jw (EW s),true):=by unfold KO; rw [if_pos h]
 have aw:=Im Jw (EW s)
 have hk:=U0 (D6 Jw (EW s)) (Cx s) 1
 rw [Pe (E4.1 h).2.1] at hk
 have m:(MO s).length≤4194304:=by unfold MO; omega
 have c1:=Abv s
 have c2:=Abd s
 have c3:=Ab7 s
 have f:=TE h
 have ec:JF (MO s)=JF s:=by unfold JF; rw [if_pos r1,if_pos h,r2]
 have em:Kv (MO s)=Kv s:=by unfold Kv; rw [if_pos r1,if_pos h,r2]
 have ev:LQ (MO s)=LQ s:=by unfold LQ; rw [if_pos r1,if_pos h,r2]
 have b1:(JF s).2=true:=by unfold JF; rw [if_pos h]
 have b2:(Kv s).2=true:=by unfold Kv; rw [if_pos h]
 have b3:(LQ s).2=true:=by unfold LQ; rw [if_pos h]
 have o1:DD (JF s).1=some true:=by
  rw [GW _ (by omega)]
  unfold JF
  rw [if_pos h,f.ch]
 have o2:Hv (Kv s).1=some true:=by
  rw [PN _ (by omega)]
  unfold Kv
  rw [if_pos h,f.mu]
 have v:EC (LQ s).1=some true:=by
  rw [Lu (by omega)]
  unfold LQ
  rw [if_pos h,f.ve]
 have q1:Jc (JF s).1 (JF s).1=some true:=by rw [Aew _ _ (by omega) (by omega)]; simp
 have q2:=Ai6 (Kv s).1 (by omega)
 have q3:=Ai5 (LQ s).1 (by omega)
 have ct:=Xw (EW s) (EW s).length (Nat.le_refl _)
 rw [List.take_length] at ct
 have h1:=Im KU (EW s)
 have h2:=Im Ko (EW s)
 have au:=Aet (l:=s)
 have g:(Ah ((Mg s).1+(Mg s).2.1)==((KO s).1.length:Int))=true:=by
  unfold Mg
  rw [if_pos h,u,beq_iff_eq]
  dsimp only
  rw [AA (by omega) (by omega)]
  omega
 have d2:(Ah (Ah ((Mg s).1+(Mg s).2.1)+(Mg s).2.2.1)==Ah (Rg s 1-1))=true:=by
  unfold Mg
  rw [if_pos h,r4,beq_iff_eq]
  dsimp only
  rw [AA (x:=((D6 KU (EW s)).length:Int)+((D6 Ko (EW s)).length:Int)) (by omega) (by omega),AA (by omega) (by omega),AA (by omega) (by omega)]
  omega
 have d3:(Mg s).2.2.2=true:=by unfold Mg; rw [if_pos h]
 rw [u] at g ⊢
 rw [Acs e _ _ (by omega),CH,if_neg (by simp),r3,Qr e,Aa,Qr m,Aa,Vi e,Aa,Qq e,Aa,Qq m,Aa,Vh e,Aa,OB e,Aa,OB m,Aa,SA e,Aa,TK e,Aa,ec,em,ev]
 unfold Bf
 dsimp only at g ⊢
 simp only [b1,q1,b2,q2,b3,q3,d3,g,d2,o1,o2,v,if_true,Aa]
theorem ZG{s a b:List Ag}(hs:s.length≤1048576)(g:a.length≤1048576)(m:b.length≤1048576)(e x1:List Int)(hx:¬ (1048576<(Ah ((e.length:Int)+(x1.length:Int)))))(d0:Ga e=some s)(d1:FF x1=some (a,b)):Iu e x1=some true:=by
 have fl:=Adv s
 unfold Iu Bf jK0
 dsimp only
 rw [if_neg (by simpa using hx),d0,Aa,OH (by omega),Aa,XB (by omega),Aa,U6 (by omega),Aa,Uv (by omega),Aa,d1,Aa,U5 a b g m,Aa,Uu a b g m,Aa,Agu _ (by omega),Aa]
 rw [if_neg (by simp),if_neg (by simp),if_neg (by simp),if_neg (by simp),if_neg (by simp)]
 have u:(if (!(KO s).2)=true then some (PD s==[]) else CH s (KO s) FU [] 1 0)=some true:=by
  cases h:BH s with
  | false =>
   have f:KO s=([],false):=by unfold KO; rw [h]; rfl
   have e2:PD s=[]:=by unfold PD; rw [h]; rfl
   rw [f,e2]
   rfl
  | true =>
   have f:(KO s).2=true:=by unfold KO; rw [h]; rfl
   rw [f,if_neg (by simp),Aes (by omega) h]
 unfold Rh
 cases v:BH a&&BH b&&BH (a++b) with
 | false=>rw [if_neg (c:=false=true) (by simp),if_neg (by simp)]; exact u
 | true =>
  rw [Cq,Cq] at v
  obtain ⟨⟨o1,o2⟩,o3⟩:=v
  obtain ⟨t,ht⟩:=Aba o1 o2 o3
  have ai:(a++b).length≤4194304:=by rw [Cy]; omega
  have ea:GP (a,b).1=some (PD a):=OH (l:=a) (by omega)
  rw [if_pos rfl,if_pos rfl,ea,Aa,OH ai,Aa,ht,if_neg (by rw [C9,Cy]; omega),KS _ (by simp),Aa,List.take_left,if_neg (by simp)]
  exact u
theorem Agb(x:Cur)(l:List (List Ag)){m:Int}(h:Cu x.1 m x.2.1)(f:2≤m)(hl:l≠[])(s:∀ v ∈ l,v.length≤13):Tot (BF x l) (Pk x.1 (m-2) fun v=>v.length≤13):=by
 unfold BF
 refine Tot.bind (LG x _ h f) fun u e=>?_
 obtain ⟨v,hv,g,_⟩:=YU l hl e.1
 exact Tot.bindE hv (Tot.some ⟨s v g,rfl,e.2.2⟩)
theorem Gn{l m:List Ag}{a b:Nat}(f:l.length≤a)(e:m.length≤b)(h:a+b≤100000000:=by decide):Tot (BB l m) (fun r=>r.length≤a+b) :=
 ⟨l++m,Bg (by omega),by simp only [Cy]; omega⟩
theorem Vw{n:Int}(h:0≤n∧n≤9999):Tot (CL n) (fun t=>t.length≤4) :=
 ⟨_,Kq h.1 (by omega),HN (k:=3) (by omega)⟩
def Ah4(c:List Int)(m:Int)(v:List Ag×List Int×Int×Int):Prop:=v.1.length≤100∧v.2.1=c∧Cu c m v.2.2.1
theorem Aam(x:Cur){m:Int}(h:Cu x.1 m x.2.1)(hm:20≤m):Tot (Do x) (Ah4 x.1 (m-20)):=by
 unfold Do
 refine Tot.bind (LG x 4 h (by omega)) fun u3 ⟨a1,_,a3⟩=>Tot.bind (Vw (by omega)) fun t1 n1=>?_
 refine Tot.bind (LG (x.1,u3.2.2.1,u3.2.2.2) 4 a3 (by omega)) fun av ⟨b1,_,b3⟩=>Tot.bind (Vw (by omega)) fun t2 n2=>?_
 refine Tot.bind (Zr (x.1,av.2.2.1,av.2.2.2) _ (fun v=>0≤v∧v≤9999) b3 (by omega) (by simp) (by decide)) fun ao ⟨c1,_,c3⟩=>Tot.bind (Vw c1) fun t3 n3=>?_
 refine Tot.bind (Zr (x.1,ao.2.2.1,ao.2.2.2) _ (fun v=>0≤v∧v≤9999) c3 (by omega) (by simp) (by decide)) fun aq ⟨d1,_,d3⟩=>Tot.bind (Vw d1) fun t4 n4=>?_
 refine Tot.bind (LG (x.1,aq.2.2.1,aq.2.2.2) 20 d3 (by omega)) fun ae ⟨e1,_,e3⟩=>?_
 have a8:Cu x.1 (m-20) ae.2.2.1:=e3.mono (by omega) (by omega)
 have aj:∀{v:List Ag}{a:Nat}(s:Int),v.length≤a→a≤100→Tot (some (v,(x.1,ae.2.2.1,s))) (Ah4 x.1 (m-20)):=fun s h1 f=>Tot.some ⟨Az h1 f,rfl,a8⟩
 have e4:Cu x.1 (m-10) ae.2.2.1:=e3.mono (by omega) (by omega)
 have ab:∀(l:List (List Ag)),l≠[]→(∀ v ∈ l,v.length≤13)→Tot (BF (x.1,ae.2.2.1,ae.2.2.2) l) (Pk x.1 (m-12) fun v=>v.length≤13):=fun l h1 f=>(Agb (x.1,ae.2.2.1,ae.2.2.2) l e4 (by omega) h1 f).mono fun v e=>⟨e.1,e.2.1,e.2.2.mono (by omega) (by omega)⟩
 have am:∀(p q:Int)(l:List (List Ag)),Cu x.1 (m-12) p→l≠[]→(∀ v ∈ l,v.length≤13)→Tot (BF (x.1,p,q) l) (Pk x.1 (m-14) fun v=>v.length≤13):=fun p q l hp h1 f=>(Agb (x.1,p,q) l hp (by omega) h1 f).mono fun v e=>⟨e.1,e.2.1,e.2.2.mono (by omega) (by omega)⟩
 refine Tot.j1 (fun _=>True) (fun _ _=>?_) (fun k g=>Tot.ite (fun _=>g _ trivial) fun _=>Tot.ite (fun _=>g _ trivial) fun _=>g _ trivial)
 refine Tot.ite (fun _=>Tot.bind (Gn (a:=5) (by decide) n3) fun u h1=>Tot.bind (Gn (b:=1) h1 (by decide)) fun v2 f=>Tot.bind (Gn f n4) fun v3 h3=>aj _ h3 (by decide)) fun _=>?_
 refine Tot.j1 (fun _=>True) (fun _ _=>?_) (fun k g=>Tot.ite (fun _=>g _ trivial) fun _=>g _ trivial)
 refine Tot.ite (fun _=>Tot.bind (Gn (a:=6) (by decide) n1) fun u h1=>Tot.bind (Gn (b:=1) h1 (by decide)) fun v2 f=>Tot.bind (Gn f n3) fun v3 h3=>Tot.bind (Gn (b:=1) h3 (by decide)) fun v4 h4=>Tot.bind (Gn h4 n4) fun v5 h5=>aj _ h5 (by decide)) fun _=>?_
 refine Tot.ite (fun _=>Tot.bind (ab _ (by simp) (by decide)) fun v e=>Tot.some ⟨Az e.1 (by decide),rfl,e.2.2.mono (by omega) (by omega)⟩) fun _=>?_
 refine Tot.ite (fun _=>Tot.bind (ab _ (by simp) (by decide)) fun v e=>Tot.bind (Gn (a:=7) (by decide) e.1) fun u h1=>Tot.some ⟨Az h1 (by decide),rfl,e.2.2.mono (by omega) (by omega)⟩) fun _=>?_
 refine Tot.j1 (fun _=>True) (fun _ _=>?_) (fun k g=>Tot.ite (fun _=>g _ trivial) fun _=>g _ trivial)
 refine Tot.ite (fun _=>Tot.bind (ab _ (by simp) (by decide)) fun v e=>Tot.bind (am _ _ _ e.2.2 (by simp) (by decide)) fun y hy=>Tot.bind (Gn e.1 hy.1) fun u h1=>Tot.some ⟨Az h1 (by decide),rfl,hy.2.2.mono (by omega) (by omega)⟩) fun _=>?_
 refine Tot.ite (fun _=>Tot.bind (Gn (a:=5) (by decide) n1) fun u h1=>aj _ h1 (by decide)) fun _=>?_
 refine Tot.ite (fun _=>Tot.bind (Gn (a:=6) (by decide) n1) fun u h1=>Tot.bind (Gn (b:=1) h1 (by decide)) fun v2 f=>Tot.bind (Gn f n2) fun v3 h3=>aj _ h3 (by decide)) fun _=>?_
 refine Tot.j1 (fun _=>True) (fun _ _=>?_) (fun k g=>Tot.ite (fun _=>g _ trivial) fun _=>g _ trivial)
 refine Tot.ite (fun _=>Tot.bind (ab _ (by simp) (by decide)) fun v e=>Tot.bind (Gn (a:=8) (by decide) e.1) fun u h1=>Tot.bind (Gn (b:=1) h1 (by decide)) fun v2 f=>Tot.bind (am _ _ _ e.2.2 (by simp) (by decide)) fun y hy=>Tot.bind (Gn f hy.1) fun v3 h3=>Tot.some ⟨Az h3 (by decide),rfl,hy.2.2.mono (by omega) (by omega)⟩) fun _=>?_
 refine Tot.ite (fun _=>Tot.bind (ab _ (by simp) (by decide)) fun v e=>Tot.bind (Gn (a:=5) (by decide) e.1) fun u h1=>Tot.some ⟨Az h1 (by decide),rfl,e.2.2.mono (by omega) (by omega)⟩) fun _=>?_
 refine Tot.ite (fun _=>Tot.bind (Gn (a:=6) (by decide) n1) fun u h1=>Tot.bind (Gn (b:=1) h1 (by decide)) fun v2 f=>Tot.bind (Gn f n2) fun v3 h3=>Tot.bind (Gn (b:=1) h3 (by decide)) fun v4 h4=>Tot.bind (ab _ (by simp) (by decide)) fun v e=>Tot.bind (Gn h4 e.1) fun v5 h5=>Tot.bind (Gn (b:=1) h5 (by decide)) fun v6 h6=>Tot.bind (am _ _ _ e.2.2 (by simp) (by decide)) fun y hy=>Tot.bind (Gn h6 hy.1) fun v7 h7=>Tot.some ⟨Az h7 (by decide),rfl,hy.2.2.mono (by omega) (by omega)⟩) fun _=>?_
 refine Tot.ite (fun _=>Tot.bind (Gn (a:=4) (by decide) n2) fun u h1=>Tot.bind (Gn (b:=1) h1 (by decide)) fun v2 f=>Tot.bind (ab _ (by simp) (by decide)) fun v e=>Tot.bind (Gn f e.1) fun v5 h5=>Tot.some ⟨Az h5 (by decide),rfl,e.2.2.mono (by omega) (by omega)⟩) fun _=>?_
 refine Tot.j1 (fun _=>True) (fun _ _=>?_) (fun k g=>Tot.ite (fun _=>g _ trivial) fun _=>g _ trivial)
 refine Tot.ite (fun _=>Tot.bind (Gn (a:=8) (by decide) n1) fun u h1=>Tot.bind (Gn (b:=1) h1 (by decide)) fun v2 f=>Tot.bind (Gn f n2) fun v3 h3=>Tot.bind (Gn (b:=1) h3 (by decide)) fun v4 h4=>Tot.bind (ab _ (by simp) (by decide)) fun v e=>Tot.bind (Gn h4 e.1) fun v5 h5=>Tot.some ⟨Az h5 (by decide),rfl,e.2.2.mono (by omega) (by omega)⟩) fun _=>?_
 refine Tot.ite (fun _=>Tot.bind (Gn (a:=6) (by decide) n1) fun u h1=>aj _ h1 (by decide)) fun _=>?_
 exact Tot.bind (ab _ (by simp) (by decide)) fun v e=>Tot.some ⟨Az e.1 (by decide),rfl,e.2.2.mono (by omega) (by omega)⟩
theorem Ae9(e:List Ag→Ae (List Ag)){Q:List Ag→Prop}(h:∀ v,v.length≤10000→Tot (e v) Q):∀(d m:Nat)(y:List Ag)(n:Int),n.toNat=d→d<m→n≤1000→y.length+5*d≤10000→Tot (DW e m y n) Q:=by
 intro d
 induction d with
 | zero =>
  intro m y n s l h1 f
  cases m with
  | zero=>omega
  | succ m=>rw [DW,if_neg (by simp; omega)]; exact h _ (by omega)
 | succ d g =>
  intro m y n s l h1 f
  cases m with
  | zero=>omega
  | succ m =>
   rw [DW,if_pos (by simp; omega),Bg (by simp; omega),Aa,AA (by omega) (by omega)]
   exact g m _ (n-1) (by omega) (by omega) (by omega) (by simp; omega)
theorem Aiz(u:Int×(List Int×Int×Int))(e:List Ag→Ae (List Ag)){Q:List Ag→Prop}(hu:0≤u.1∧u.1≤10)(h:∀ v,v.length≤10000→Tot (e v) Q):∀(d m:Nat)(y:List Ag),1999+u.1.toNat-y.length=d→d<m→y.length≤3000→Tot (DV u e m y) Q:=by
 intro d
 induction d with
 | zero =>
  intro m y s l f
  cases m with
  | zero=>omega
  | succ m =>
   rw [DV,AA (by omega) (by omega),if_neg (by simp; omega),Bg (by simp; omega),Aa]
   exact h _ (by simp; omega)
 | succ d g =>
  intro m y s l f
  cases m with
  | zero=>omega
  | succ m =>
   rw [DV,AA (by omega) (by omega),if_pos (by simp; omega),Bg (by simp; omega),Aa]
   exact g m _ (by simp; omega) (by omega) (by simp; omega)
theorem Ae4(c:List Int):∀(d m:Nat)(p q:Int)(y:List Ag)(n:Int),(n+1).toNat=d→d<m→n≤100→y.length+101*d≤20000→(n<0→0<y.length)→Cu c (20*(d:Int)+100) p→Tot (D2 c m p q y n) (fun s=>s.length≤1000000):=by
 intro d
 induction d with
 | zero =>
  intro m p q y n hn hm h1 h u g
  cases m with
  | zero=>omega
  | succ m =>
   rw [D2,if_neg (by simp; omega)]
   refine Tot.j1 (fun y=>y.length≤20000) (fun y h=>Tot.some (by omega)) (fun k f=>?_)
   refine Tot.bind (LG (c,p,q) 30 g (by omega)) fun e ⟨_,_,e3⟩=>?_
   refine Tot.ite (fun _=>?_) fun _=>Tot.ite (fun _=>?_) fun _=>Tot.ite (fun _=>Tot.some (by simp)) fun _=>Tot.ite (fun _=>?_) fun _=>f _ (by omega)
   have h0:=u (by omega)
   rw [AA (by omega) (by omega),show (y.length:Int)-1=((y.length-1:Nat):Int) by omega,KS _ (by omega),Aa]
   exact Tot.some (by simp; omega)
   refine Tot.bind (LG (c,e.2.2.1,e.2.2.2) 2 e3 (by omega)) fun ab ⟨l,_,_⟩=>?_
   rw [AA (by omega) (by omega)]
   exact Ae9 k (fun v hv=>f v (by omega)) _ FU [] (40+ab.1) rfl (Dw (by omega)) (by omega) (by simp; omega)
   refine Tot.bind (LG (c,e.2.2.1,e.2.2.2) 2 e3 (by omega)) fun ah ⟨l,_,_⟩=>?_
   exact Aiz ah k ⟨l.1,by omega⟩ (fun v hv=>f v (by omega)) _ FU _ rfl (Dw (by omega)) (by simp)
 | succ d ih =>
  intro m p q y n hn hm h1 h u g
  cases m with
  | zero=>omega
  | succ m =>
   rw [D2,if_pos (by simp; omega)]
   refine Tot.bind (Aam (c,p,q) g (by omega)) fun ak ⟨g1,g2,g3⟩=>?_
   rw [Bg (by simp; omega),Aa,Bg (by simp; omega),Aa,AA (by omega) (by omega)]
   exact ih m _ _ _ (n-1) (by omega) (by omega) (by omega) (by simp; omega) (fun _=>by simp; omega) (g3.mono (by omega) (by omega))

theorem ZX{c:List Int}(u:∀ b ∈ c,0≤b∧b≤255):Tot (Ga c) (fun s=>s.length≤1000000):=by
 unfold Ga
 have l:Cu c 100000 0:=⟨u,by omega,by omega,by omega⟩
 unfold Sa
 dsimp only
 refine Tot.bind (Ada (c,0,0) 5 l (by omega)) fun ac ⟨_,_,g⟩=>?_
 have f:∀(p q:Int)(y:List Ag),Cu c 99998 p→y.length≤200→Tot (Option.bind (BM (c,p,q) 18) fun e=>D2 c FU e.2.2.1 e.2.2.2 y e.1) (fun s=>s.length≤1000000):=by
  intro p q y v hy
  refine Tot.bind (LG (c,p,q) 18 v (by omega)) fun e ⟨f1,_,m⟩=>?_
  exact Ae4 c _ FU _ _ y e.1 rfl (Dw (by omega)) (by omega) (by omega) (fun h=>by omega) (m.mono (by omega) (by omega))
 refine Tot.ite (fun _=>f _ _ _ g (by decide)) fun _=>f _ _ _ g (by decide)
theorem Afa{c:List Int}(f:∀ b ∈ c,0≤b∧b≤255):Tot (FF c) (fun s=>s.1.length≤1000000∧s.2.length≤1000000):=by
 unfold FF
 have h:Cu c 100000 0:=⟨f,by omega,by omega,by omega⟩
 refine Tot.bind (ZX f) fun a e=>?_
 refine Tot.bind (Aam (c,0,0) h (by omega)) fun g ⟨u,v,m⟩=>?_
 refine Tot.bind (Gn (b:=1) u (by decide)) fun l j1=>?_
 unfold Bf
 dsimp only
 refine Tot.bind (Ada (c,g.2.2.1,g.2.2.2) 10 m (by omega)) fun ab _=>?_
 exact Tot.ite (fun _=>Tot.some ⟨e,by show List.length [107,101,101,112]≤1000000; decide⟩) fun _=>Tot.some ⟨e,by show l.length≤1000000; omega⟩
theorem UE(e x1:List Int)(h:Ab4 Wl e)(h1:Ab4 Wl x1):Iu e x1=some true:=by
 by_cases g:1048576<(Ah ((e.length:Int)+(x1.length:Int)))
 unfold Iu
 rw [if_pos (decide_eq_true g)]
 obtain ⟨s,m,v⟩:=ZX (c:=e) (fun b f=>h.2 b f)
 obtain ⟨⟨a,b⟩,u,l,f⟩:=Afa (c:=x1) (fun b f=>h1.2 b f)
 dsimp only at l f
 exact ZG (by omega) (by omega) (by omega) e x1 g m u
end Go.Proofs.YtellehgihceicaaGreatDoor
