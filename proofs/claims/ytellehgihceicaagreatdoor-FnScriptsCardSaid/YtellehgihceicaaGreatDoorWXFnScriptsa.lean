/-
  THE WALKS of functions of this seat, by program (gen.py, prune.py).
-/
import Derived.Test.YtellehgihceicaaGreatDoorBld
set_option linter.unusedVariables false
set_option linter.unusedSimpArgs false
set_option maxRecDepth 100000
set_option maxHeartbeats 1600000
namespace Go.Proofs.YtellehgihceicaaGreatDoor
open Go Go.RowKit Go.Proofs.Tryz
theorem WN(b:Af)(r:Akg×Akg×Int×Akg×Akh×Akj×(List Int)×(List Int)×Int)(h:Mw = some r) :
  A2 63 [] b fun e w'=>∃(j:Nat)(m:Ap),e=.returned (.pointer (some ⟨j,0,none⟩))∧Bl b w'∧Sp b w' [A6 B9 74 m j r]:=by
 refine cm func63 ntmps63 J fun Q n hP o p=>?_
 unfold Mw at h
 refine Am 1 J<|Al fun _ q=>DS (zs:=[iv 0,iv 0]) (out:=[iv 0,iv 0]) (vs:=[]) (css:=[]) Bt MQ J J J J J<|AZ (vs:=[.agg #[iv 0,iv 0]]) (l:=[(0,0)]) CR underlying26 J J J J J J o p fun c F4 w5 _ s t=>DS (zs:=[iv 0,iv 0]) (out:=[iv 0,iv 0]) (vs:=[]) (css:=[]) Bt MQ J J J J J<|AZ (vs:=[.agg #[iv 0,iv 0]]) (l:=[(0,0)]) CR underlying26 J J J J J J s t fun d ak al _ u v=>DS (zs:=[iv 0,iv 0]) (out:=[iv 4,iv 120]) (vs:=[iv 4,iv 120]) (css:=[[iv 4],[iv 120]]) Hb XX J J J J J<|AZ (vs:=[.agg #[iv 4,iv 120]]) (l:=[(4,120)]) Hz underlying31 J J J J J J u v fun f am an _ w x=>DS (zs:=[iv 0,iv 0,iv 0]) (out:=[iv (-1),iv 0,iv 0]) (vs:=[iv (-1)]) (css:=[[iv (-1)]]) LR XW J J J J J<|AZ (vs:=[.agg #[iv (-1),iv 0,iv 0]]) (l:=[(-1,0,0)]) Hy underlying41 J J J J J J w x fun g ao ap _ y a=>DS (zs:=[.slice none 0 0,.slice none 0 0,iv 0,.slice none 0 0,.slice none 0 0,.slice none 0 0,.slice none 0 0,.slice none 0 0,iv 0]) (out:=[c,d,iv 8,f,.slice none 0 0,g,.slice none 0 0,.slice none 0 0,iv 0]) (vs:=[c,d,iv 8,f,g]) (css:=[[c],[d],[iv 8],[f],[g]]) Ai3 Ai8 J J (by simp only [List.map_cons,List.map_nil,Ch ((a.own_ro (i:=3) J).one),Ch ((a.own_ro (i:=2) J).one),Ch ((a.own_ro (i:=1) J).one),Ch ((a.own_ro (i:=0) J).one)] <;> rfl) J J<|CV J y a fun k z _ aa ab=>An 1 J<|q<|Aw ?_
 have ac:=ab.push0 (r:=Ab A4 [] (.slice none 0 0) []) J fun _=>.inl ⟨rfl,rfl,rfl⟩
 have ad:=ac.push0 (r:=Ab As [] (.slice none 0 0) []) J fun _=>.inl ⟨rfl,rfl,rfl⟩
 have ae:=ad.push0 (r:=Ab As [] (.slice none 0 0) []) J fun _=>.inl ⟨rfl,rfl,rfl⟩
 obtain ⟨af,ag⟩:∃ F,Sp b z [A6 B9 74 F k ([(0,0)],[(0,0)],8,[(4,120)],[],[(-1,0,0)],[],[],0)]:=⟨_,DT (ae.sel [3,7,6,5,2,4,1,0] J)⟩
 refine rt n J J<|by cases h; exact ⟨k,af,rfl,aa,ag.sel [0] J⟩
theorem Ru(c:Af)(d:List Ag)(f:Int)(r:List (List Ag))(b:E3 d f=some r) :
  A2 73 [.string (AL d),.int .u8 f] c fun e w'=>∃(z:Ac)(G0:Ap),e=.returned z∧Bl c w'∧Sp c w' [Ab BK G0 z r]:=by
 refine cm func73 ntmps73 J fun Q hQ hP hB hS=>?_
 unfold E3 at b
 refine Am 1 J<|Am 1 J<|Am 1 J<|Ao fun _ ak=>Am 1 J<|A0<|AN (fun m a u=>∃(j:List (List Ag))(n g:Int)(o:Ac)(v:Ap),St 34 [(0,.string (AL d)),(1,.int .u8 f),(5,o),(6,iv n),(7,iv g)] a∧Bl c u∧Sp c u [Ab BK v o j]∧DN d f m j n g=some r) FU ?_ ?_
 have al:=hS.push0 (r:=Ab BK [] (.slice none 0 0) []) J fun _=>.inl ⟨rfl,rfl,rfl⟩
 exact fun a ha=>⟨[],0,0,.slice none 0 0,[],ha.sb J,hB,al.sel [0] J,b⟩
 rintro h a u ⟨j,n,g,o,v,ha,w,x,b⟩ bj am
 refine BC ?_ ha
 cases h with
 | zero=>exact Be b
 | succ h =>
  obtain ⟨bk,aa⟩:∃ k,k=DN d f h:=⟨_,rfl⟩
  rw [DN,← aa] at b
  refine Ao fun _ an=>Al fun _ ao=>wp 2 J<|Dl underlying9 J J<|An 1 J<|ao<|A3 J b (fun _ b=>?_)<|fun _ b=>?_
  refine Au<|an ?_
  refine Ao fun ap aq=>?_
  obtain ⟨ar,au,b⟩:=Np b
  have ab:∀(p:List (List Ag))(q:Int)(s:Ac)(y:Ap)(t:Af)(_:ar p q=some r)(_:Bl c t)(_:Sp c t [Ab BK y s p]),∀ a,St 34 [(0,.string (AL d)),(1,.int .u8 f),(5,s),(6,iv q),(7,iv g)] a→ap a t:=by
   intro p q s y t b av aw
   subst au
   refine aq<|Aq<|An 3 J ?_
   rw [aa] at b
   exact fun a ha=>am a _ h (AB h) ⟨p,q,Ah (g+1),s,y,ha.sb J,av,aw.sel [0] J,b⟩
  refine A0<|Al fun _ ax=>wp 2 J<|bB b fun bl ay b=>Fd underlying9 J J J ay<|An 2 J<|ax<|A3 J b (fun _ b=>?_)<|fun _ b=>?_
  refine Al fun _ az=>?_
  refine wp 4 J<|bB b fun ac a0 b=>I2 underlying9 J J a0 (.inr ⟨_,_,rfl,rfl⟩) (.inr ⟨_,_,rfl,rfl⟩)<|AZ (vs:=[.string (AL ac)]) (l:=[ac]) Gl underlying61 J J J J J J w x fun bm bn a1 _ a2 ad=>bB b fun a3 a4 b=>AE (i:=1) (S:=(·<a1.heap.size)) Gl underlying61 J J J a2 ad J (ad.own_ro (i:=0) J) a4 fun a5 a6 bo _ a7 a8=>An 1 J<|az<|Aq<|An 3 J ?_
  exact jx (ab a3 (Ah (g+1)) a5 a6 _ b a7 (a8.sel [1] J)) J
  refine Au ?_
  exact jx (ab j n o v _ b w (x.sel [0] J)) J
  refine Bb<|ak ?_
  refine Al fun _ a9=>wp 3 J<|bB b fun ae ba b=>I2 underlying9 J J ba (.inr ⟨_,_,rfl,rfl⟩) (.inl ⟨rfl,rfl⟩)<|AZ (vs:=[.string (AL ae)]) (l:=[ae]) Gl underlying61 J J J J J J w x fun bp bq bb _ bc af=>bB b fun br bd b=>AE (i:=1) (S:=(·<bb.heap.size)) Gl underlying61 J J J bc af J (af.own_ro (i:=0) J) bd fun be bf bs _ bg bh=>An 1 J<|a9<|Aw<|rt hQ J J<|by cases b; exact ⟨be,bf,rfl,bg,bh.sel [1] J⟩
theorem M1(j:Af)(h:List Ag)(r:(List (List Ag))×Bool)(c:FE h=some r) :
  A2 59 [.string (AL h)] j fun e w'=>∃(s:Ac)(G0:Ap),e=.returned (.tuple #[s,.bool r.2])∧Bl j w'∧Sp j w' [Ab BK G0 s r.1]:=by
 refine cm func59 ntmps59 J fun Q l hP m n=>?_
 unfold FE at c
 refine Am 2 J<|Ao fun _ ac=>Ao fun K3 ae=>?_
 obtain ⟨k8,ag,c⟩:=Cb c
 have o:∀(p:Bool)(k:Af)(_:k8 p=some r)(_:Bl j k)(_:Sp j k []),∀ a,St 31 [(0,.string (AL h)),(19,.bool p)] a→K3 a k:=by
  intro p k c t u
  subst ag
  refine ae<|A3 J c (fun _ c=>?_)<|fun _ c=>?_
  refine Am 2 J ?_
  refine Aw ?_
  have ah:=u.push0 (r:=Ab BK [] (.slice none 0 0) []) J fun _=>.inl ⟨rfl,rfl,rfl⟩
  refine rt l J J<|by cases c; exact ⟨.slice none 0 0,[],rfl,t,ah.sel [0] J⟩
  refine Au<|ac ?_
  refine Al fun _ ai=>wp 1 J<|bB c fun v aj c=>Ds J call73 t u (Ru k h 10 _ aj) J fun az a0 a1 _ _ w g=>An 1 J<|ai<|Al fun _ ak=>wp 2 J<|BO (g.own_ro (i:=0) J) underlying61 J<|wp 1 J<|bB c fun x q c=>Mp (e:=BK) underlying61 J J (g.ok (i:=0) J:ownS BK _ _ _ _).rd q (.inl ⟨rfl,rfl⟩) (.inr ⟨_,_,rfl,rfl⟩) fun y al am=>?_
  have an:=al.mono fun b hb=>((g.get (i:=0) J).2.1 b hb).2
  refine An 1 J<|ak<|Ao fun _ ao=>Al fun _ ap=>wp 1 J<|BO an underlying61 J<|An 1 J<|ap<|A3 J c (fun _ c=>?_)<|fun _ c=>?_
  refine Am 2 J ?_
  refine Aw ?_
  have aq:=g.push0 (r:=Ab BK [] (.slice none 0 0) []) J fun _=>.inl ⟨rfl,rfl,rfl⟩
  refine rt l J J<|by cases c; exact ⟨.slice none 0 0,[],rfl,w,aq.sel [0] J⟩
  refine Au<|ao ?_
  refine Am 3 J<|Aw ?_
  obtain ⟨z,aa,ar,au⟩:=Aad (g.ok (i:=0) J:ownS BK _ _ _ _) (g.get (i:=0) J).1 am (XV q).1
  rw [show List.take ((Ah ((List.length v:Int)-1)):Int).toNat v=x from (XV q).2.symm] at aa
  have av:=(g.sel [0] J).shrink (r':=Ab BK z y x) ar au fun _ hk=>aa.keep hk
  refine rt l J J<|by cases c; exact ⟨y,z,rfl,w,av.sel [0] J⟩
 refine Aq<|wp 1 J<|Dl underlying9 J J<|wp 2 J ?_
 rcases bE (decide (2000<(List.length h:Int))) with f|f
 replace c:=Bw f c
 refine wo J f<|wo J f<|wo J f<|D5 J J J<|D5 J J J<|D5 J J J<|D5 J J J<|D5 J J J<|D5 J J J<|wo J f<|A8 J J f J<|Ai ?_
 exact jx (o true _ c m (n.sel [] J)) J
 replace c:=BI f c
 refine wn J f<|wp 1 J<|wn J f<|Qe J J J<|wn J f<|wp 1 J ?_
 rcases bE (h != []) with d|d
 replace c:=Bw d c
 refine wn J d<|wp 1 J<|wn J d<|wp 1 J<|wn J d<|Dl underlying9 J J<|wn J d<|wp 1 J<|wn J d<|bB c fun aw ax c=>Fd underlying9 J J J ax<|wn J d<|wp 1 J<|wn J f<|A8 J J d J<|Ak J J f J<|Ai ?_
 exact jx (o ((UInt8.toNat aw:Int) != 10) _ c m (n.sel [] J)) J
 replace c:=BI d c
 refine wo J d<|wo J d<|wo J d<|wo J d<|wo J d<|wo J d<|wn J f<|Ak J J d J<|Ak J J f J<|Ai ?_
 exact jx (o false _ c m (n.sel [] J)) J
theorem WO(d:Af)(c:List Ag)(r:Int)(b:Hp c=some r) :
  A2 75 [.string (AL c)] d fun e w'=>e=.returned (iv r)∧Bl d w':=by
 refine cm func75 ntmps75 J fun Q g hP k l=>?_
 unfold Hp at b
 refine Am 1 J<|Ao fun _ ac=>Am 1 J<|A0<|Ao fun K4 ae=>?_
 obtain ⟨k9,ag,b⟩:=Cb b
 have m:∀(u:Bool)(n:Af)(_:k9 u=some r)(_:Bl d n)(_:Sp d n []),∀ a,St 26 [(3,.string (AL c)),(4,.bool u)] a→K4 a n:=by
  intro u n b f h
  subst ag
  refine ae<|A3 J b (fun _ b=>?_)<|fun _ b=>?_
  refine Am 1 J ?_
  refine Aw<|rt g J J<|by cases b; exact ⟨rfl,f⟩
  refine Ao fun ah ai=>?_
  obtain ⟨aj,ak,b⟩:=Cb b
  have i:∀(v:Bool)(o:Af)(_:aj v=some r)(_:Bl d o)(_:Sp d o []),∀ a,St 26 [(3,.string (AL c)),(9,.bool v)] a→ah a o:=by
   intro v o b j p
   subst ak
   refine ai<|A3 J b (fun _ b=>?_)<|fun _ b=>?_
   refine Am 1 J ?_
   refine Aw<|rt g J J<|by cases b; exact ⟨rfl,j⟩
   refine Ao fun al am=>?_
   obtain ⟨an,ao,b⟩:=Cb b
   have q:∀(w:Bool)(s:Af)(_:an w=some r)(_:Bl d s)(_:Sp d s []),∀ a,St 26 [(3,.string (AL c)),(16,.bool w)] a→al a s:=by
    intro w s b x aa
    subst ao
    refine am<|A3 J b (fun _ b=>?_)<|fun _ b=>?_
    refine Am 1 J ?_
    refine Aw<|rt g J J<|by cases b; exact ⟨rfl,x⟩
    refine Ao fun ap aq=>?_
    obtain ⟨ar,au,b⟩:=Cb b
    have ab:∀(y:Bool)(t:Af)(_:ar y=some r)(_:Bl d t)(_:Sp d t []),∀ a,St 26 [(3,.string (AL c)),(21,.bool y)] a→ap a t:=by
     intro y t b z a9
     subst au
     refine aq<|A3 J b (fun _ b=>?_)<|fun _ b=>?_
     refine Am 1 J ?_
     refine Aw<|rt g J J<|by cases b; exact ⟨rfl,z⟩
     refine Al fun _ av=>?_
     refine AR J J J<|An 1 J<|av<|A3 J b (fun _ b=>?_)<|fun _ b=>?_
     refine Am 1 J ?_
     refine Aw<|rt g J J<|by cases b; exact ⟨rfl,z⟩
     refine Au<|ac ?_
     refine Am 1 J<|Aw<|rt g J J<|by cases b; exact ⟨rfl,z⟩
    refine Al fun _ aw=>AR J J J<|An 1 J<|aw<|A3 J b (fun _ b=>?_)<|fun _ b=>?_
    refine Au ?_
    exact jx (ab (c==[112,108,97,99,101]) _ b x (aa.sel [] J)) J
    refine Aq ?_
    refine AR J J J<|An 1 J ?_
    exact jx (ab (c==[118,101,114,115,105,111,110]) _ b x (aa.sel [] J)) J
   refine Al fun _ ax=>AR J J J<|An 1 J<|ax<|A3 J b (fun _ b=>?_)<|fun _ b=>?_
   refine Au ?_
   exact jx (q (c==[115,112,111,116]) _ b j (p.sel [] J)) J
   refine Al fun _ ay=>?_
   refine AR J J J<|An 1 J<|ay<|A3 J b (fun _ b=>?_)<|fun _ b=>?_
   refine Au ?_
   exact jx (q (c==[115,111,117,110,100]) _ b j (p.sel [] J)) J
   refine Al fun _ az=>?_
   refine AR J J J<|An 1 J<|az<|A3 J b (fun _ b=>?_)<|fun _ b=>?_
   refine Au ?_
   exact jx (q (c==[109,101,97,115,117,114,101]) _ b j (p.sel [] J)) J
   refine Aq ?_
   refine AR J J J<|An 1 J ?_
   exact jx (q (c==[119,104,111]) _ b j (p.sel [] J)) J
  refine Al fun _ a0=>AR J J J<|An 1 J<|a0<|A3 J b (fun _ b=>?_)<|fun _ b=>?_
  refine Au ?_
  exact jx (i (c==[99,111,117,110,116,115]) _ b f (h.sel [] J)) J
  refine Al fun _ a1=>?_
  refine AR J J J<|An 1 J<|a1<|A3 J b (fun _ b=>?_)<|fun _ b=>?_
  refine Au ?_
  exact jx (i (c==[99,108,111,115,101]) _ b f (h.sel [] J)) J
  refine Al fun _ a2=>?_
  refine AR J J J<|An 1 J<|a2<|A3 J b (fun _ b=>?_)<|fun _ b=>?_
  refine Au ?_
  exact jx (i (c==[107,105,110,100]) _ b f (h.sel [] J)) J
  refine Al fun _ a3=>?_
  refine AR J J J<|An 1 J<|a3<|A3 J b (fun _ b=>?_)<|fun _ b=>?_
  refine Au ?_
  exact jx (i (c==[116,101,120,116]) _ b f (h.sel [] J)) J
  refine Al fun _ a4=>?_
  refine AR J J J<|An 1 J<|a4<|A3 J b (fun _ b=>?_)<|fun _ b=>?_
  refine Au ?_
  exact jx (i (c==[116,105,109,101]) _ b f (h.sel [] J)) J
  refine Aq ?_
  refine AR J J J<|An 1 J ?_
  exact jx (i (c==[115,116,97,116,101]) _ b f (h.sel [] J)) J
 refine Al fun _ a5=>AR J J J<|An 1 J<|a5<|A3 J b (fun _ b=>?_)<|fun _ b=>?_
 refine Au ?_
 exact jx (m (c==[109,105,114,114,111,114]) _ b k (l.sel [] J)) J
 refine Al fun _ a6=>?_
 refine AR J J J<|An 1 J<|a6<|A3 J b (fun _ b=>?_)<|fun _ b=>?_
 refine Au ?_
 exact jx (m (c==[107,101,101,112]) _ b k (l.sel [] J)) J
 refine Al fun _ a7=>?_
 refine AR J J J<|An 1 J<|a7<|A3 J b (fun _ b=>?_)<|fun _ b=>?_
 refine Au ?_
 exact jx (m (c==[115,117,109]) _ b k (l.sel [] J)) J
 refine Aq ?_
 refine AR J J J<|An 1 J ?_
 exact jx (m (c==[108,101,97,115,116]) _ b k (l.sel [] J)) J
theorem Cr(d:Af)(f h i:Int)(r:Bool)(b:Ca f h i=some r) :
  A2 77 [iv f,iv h,iv i] d fun e w'=>e=.returned (.bool r)∧Bl d w':=by
 refine cm func77 ntmps77 J fun Q n u k l=>?_
 unfold Ca at b
 refine Am 1 J<|Ao fun o p=>?_
 obtain ⟨q,s,b⟩:=Cb b
 have m:∀(j:Bool)(g:Af)(_:q j=some r)(_:Bl d g)(_:Sp d g []),∀ a,St 15 [(6,.bool j)] a→o a g:=by
  intro j g b t v
  subst s
  refine p<|Aw<|rt n J J<|by cases b; exact ⟨rfl,t⟩
 refine Aq<|wp 4 J ?_
 rcases bE (decide (h≤f)) with c|c
 replace b:=Bw c b
 refine wn J c<|wp 1 J<|wn J c<|wp 1 J<|wn J c<|wp 1 J<|A8 J J c J<|An 1 J ?_
 exact jx (m (decide (f≤i)) _ b k (l.sel [] J)) J
 replace b:=BI c b
 refine wo J c<|wo J c<|wo J c<|Ak J J c J<|An 1 J ?_
 exact jx (m false _ b k (l.sel [] J)) J
theorem XM(g:Af)(h:List Ag)(r:Int)(b:L6 h=some r) :
  A2 76 [.string (AL h)] g fun e w'=>e=.returned (iv r)∧Bl g w':=by
 refine cm func76 ntmps76 J fun Q p hP hB hS=>?_
 unfold L6 at b
 refine Am 1 J<|Ao fun _ af=>Ao fun K3 ah=>?_
 obtain ⟨k8,aj,b⟩:=Cb b
 have q:∀(s:Bool)(n:Af)(_:k8 s=some r)(_:Bl g n)(_:Sp g n []),∀ a,St 44 [(0,.string (AL h)),(18,.bool s)] a→K3 a n:=by
  intro s n b y ak
  subst aj
  refine ah<|A3 J b (fun _ b=>?_)<|fun _ b=>?_
  refine Am 1 J ?_
  refine Aw<|rt p J J<|by cases b; exact ⟨rfl,y⟩
  refine Au<|af ?_
  refine Am 1 J<|Ao fun _ al=>Am 1 J<|A0<|AN (fun m a t=>∃(i j:Int),St 44 [(0,.string (AL h)),(3,iv i),(4,iv j)] a∧Bl g t∧Sp g t []∧Gt h m i j=some r) FU ?_ ?_
  exact fun a ha=>⟨0,0,ha.sb J,y,ak.sel [] J,b⟩
  rintro l a t ⟨i,j,ha,u,z,b⟩ a9 am
  refine BC ?_ ha
  cases l with
  | zero=>exact Be b
  | succ l =>
   obtain ⟨ba,aa⟩:∃ k,k=Gt h l:=⟨_,rfl⟩
   rw [Gt,← aa] at b
   refine Ao fun _ an=>Al fun _ ao=>wp 2 J<|Dl underlying9 J J<|An 1 J<|ao<|A3 J b (fun _ b=>?_)<|fun _ b=>?_
   refine Au<|an ?_
   refine Ao fun _ ap=>A0<|Ao fun _ aq=>Ao fun ar au=>?_
   obtain ⟨av,aw,b⟩:=Cb b
   have ab:∀(v:Bool)(o:Af)(_:av v=some r)(_:Bl g o)(_:Sp g o []),∀ a,St 44 [(0,.string (AL h)),(3,iv i),(4,iv j),(34,.bool v)] a→ar a o:=by
    intro v o b ac ax
    subst aw
    refine au<|A3 J b (fun _ b=>?_)<|fun _ b=>?_
    refine Am 1 J ?_
    refine Aw<|rt p J J<|by cases b; exact ⟨rfl,ac⟩
    refine Au<|aq ?_
    refine Aq<|wp 4 J<|bB b fun ay az b=>Fd underlying9 J J J az<|wp 1 J<|DR underlying5 underlying3 J J<|An 2 J<|ap<|Aq<|An 3 J ?_
    rw [aa] at b
    exact fun a ha=>am a _ l (AB l) ⟨Ah ((Ah (10*i))+(Ah (NP ((UInt8.toNat ay:Int)-48)))),Ah (j+1),ha.sb J,ac,ax.sel [] J,b⟩
   refine Aq<|wp 2 J<|bB b fun a0 a1 b=>Fd underlying9 J J J a1<|wp 2 J ?_
   rcases bE (decide ((UInt8.toNat a0:Int)<48)) with d|d
   replace b:=Bw d b
   refine wo J d<|wo J d<|wo J d<|wo J d<|A8 J J d J<|Ai ?_
   exact jx (ab true _ b u (z.sel [] J)) J
   replace b:=BI d b
   refine wn J d<|wp 1 J<|wn J d<|wp 1 J<|wn J d<|bB b fun a2 a3 b=>Fd underlying9 J J J a3<|wn J d<|wp 1 J<|Ak J J d J<|Ai ?_
   exact jx (ab (decide (57<(UInt8.toNat a2:Int))) _ b u (z.sel [] J)) J
   refine Bb<|al ?_
   refine Am 2 J<|Aw<|rt p J J<|by cases b; exact ⟨rfl,u⟩
 refine Aq<|wp 1 J<|Dl underlying9 J J<|bB b fun a4 a5 b=>Bn J call77 hB hS (Cr g (List.length h:Int) 1 6 _ a5) J fun bb _ w x=>wp 2 J ?_
 rcases bE (!a4) with c|c
 replace b:=Bw c b
 refine wo J c<|wo J c<|wo J c<|wo J c<|D5 J J J<|D5 J J J<|D5 J J J<|wo J c<|A8 J J c J<|Ai ?_
 exact jx (q true _ b w (x.sel [] J)) J
 replace b:=BI c b
 refine wn J c<|wp 1 J<|wn J c<|bB b fun a6 a7 b=>Fd underlying9 J J J a7<|wn J c<|wp 1 J<|wn J c<|wp 1 J ?_
 rcases bE ((UInt8.toNat a6:Int)==48) with f|f
 replace b:=Bw f b
 refine wn J f<|wp 1 J<|wn J f<|Dl underlying9 J J<|wn J f<|wp 1 J<|wn J c<|A8 J J f J<|Ak J J c J<|Ai ?_
 exact jx (q (decide (1<(List.length h:Int))) _ b w (x.sel [] J)) J
 replace b:=BI f b
 refine wo J f<|wo J f<|wo J f<|wn J c<|Ak J J f J<|Ak J J c J<|Ai ?_
 exact jx (q false _ b w (x.sel [] J)) J
theorem JO(a:Af)(c:Akg)(d:Ac)(h:RO At a d c)(r:Akg)(b:GX c=some r) :
  A2 90 [d] a fun e w'=>∃(f:Ac)(j:Ap),e=.returned f∧Bl a w'∧Sp a w' [Ab At j f r]:=by
 refine cm func90 ntmps90 J fun Q k x m n=>?_
 unfold GX at b
 refine Am 1 J<|Al fun _ o=>AZ (vs:=[]) (l:=[]) CR underlying26 J J J J J J m n fun y z p _ g q=>wp 1 J<|bB b fun u9 s b=>AE (i:=0) (S:=(·<p.heap.size)) CR underlying26 J J J g q J (h.ro g) s fun t u ab _ v w=>An 1 J<|o<|Aw<|rt k J J<|by cases b; exact ⟨t,u,rfl,v,w.sel [0] J⟩
theorem OK(f:Af)(d:Int×Int)(r:Bool)(b:IZ d=some r) :
  A2 190 [.agg #[iv d.1,iv d.2]] f fun e w'=>e=.returned (.bool r)∧Bl f w':=by
 refine cm func190 ntmps190 J fun Q m hP n o=>?_
 unfold IZ at b
 refine Al fun _ p=>CV J n o fun b2 q _ s j=>An 1 J<|p<|Ao fun t u=>?_
 obtain ⟨v,w,b⟩:=Cb b
 have k:∀(h:Bool)(g:Af)(_:v h=some r)(_:Bl f g)(_:Sp f g []),∀ a,St 11 [(2,.bool h)] a→t a g:=by
  intro h g b x ah
  subst w
  refine u<|Aw<|rt m J J<|by cases b; exact ⟨rfl,x⟩
 refine Aq<|Bp CY J<|AU 0 A9 J j J J<|bB b fun y z b=>Bn J call77 s j (Cr q d.1 0 1280 _ z) J fun aa _ l i=>wp 1 J ?_
 rcases bE y with c|c
 replace b:=Bw c b
 refine wn J c<|Bp CX J<|wn J c<|AU 0 A9 J i J J<|wn J c<|bB b fun ab ac b=>Bn J call77 l i (Cr aa d.2 0 672 _ ac) J fun ai _ ad ae=>A8 J J c J<|An 1 J ?_
 exact jx (k ab _ b ad (ae.sel [] J)) J
 replace b:=BI c b
 refine wo J c<|wo J c<|wo J c<|Ak J J c J<|An 1 J ?_
 exact jx (k false _ b l (i.sel [] J)) J
theorem Kn(c:Af)(d:Akg)(g:Ac)(l:RO At c g d)(r:Bool)(b:G3 d=some r) :
  A2 132 [g] c fun e w'=>e=.returned (.bool r)∧Bl c w':=by
 refine cm func132 ntmps132 J fun Q p hP hB hS=>?_
 unfold G3 at b
 refine Am 1 J<|Ao fun _ ah=>Al fun _ ai=>wp 1 J<|BO l underlying26 J<|An 1 J<|ai<|A0<|AN (fun m a n=>∃(f:Int),St 33 [(0,g),(7,g),(8,iv (List.length d:Int)),(9,iv f)] a∧Bl c n∧Sp c n []∧EG d m f=some r) FU ?_ ?_
 exact fun a ha=>⟨0,ha.sb J,hB,hS.sel [] J,b⟩
 rintro i a n ⟨f,ha,q,aj,b⟩ bi ak
 refine BC ?_ ha
 cases i with
 | zero=>exact Be b
 | succ i =>
  obtain ⟨w,x⟩:∃ k,k=EG d i:=⟨_,rfl⟩
  rw [EG,← x] at b
  refine Am 1 J<|Ao fun _ al=>A3 J b (fun _ b=>?_)<|fun _ b=>?_
  refine Au<|al ?_
  refine Ao fun _ am=>A0<|Al fun _ an=>wp 1 J<|bB b fun h ao b=>BT (e:=At) underlying26 J J J l ao ?_
  rintro bj _ rfl ap
  refine BZ Bt J (ap.ro q) J<|EE Bt J q aj fun y bk _ aq ar=>wp 1 J<|GC 0 Bt J J aq ar J J J fun au _ av z=>Ai<|an<|Ao fun _ aw=>Al fun _ ax=>AU 0 Bt J z J J<|bB b fun bl ay b=>Bn J call190 av z (OK au h _ ay) J fun bm _ aa az=>An 1 J<|ax<|A3 J b (fun _ b=>?_)<|fun _ b=>?_
  refine Am 1 J ?_
  refine Aw<|rt p J J<|by cases b; exact ⟨rfl,aa⟩
  refine Au<|aw ?_
  refine Al fun _ a0=>wp 2 J<|bB b fun s a1 b=>R1 (e:=At) underlying26 J J l a1 (.inl ⟨rfl,rfl⟩) (.inr ⟨_,_,rfl,rfl⟩) fun a2 ab=>BO ab underlying26 J<|An 1 J<|a0<|A0<|AN (fun m a t=>∃(o:Int),St 33 [(0,g),(4,.pointer (some ⟨y,0,none⟩)),(7,g),(8,iv (List.length d:Int)),(9,iv f),(19,a2),(20,iv (List.length s:Int)),(21,iv o)] a∧Bl c t∧Sp c t [Av y 79 [iv h.1,iv h.2]]∧Gu s h w f m o=some r) FU ?_ ?_
  exact fun a ha=>⟨0,ha.sb J,aa,az.sel [0] J,b⟩
  rintro j a t ⟨o,ha,u,ac,b⟩ bn a3
  refine BC ?_ ha
  cases j with
  | zero=>exact Be b
  | succ j =>
   obtain ⟨bo,ad⟩:∃ k,k=Gu s h w f j:=⟨_,rfl⟩
   rw [Gu,← ad] at b
   refine Am 1 J<|Ao fun _ a4=>A3 J b (fun _ b=>?_)<|fun _ b=>?_
   refine Au<|a4 ?_
   refine Ao fun _ a5=>A0<|Al fun _ a6=>bB b fun a7 a8 b=>BT (e:=At) underlying26 J J J ab a8 ?_
   rintro bp _ rfl a9
   refine BZ Bt J (a9.ro u) J<|EE Bt J u ac fun bq br _ ba bb=>GC 0 Bt J J ba bb J J J fun bs _ ae v=>Ai<|a6<|Al fun _ bc=>AU 1 Bt J v J J<|AU 0 Bt J v J J<|Ahi Tryz.eqGuardType79 (Abl h a7) J J J<|Ai<|bc<|A3 J b (fun _ b=>?_)<|fun _ b=>?_
   refine Am 1 J ?_
   refine Aw<|rt p J J<|by cases b; exact ⟨rfl,ae⟩
   refine Au<|a5 ?_
   refine Aq<|An 2 J ?_
   rw [ad] at b
   exact fun a ha=>a3 a _ j (AB j) ⟨Ah (o+1),ha.sb J,ae,v.sel [1] J,b⟩
   refine Bb<|am ?_
   refine Aq<|An 2 J ?_
   rw [x] at b
   exact fun a ha=>ak a _ i (AB i) ⟨Ah (f+1),ha.sb J,u,ac.sel [] J,b⟩
  refine Bb<|ah ?_
  refine Al fun _ bd=>wp 1 J<|BO l underlying26 J<|bB b fun bt be b=>A7 J call77 (Cr n (List.length d:Int) 1 12 _ be) J ?_
  rintro _ bu ⟨rfl,bf⟩
  refine ⟨_,rfl,?_⟩
  have bg:=tm q bf
  refine An 1 J<|bd<|Aw<|rt p J J<|by cases b; exact ⟨rfl,bg⟩
theorem HJ(c:Af)(b:Akg×Akg×Int×Akg×Akh×Akj×(List Int)×(List Int)×Int)(d:Nat)(j:Ap)(g:Akg)(h:Ac)(k:Ap)(m:Bool)(u:Sep 0 c [A6 B9 74 j d b,Ab At k h g])(r:Bool×(Akg×Akg×Int×Akg×Akh×Akj×(List Int)×(List Int)×Int))(f:Ft b g m=some r) :
  A2 88 [.pointer (some ⟨d,0,none⟩),h,.bool m] c fun e w'=>∃(H_0:Ap),e=.returned (.bool r.1)∧Below 0 (wE c) w'∧Sep 0 w' [A5 c (AP [A6 B9 74 j d b,Ab At k h g]),A6 B9 74 H_0 d r.2]:=by
 refine Ek func88 J ntmps88 J J fun Q v hP=>?_
 have q:Bl (wE c) c:=Dp c
 have s:Sp (wE c) c [A5 c (AP [A6 B9 74 j d b,Ab At k h g]),A6 B9 74 j d b,Ab At k h g]:=u.rest
 unfold Ft at f
 refine Am 1 J<|Ao fun w x=>?_
 obtain ⟨y,z,f⟩:=Cb f
 have t:∀(n:Akg×Akg×Int×Akg×Akh×Akj×(List Int)×(List Int)×Int)(o:Ap)(l:Af)(_:y n=some r)(_:Bl (wE c) l)(_:Sp (wE c) l [A5 c (AP [A6 B9 74 j d b,Ab At k h g]),A6 B9 74 o d n]),∀ a,St 13 [(2,.bool m)] a→w a l:=by
  intro n o l f aa ab
  subst z
  refine x<|Am 2 J<|Aw<|rt v J J<|by cases f; exact ⟨o,rfl,aa,ab.sel [0,1] J⟩
 refine Am 1 J<|A3 J f (fun _ f=>?_)<|fun _ f=>?_
 refine Aq ?_
 refine wp 2 J<|B4 J J<|Bp J4 J ?_
 obtain ⟨ac,ad,ae,aq,af,ar,ag,au,ah,av,ai,aw,aj,ax,p⟩:=G5 (s.sel [1,0,2] J)
 refine BG (i:=0) (vs:=[h]) (cs':=[h,ae,iv b.2.2.1,af,ag,ah,ai,aj,iv b.2.2.2.2.2.2.2.2]) Cs J J (Ch (p.own_ro (i:=9) J).one) J q p J J ⟨(p.own_ro (i:=9) J).one,trivial⟩ J fun ak _ al am=>Ai ?_
 obtain ⟨an,ao⟩:∃ F,Sp (wE c) ak [A6 B9 74 F d (g,b.2.1,b.2.2.1,b.2.2.2.1,b.2.2.2.2.1,b.2.2.2.2.2.1,b.2.2.2.2.2.2.1,b.2.2.2.2.2.2.2.1,b.2.2.2.2.2.2.2.2),Ab At ad ac b.1,A5 c (AP [A6 B9 74 j d b,Ab At k h g])]:=⟨_,DT (am.sel [0,9,2,3,4,5,6,7,1,8] J)⟩
 exact jx (t ((g,b.2.1,b.2.2.1,b.2.2.2.1,b.2.2.2.2.1,b.2.2.2.2.2.1,b.2.2.2.2.2.2.1,b.2.2.2.2.2.2.2.1,b.2.2.2.2.2.2.2.2)) an _ f al (ao.sel [2,0] J)) J
 refine Au ?_
 exact jx (t b j _ f q (s.sel [0,1] J)) J
theorem Zy(d:Af)(f:Akg)(h:Ac)(k:RO At d h f)(i:Int)(r:Bool)(b:NG f i=some r) :
  A2 133 [h,iv i] d fun e w'=>e=.returned (.bool r)∧Bl d w':=by
 refine cm func133 ntmps133 J fun Q p hP l q=>?_
 unfold NG at b
 refine Am 1 J<|Ao fun s t=>?_
 obtain ⟨u,v,b⟩:=Cb b
 have m:∀(j:Bool)(g:Af)(_:u j=some r)(_:Bl d g)(_:Sp d g []),∀ a,St 14 [(4,.bool j)] a→s a g:=by
  intro j g b w af
  subst v
  refine t<|Aw<|rt p J J<|by cases b; exact ⟨rfl,w⟩
 refine Aq<|wp 1 J<|bB b fun x y b=>Bn J call132 l q (Kn d f h (k.ro l) _ y) J fun z _ n o=>wp 1 J ?_
 rcases bE x with c|c
 replace b:=Bw c b
 refine wn J c<|wp 1 J<|wn J c<|wp 1 J<|wn J c<|BO k underlying26 J<|wn J c<|wp 1 J<|wn J c<|bB b fun aa ab b=>Bn J call77 n o (Cr z i 0 (Ah ((List.length f:Int)-1)) _ ab) J fun ag _ ac ad=>A8 J J c J<|An 1 J ?_
 exact jx (m aa _ b ac (ad.sel [] J)) J
 replace b:=BI c b
 refine wo J c<|wo J c<|wo J c<|wo J c<|wo J c<|Ak J J c J<|An 1 J ?_
 exact jx (m false _ b n (o.sel [] J)) J
theorem KQ(a:Af)(d:Akg)(c:Ac)(f:Ap)(m:Sep 0 a [Ab At f c d])(r:Akg×Bool)(b:HO d=some r) :
  A2 89 [c] a fun e w'=>∃(g:Ac)(n:Ap),e=.returned (.tuple #[g,.bool r.2])∧Below 0 (wE a) w'∧Sep 0 w' [A5 a (AP [Ab At f c d]),Ab At n g r.1]:=by
 refine Ek func89 J ntmps89 J J fun Q h u=>?_
 have o:Bl (wE a) a:=Dp a
 have j:Sp (wE a) a [A5 a (AP [Ab At f c d]),Ab At f c d]:=m.rest
 unfold HO at b
 refine Am 2 J<|Ao fun _ p=>Al fun _ q=>wp 1 J<|bB b fun v s b=>Bn J call132 o j (Kn a d c (j.own_ro (i:=1) J) _ s) J fun w _ k l=>An 1 J<|q<|A3 J b (fun _ b=>?_)<|fun _ b=>?_
 refine Am 2 J ?_
 refine Aw ?_
 have t:=l.push0 (r:=Ab At [] (.slice none 0 0) []) J fun _=>.inl ⟨rfl,rfl,rfl⟩
 refine rt h J J<|by cases b; exact ⟨.slice none 0 0,[],rfl,k,t.sel [1,0] J⟩
 refine Au<|p ?_
 refine Am 3 J<|Aw<|rt h J J<|by cases b; exact ⟨c,f,rfl,k,l.sel [0,1] J⟩
theorem Rw(d:Af)(f:Akg)(g:Ac)(p:RO At d g f)(c:Int)(b:Int×Int)(r:Akg×Bool)(a:Hs f c b=some r) :
  A2 91 [g,iv c,.agg #[iv b.1,iv b.2]] d fun e w'=>∃(q:Ac)(G0:Ap),e=.returned (.tuple #[q,.bool r.2])∧Bl d w'∧Sp d w' [Ab At G0 q r.1]:=by
 refine cm func91 ntmps91 J fun Q s hP hB hS=>?_
 unfold Hs at a
 refine Al fun _ ad=>CV J hB hS fun b2 w3 _ t ag=>An 2 J<|ad<|Ao fun _ ah=>Al fun _ ai=>wp 2 J<|bB a fun u9 aj a=>Bn J call133 t ag (Zy w3 f g (p.ro t) c _ aj) J fun ak _ h u=>An 1 J<|ai<|A3 J a (fun _ a=>?_)<|fun _ a=>?_
 refine Am 2 J ?_
 refine Aw ?_
 have al:=u.push0 (r:=Ab At [] (.slice none 0 0) []) J fun _=>.inl ⟨rfl,rfl,rfl⟩
 refine rt s J J<|by cases a; exact ⟨.slice none 0 0,[],rfl,h,al.sel [0] J⟩
 refine Au<|ah ?_
 refine Al fun _ am=>wp 1 J<|bB a fun j an a=>Ds J call90 h u (JO ak f g (p.ro h) _ an) J fun k l a3 _ _ ao m=>An 1 J<|am<|Al fun _ ap=>wp 2 J<|AU 1 Bt J m J J<|bB a fun a4 v a=>Co (e:=At) (i:=0) underlying26 J J J m J v ?_
 rintro a5 _ rfl a6 aq
 refine Cf (i:=0) (o:=0) (vs:=[iv b.1,iv b.2]) (u':=b) CR Bt J J J J aq v ao m J J ⟨rfl,rfl,trivial⟩ J fun ar _ w n=>Ai<|ap<|Al fun _ au=>wp 1 J<|bB a fun av aw a=>A7 J call89 (KQ ar (BL j c b) k l (n.sel [0] J).base0 _ aw) J ?_
 rintro _ ax ⟨x,y,rfl,ay,z⟩
 refine ⟨_,rfl,?_⟩
 have az:=n.takeB [0] J (M:=[Ab At l k (BL j c b)]) J w ay z
 have a0:Sp d ax [Ab At y x av.1,Av b2 79 [iv b.1,iv b.2]]:=n.take [0] [1] J (M:=[Ab At l k (BL j c b)]) J z w.size
 refine An 4 J<|au<|Aw<|rt s J J<|by cases a; exact ⟨x,y,rfl,az,a0.sel [0] J⟩
theorem VO(c:Af)(a r:Int×Int)(d:LT a=some r) :
  A2 134 [.agg #[iv a.1,iv a.2]] c fun e w'=>e=.returned (.agg #[iv r.1,iv r.2])∧Bl c w':=by
 refine cm func134 ntmps134 J fun Q f q g h=>?_
 unfold LT at d
 refine Al fun _ j=>CV J g h fun s t _ k l=>EE Bt J k l fun u v _ m b=>Ai<|j<|Al fun _ n=>Bp CY J<|AU 1 A9 J b J J<|wp 1 J<|Bp CX J<|AU 1 A9 J b J J<|DS (zs:=[iv 0,iv 0]) (out:=[iv (Ah (1280-a.1)),iv a.2]) (vs:=[iv (Ah (1280-a.1)),iv a.2]) (css:=[[iv (Ah (1280-a.1))],[iv a.2]]) Bt MQ J J J J J<|GC 0 Bt J J m b J J J fun w _ o p=>Ai<|n<|Aw ?_
 obtain rfl:=Option.some.inj d
 exact JU (vs:=[.agg #[iv (Ah (1280-a.1)),iv a.2]]) f J ⟨HL (i:=0) Bt J p J J J,trivial⟩ ⟨rfl,o⟩
theorem Td(c:Af)(d:Akg)(g:Ac)(n:RO At c g d)(r:Akg×Bool)(b:IA d=some r) :
  A2 92 [g] c fun e w'=>∃(u:Ac)(G0:Ap),e=.returned (.tuple #[u,.bool r.2])∧Bl c w'∧Sp c w' [Ab At G0 u r.1]:=by
 refine cm func92 ntmps92 J fun Q v hP w hS=>?_
 unfold IA at b
 refine Am 2 J<|Ao fun _ af=>Al fun _ ag=>wp 1 J<|bB b fun u4 ah b=>Bn J call132 w hS (Kn c d g (n.ro w) _ ah) J fun w5 _ x y=>An 1 J<|ag<|A3 J b (fun _ b=>?_)<|fun _ b=>?_
 refine Am 2 J ?_
 refine Aw ?_
 have ai:=y.push0 (r:=Ab At [] (.slice none 0 0) []) J fun _=>.inl ⟨rfl,rfl,rfl⟩
 refine rt v J J<|by cases b; exact ⟨.slice none 0 0,[],rfl,x,ai.sel [0] J⟩
 refine Au<|af ?_
 refine Am 1 J<|Ao fun _ aj=>Al fun _ ak=>wp 1 J<|BO n underlying26 J<|An 1 J<|ak<|A0<|AN (fun m a o=>∃(p:Akg)(h:Int)(j:Ac)(q:Ap),St 23 [(4,j),(10,g),(11,iv (List.length d:Int)),(12,iv h)] a∧Bl c o∧Sp c o [Ab At q j p]∧En d m p h=some r) FU ?_ ?_
 have al:=y.push0 (r:=Ab At [] (.slice none 0 0) []) J fun _=>.inl ⟨rfl,rfl,rfl⟩
 exact fun a ha=>⟨[],0,.slice none 0 0,[],ha.sb J,x,al.sel [0] J,b⟩
 rintro f a o ⟨p,h,j,q,ha,s,z,b⟩ bd am
 refine BC ?_ ha
 cases f with
 | zero=>exact Be b
 | succ f =>
  obtain ⟨be,aa⟩:∃ k,k=En d f:=⟨_,rfl⟩
  rw [En,← aa] at b
  refine Am 1 J<|Ao fun _ an=>A3 J b (fun _ b=>?_)<|fun _ b=>?_
  refine Au<|an ?_
  refine Ao fun _ ao=>A0<|Al fun _ ap=>bB b fun aq ar b=>BT (e:=At) underlying26 J J J n ar ?_
  rintro bf _ rfl au
  refine BZ Bt J (au.ro s) J<|EE Bt J s z fun bg bh _ av aw=>GC 0 Bt J J av aw J J J fun ax _ ay ab=>Ai<|ap<|Aq<|wp 1 J<|AU 0 Bt J ab J J<|bB b fun t az b=>Bn J call134 ay ab (VO ax aq _ az) J fun bi _ a0 a1=>AZ (vs:=[.agg #[iv t.1,iv t.2]]) (l:=[t]) CR underlying26 J J J J J J a0 a1 fun bj bk a2 _ a3 ac=>bB b fun a4 a5 b=>AE (i:=2) (S:=(·<a2.heap.size)) CR underlying26 J J J a3 ac J (ac.own_ro (i:=0) J) a5 fun a6 a7 bl _ a8 a9=>An 1 J<|ao<|Aq<|An 2 J ?_
  rw [aa] at b
  exact fun a ha=>am a _ f (AB f) ⟨a4,Ah (h+1),a6,a7,ha.sb J,a8,a9.sel [2] J,b⟩
  refine Bb<|aj ?_
  refine Am 3 J<|Aw<|rt v J J<|by cases b; exact ⟨j,q,rfl,s,z.sel [0] J⟩
theorem UF(f:Af)(d:Int×Int)(r:Bool)(b:JG d=some r) :
  A2 135 [.agg #[iv d.1,iv d.2]] f fun e w'=>e=.returned (.bool r)∧Bl f w':=by
 refine cm func135 ntmps135 J fun Q m hP n o=>?_
 unfold JG at b
 refine Al fun _ p=>CV J n o fun b2 q _ s j=>An 1 J<|p<|Ao fun t u=>?_
 obtain ⟨v,w,b⟩:=Cb b
 have k:∀(h:Bool)(g:Af)(_:v h=some r)(_:Bl f g)(_:Sp f g []),∀ a,St 11 [(2,.bool h)] a→t a g:=by
  intro h g b x ah
  subst w
  refine u<|Aw<|rt m J J<|by cases b; exact ⟨rfl,x⟩
 refine Aq<|Bp LI J<|AU 0 A9 J j J J<|bB b fun y z b=>Bn J call77 s j (Cr q d.1 1 12 _ z) J fun aa _ l i=>wp 1 J ?_
 rcases bE y with c|c
 replace b:=Bw c b
 refine wn J c<|Bp Pw J<|wn J c<|AU 0 A9 J i J J<|wn J c<|bB b fun ab ac b=>Bn J call77 l i (Cr aa d.2 40 220 _ ac) J fun ai _ ad ae=>A8 J J c J<|An 1 J ?_
 exact jx (k ab _ b ad (ae.sel [] J)) J
 replace b:=BI c b
 refine wo J c<|wo J c<|wo J c<|Ak J J c J<|An 1 J ?_
 exact jx (k false _ b l (i.sel [] J)) J
theorem Sf(d:Af)(c:Akg)(g:Ac)(j:RO BN d g c)(r:Bool)(b:Kf c=some r) :
  A2 93 [g] d fun e w'=>e=.returned (.bool r)∧Bl d w':=by
 refine cm func93 ntmps93 J fun Q n hP s t=>?_
 unfold Kf at b
 refine Am 1 J<|Ao fun _ u=>Al fun _ v=>wp 1 J<|BO j underlying31 J<|An 1 J<|v<|A0<|AN (fun m a h=>∃(i:Int),St 18 [(0,g),(5,g),(6,iv (List.length c:Int)),(7,iv i)] a∧Bl d h∧Sp d h []∧Gr c m i=some r) FU ?_ ?_
 exact fun a ha=>⟨0,ha.sb J,s,t.sel [] J,b⟩
 rintro f a h ⟨i,ha,l,w,b⟩ aq x
 refine BC ?_ ha
 cases f with
 | zero=>exact Be b
 | succ f =>
  obtain ⟨ar,o⟩:∃ k,k=Gr c f:=⟨_,rfl⟩
  rw [Gr,← o] at b
  refine Am 1 J<|Ao fun _ y=>A3 J b (fun _ b=>?_)<|fun _ b=>?_
  refine Au<|y ?_
  refine Ao fun _ z=>A0<|Al fun _ aa=>bB b fun ab ac b=>BT (e:=BN) underlying31 J J J j ac ?_
  rintro au _ rfl ad
  refine BZ Hb J (ad.ro l) J<|EE Hb J l w fun av aw _ ae af=>GC 0 Hb J J ae af J J J fun ag _ ah p=>Ai<|aa<|Al fun _ ai=>AU 0 Hb J p J J<|bB b fun ax aj b=>Bn J call135 ah p (UF ag ab _ aj) J fun ay _ q ak=>An 1 J<|ai<|A3 J b (fun _ b=>?_)<|fun _ b=>?_
  refine Am 1 J ?_
  refine Aw<|rt n J J<|by cases b; exact ⟨rfl,q⟩
  refine Au<|z ?_
  refine Aq<|An 2 J ?_
  rw [o] at b
  exact fun a ha=>x a _ f (AB f) ⟨Ah (i+1),ha.sb J,q,ak.sel [] J,b⟩
  refine Bb<|u ?_
  refine Al fun _ al=>wp 1 J<|BO j underlying31 J<|bB b fun az am b=>A7 J call77 (Cr h (List.length c:Int) 1 40 _ am) J ?_
  rintro _ a0 ⟨rfl,an⟩
  refine ⟨_,rfl,?_⟩
  have ao:=tm l an
  refine An 1 J<|al<|Aw<|rt n J J<|by cases b; exact ⟨rfl,ao⟩
theorem Q2(i:Af)(g h:Int×Int×Int×Int)(r:Bool)(c:IQ g h=some r) :
  A2 136 [.agg #[iv g.1,iv g.2.1,iv g.2.2.1,iv g.2.2.2],.agg #[iv h.1,iv h.2.1,iv h.2.2.1,iv h.2.2.2]] i fun e w'=>e=.returned (.bool r)∧Bl i w':=by
 refine cm func136 ntmps136 J fun Q n z o p=>?_
 unfold IQ at c
 refine Al fun _ q=>CV J o p fun b2 w3 _ s t=>CV J s t fun b7 w8 _ k f=>An 1 J<|q<|Ao fun u v=>?_
 obtain ⟨w,x,c⟩:=Cb c
 have l:∀(m:Bool)(j:Af)(_:w m=some r)(_:Bl i j)(_:Sp i j []),∀ a,St 24 [(4,.bool m)] a→u a j:=by
  intro m j c y ae
  subst x
  refine v<|Aw<|rt n J J<|by cases c; exact ⟨rfl,y⟩
 refine Aq<|Bp Ee J<|AU 1 A9 J f J J<|Bp Ee J<|AU 0 A9 J f J J<|wp 2 J ?_
 rcases bE (decide (g.2.2.1<h.2.2.1)) with b|b
 replace c:=Bw b c
 refine wo J b<|wo J b<|wo J b<|wo J b<|wo J b<|wo J b<|D5 J J J<|D5 J J J<|D5 J J J<|D5 J J J<|D5 J J J<|wo J b<|A8 J J b J<|An 1 J ?_
 exact jx (l true _ c k (f.sel [] J)) J
 replace c:=BI b c
 refine wn J b<|Bp Ee J<|wn J b<|AU 1 A9 J f J J<|wn J b<|Bp Ee J<|wn J b<|AU 0 A9 J f J J<|wn J b<|wp 1 J<|wn J b<|wp 1 J ?_
 rcases bE (g.2.2.1==h.2.2.1) with d|d
 replace c:=Bw d c
 refine wn J d<|Bp IW J<|wn J d<|AU 1 A9 J f J J<|wn J d<|Bp IW J<|wn J d<|AU 0 A9 J f J J<|wn J d<|wp 1 J<|wn J b<|A8 J J d J<|Ak J J b J<|An 1 J ?_
 exact jx (l (decide (g.2.1<h.2.1)) _ c k (f.sel [] J)) J
 replace c:=BI d c
 refine wo J d<|wo J d<|wo J d<|wo J d<|wo J d<|wn J b<|Ak J J d J<|Ak J J b J<|An 1 J ?_
 exact jx (l false _ c k (f.sel [] J)) J
theorem Tc(b:Af)(c:Int)(r:Bool)(a:K0 c=some r) :
  A2 191 [iv c] b fun e w'=>e=.returned (.bool r)∧Bl b w':=by
 refine cm func191 ntmps191 J fun Q d k f _=>?_
 unfold K0 at a
 refine Am 1 J<|Al fun _ g=>wp 1 J<|bB a fun l h a=>A7 J call77 (Cr b c 1 12 _ h) J ?_
 rintro _ m ⟨rfl,i⟩
 refine ⟨_,rfl,?_⟩
 have j:=tm f i
 refine An 1 J<|g<|Aw<|rt d J J<|by cases a; exact ⟨rfl,j⟩
theorem Si(b:Af)(c:Int)(r:Bool)(a:Kj c=some r) :
  A2 156 [iv c] b fun e w'=>e=.returned (.bool r)∧Bl b w':=by
 refine cm func156 ntmps156 J fun Q d k f _=>?_
 unfold Kj at a
 refine Am 1 J<|Al fun _ g=>wp 1 J<|bB a fun l h a=>A7 J call77 (Cr b c 1 9 _ h) J ?_
 rintro _ m ⟨rfl,i⟩
 refine ⟨_,rfl,?_⟩
 have j:=tm f i
 refine An 1 J<|g<|Aw<|rt d J J<|by cases a; exact ⟨rfl,j⟩
theorem Sj(t:Af)(x:Akh)(w:Ac)(ab:RO A4 t w x)(r:Bool)(c:Kk x=some r) :
  A2 137 [w] t fun e w'=>e=.returned (.bool r)∧Bl t w':=by
 refine cm func137 ntmps137 J fun Q hQ b hB hS=>?_
 unfold Kk at c
 refine Am 1 J<|Ao fun _ bg=>Al fun _ bh=>wp 1 J<|BO ab underlying72 J<|An 1 J<|bh<|A0<|AN (fun m a w4=>∃(u:Int),St 85 [(0,w),(7,w),(8,iv (List.length x:Int)),(9,iv u)] a∧Bl t w4∧Sp t w4 []∧DG x m u=some r) FU ?_ ?_
 exact fun a ha=>⟨0,ha.sb J,hB,hS.sel [] J,c⟩
 rintro ac a w4 ⟨u,ha,am,bi,c⟩ c5 bj
 refine BC ?_ ha
 cases ac with
 | zero=>exact Be c
 | succ ac =>
  obtain ⟨ay,az⟩:∃ k,k=DG x ac:=⟨_,rfl⟩
  rw [DG,← az] at c
  refine Am 1 J<|Ao fun _ bk=>A3 J c (fun _ c=>?_)<|fun _ c=>?_
  refine Au<|bk ?_
  refine Ao fun _ bl=>A0<|Al fun _ bm=>wp 1 J<|bB c fun i bn c=>BT (e:=A4) underlying72 J J J ab bn ?_
  rintro c6 _ rfl bo
  refine BZ BJ J (bo.ro am) J<|EE BJ J am bi fun z c7 _ bp bq=>wp 1 J<|GC 0 BJ J J bp bq J J J fun c8 _ br bs=>Ai<|bm<|Ao fun _ bt=>Ao fun bu bv=>?_
  obtain ⟨bw,bx,c⟩:=Cb c
  have aa:∀(an:Bool)(af:Af)(_:bw an=some r)(_:Bl t af)(_:Sp t af [Av z 125 [iv i.1,iv i.2.1,iv i.2.2.1,iv i.2.2.2]]),∀ a,St 85 [(0,w),(3,iv u),(4,.pointer (some ⟨z,0,none⟩)),(7,w),(8,iv (List.length x:Int)),(9,iv u),(52,.bool an)] a→bu a af:=by
   intro an af c a0 bz
   subst bx
   refine bv<|A3 J c (fun _ c=>?_)<|fun _ c=>?_
   refine Am 1 J ?_
   refine Aw<|rt hQ J J<|by cases c; exact ⟨rfl,a0⟩
   refine Au<|bt ?_
   refine Al fun _ b0=>wp 2 J<|bB c fun ag b1 c=>R1 (e:=A4) underlying72 J J ab b1 (.inl ⟨rfl,rfl⟩) (.inr ⟨_,_,rfl,rfl⟩) fun a1 a2=>BO a2 underlying72 J<|An 1 J<|b0<|A0<|AN (fun m a ao=>∃(ad:Int),St 85 [(0,w),(4,.pointer (some ⟨z,0,none⟩)),(7,w),(8,iv (List.length x:Int)),(9,iv u),(55,a1),(56,iv (List.length ag:Int)),(57,iv ad)] a∧Bl t ao∧Sp t ao [Av z 125 [iv i.1,iv i.2.1,iv i.2.2.1,iv i.2.2.2]]∧Fv ag i ay u m ad=some r) FU ?_ ?_
   exact fun a ha=>⟨0,ha.sb J,a0,bz.sel [0] J,c⟩
   rintro ae a ao ⟨ad,ha,ap,a3,c⟩ c9 b2
   refine BC ?_ ha
   cases ae with
   | zero=>exact Be c
   | succ ae =>
    obtain ⟨da,a4⟩:∃ k,k=Fv ag i ay u ae:=⟨_,rfl⟩
    rw [Fv,← a4] at c
    refine Am 1 J<|Ao fun _ b3=>A3 J c (fun _ c=>?_)<|fun _ c=>?_
    refine Au<|b3 ?_
    refine Ao fun _ b4=>A0<|Al fun _ b5=>bB c fun ah b6 c=>BT (e:=A4) underlying72 J J J a2 b6 ?_
    rintro db _ rfl b7
    refine BZ BJ J (b7.ro ap) J<|EE BJ J ap a3 fun dc dd _ b8 b9=>GC 0 BJ J J b8 b9 J J J fun de _ aq v=>Ai<|b5<|Ao fun ca cb=>?_
    obtain ⟨cc,cd,c⟩:=Cb c
    have ar:∀(au:Bool)(ai:Af)(_:cc au=some r)(_:Bl t ai)(_:Sp t ai [Av z 125 [iv i.1,iv i.2.1,iv i.2.2.1,iv i.2.2.2]]),∀ a,St 85 [(0,w),(4,.pointer (some ⟨z,0,none⟩)),(7,w),(8,iv (List.length x:Int)),(9,iv u),(55,a1),(56,iv (List.length ag:Int)),(57,iv ad),(79,.bool au)] a→ca a ai:=by
     intro au ai c a5 ce
     subst cd
     refine cb<|A3 J c (fun _ c=>?_)<|fun _ c=>?_
     refine Am 1 J ?_
     refine Aw<|rt hQ J J<|by cases c; exact ⟨rfl,a5⟩
     refine Au<|b4 ?_
     refine Aq<|An 2 J ?_
     rw [a4] at c
     exact fun a ha=>b2 a _ ae (AB ae) ⟨Ah (ad+1),ha.sb J,a5,ce.sel [0] J,c⟩
    refine Aq<|Bp IW J<|AU 0 A9 J v J J<|Bp IW J<|AU 1 A9 J v J J<|wp 2 J ?_
    rcases bE (ah.2.1==i.2.1) with n|n
    replace c:=Bw n c
    refine wo J n<|wo J n<|wo J n<|wo J n<|wo J n<|A8 J J n J<|wp 1 J<|wn J J<|Bp H8 J<|wn J J<|AU 0 A9 J v J J<|wn J J<|Bp Ee J<|wn J J<|AU 1 A9 J v J J<|wn J J<|wp 1 J<|A8 J J J J<|Ai ?_
    exact jx (ar (decide (i.2.2.1<ah.2.2.2)) _ c aq (v.sel [1] J)) J
    replace c:=BI n c
    refine wn J n<|Bp KK J<|wn J n<|AU 0 A9 J v J J<|wn J n<|Bp KK J<|wn J n<|AU 1 A9 J v J J<|wn J n<|wp 1 J<|Ak J J n J<|wp 1 J ?_
    rcases bE (ah.1==i.1) with o|o
    replace c:=Bw o c
    refine wn J o<|Bp H8 J<|wn J o<|AU 0 A9 J v J J<|wn J o<|Bp Ee J<|wn J o<|AU 1 A9 J v J J<|wn J o<|wp 1 J<|A8 J J o J<|Ai ?_
    exact jx (ar (decide (i.2.2.1<ah.2.2.2)) _ c aq (v.sel [1] J)) J
    replace c:=BI o c
    refine wo J o<|wo J o<|wo J o<|wo J o<|wo J o<|Ak J J o J<|Ai ?_
    exact jx (ar false _ c aq (v.sel [1] J)) J
    refine Bb<|bl ?_
    refine Aq<|An 2 J ?_
    rw [az] at c
    exact fun a ha=>bj a _ ac (AB ac) ⟨Ah (u+1),ha.sb J,ap,a3.sel [] J,c⟩
  refine AQ B1 [] br bs fun a6 _ a7 y=>?_
  have av:=KeepX.refl a6 []
  refine Ad 0 J b av<|C7 KK J<|Ad 1 J b av<|CN 0 A9 J y J (by simp)<|A1 2 J<|bB c fun cf cg c=>Bn J call191 a7 y (Tc a6 i.1 _ cg) J fun ch ci a8 a9=>?_
  have d:=av.ext ci
  refine Ai<|Ar d<|Ad 3 J b d<|LZ J J<|Ay 4 J b d ?_
  rcases bE (!cf) with q|q
  replace c:=Bw q c
  refine Bh 5 J b q d<|Bh 6 J b q d<|Bh 7 J b q d<|Bh 8 J b q d<|Ad 9 J b d<|EK J J q J<|Ay 10 J b d<|Bh 11 J b J d<|Bh 12 J b J d<|Bh 13 J b J d<|Bh 14 J b J d<|Ad 15 J b d<|EK J J J J<|Ay 16 J b d<|Bh 17 J b J d<|Bh 18 J b J d<|Bh 19 J b J d<|Bh 20 J b J d<|Bh 21 J b J d<|Bh 22 J b J d<|Bh 23 J b J d<|Ad 24 J b d<|EK J J J J<|Ay 25 J b d<|Bh 26 J b J d<|Bh 27 J b J d<|Bh 28 J b J d<|Fe 29 J b d<|Fe 30 J b d<|Fe 31 J b d<|Fe 32 J b d<|Fe 33 J b d<|Fe 34 J b d<|Fe 35 J b d<|Fe 36 J b d<|Bh 37 J b J d<|Ad 38 J b d<|EK J J J J<|Bc ?_
  exact jx (aa true _ c a8 (a9.sel [0] J)) J
  replace c:=BI q c
  refine BQ 5 J b q d<|C7 IW J<|BQ 6 J b q d<|CN 0 A9 J y J (by simp)<|A1 7 J<|wn J q<|bB c fun cj ck c=>Bn J call156 a8 a9 (Si ch i.2.1 _ ck) J fun cl cn ba bb=>?_
  have g:=d.ext cn
  refine Ai<|Ar g<|BQ 8 J b q g<|LZ J J<|Ad 9 J b g<|GI J J q J<|Ay 10 J b g ?_
  rcases bE (!cj) with s|s
  replace c:=Bw s c
  refine Bh 11 J b s g<|Bh 12 J b s g<|Bh 13 J b s g<|Bh 14 J b s g<|Ad 15 J b g<|EK J J s J<|Ay 16 J b g<|Bh 17 J b J g<|Bh 18 J b J g<|Bh 19 J b J g<|Bh 20 J b J g<|Bh 21 J b J g<|Bh 22 J b J g<|Bh 23 J b J g<|Ad 24 J b g<|EK J J J J<|Ay 25 J b g<|Bh 26 J b J g<|Bh 27 J b J g<|Bh 28 J b J g<|Fe 29 J b g<|Fe 30 J b g<|Fe 31 J b g<|Fe 32 J b g<|Fe 33 J b g<|Fe 34 J b g<|Fe 35 J b g<|Fe 36 J b g<|Bh 37 J b J g<|Ad 38 J b g<|EK J J J J<|Bc ?_
  exact jx (aa true _ c ba (bb.sel [0] J)) J
  replace c:=BI s c
  refine BQ 11 J b s g<|C7 Ee J<|BQ 12 J b s g<|CN 0 A9 J y J (by simp)<|A1 13 J<|wn J s<|bB c fun co cp c=>Bn J call77 ba bb (Cr cl i.2.2.1 0 999 _ cp) J fun cq cr bc bd=>?_
  have h:=g.ext cr
  refine Ai<|Ar h<|BQ 14 J b s h<|LZ J J<|Ad 15 J b h<|GI J J s J<|Ay 16 J b h ?_
  rcases bE (!co) with l|l
  replace c:=Bw l c
  refine Bh 17 J b l h<|Bh 18 J b l h<|Bh 19 J b l h<|Bh 20 J b l h<|Bh 21 J b l h<|Bh 22 J b l h<|Bh 23 J b l h<|Ad 24 J b h<|EK J J l J<|Ay 25 J b h<|Bh 26 J b J h<|Bh 27 J b J h<|Bh 28 J b J h<|Fe 29 J b h<|Fe 30 J b h<|Fe 31 J b h<|Fe 32 J b h<|Fe 33 J b h<|Fe 34 J b h<|Fe 35 J b h<|Fe 36 J b h<|Bh 37 J b J h<|Ad 38 J b h<|EK J J J J<|Bc ?_
  exact jx (aa true _ c bc (bd.sel [0] J)) J
  replace c:=BI l c
  refine BQ 17 J b l h<|C7 H8 J<|BQ 18 J b l h<|CN 0 A9 J y J (by simp)<|BQ 19 J b l h<|C7 Ee J<|BQ 20 J b l h<|CN 0 A9 J y J (by simp)<|BQ 21 J b l h<|Fj J J J<|A1 22 J<|wn J l<|bB c fun cs ct c=>Bn J call77 bc bd (Cr cq i.2.2.2 (Ah (i.2.2.1+1)) 1000 _ ct) J fun cu cv aw ax=>?_
  have f:=h.ext cv
  refine Ai<|Ar f<|BQ 23 J b l f<|LZ J J<|Ad 24 J b f<|GI J J l J<|Ay 25 J b f ?_
  rcases bE (!cs) with p|p
  replace c:=Bw p c
  refine Bh 26 J b p f<|Bh 27 J b p f<|Bh 28 J b p f<|Fe 29 J b f<|Fe 30 J b f<|Fe 31 J b f<|Fe 32 J b f<|Fe 33 J b f<|Fe 34 J b f<|Fe 35 J b f<|Fe 36 J b f<|Bh 37 J b p f<|Ad 38 J b f<|EK J J p J<|Bc ?_
  exact jx (aa true _ c aw (ax.sel [0] J)) J
  replace c:=BI p c
  refine BQ 26 J b p f<|Dq J J<|BQ 27 J b p f<|Vq J J J<|BQ 28 J b p f<|Dq J J ?_
  rcases bE (decide (0<u)) with j|j
  replace c:=Bw j c
  refine BQ 29 J b j f<|Dq J J<|BQ 30 J b j f<|Dq J J<|BQ 31 J b j f<|H6 J J J<|bB c fun cw cx c=>BQ 32 J b j f<|B7 (e:=A4) underlying72 J J J ab cx ?_
  rintro df _ rfl cy
  refine BQ 33 J b j f<|BR BJ J (cy.kx a7 (by simp)) J<|BQ 34 J b j f<|CN 0 BJ J y J (by simp)<|A1 35 J<|wn J j<|bB c fun cz c0 c=>Bn J call136 aw ax (Q2 cu cw i _ c0) J fun dg c1 c2 c3=>?_
  have aj:=f.ext c1
  refine Ai<|Ar aj<|BQ 36 J b j aj<|LZ J J<|BQ 37 J b p aj<|EK J J j J<|Ad 38 J b aj<|GI J J p J<|Bc ?_
  exact jx (aa (!cz) _ c c2 (c3.sel [0] J)) J
  replace c:=BI j c
  refine Bh 29 J b j f<|Bh 30 J b j f<|Bh 31 J b j f<|Bh 32 J b j f<|Bh 33 J b j f<|Bh 34 J b j f<|Bh 35 J b j f<|Bh 36 J b j f<|BQ 37 J b p f<|GI J J j J<|Ad 38 J b f<|GI J J p J<|Bc ?_
  exact jx (aa false _ c aw (ax.sel [0] J)) J
  refine Bb<|bg ?_
  refine Al fun _ c4=>wp 1 J<|BO ab underlying72 J<|An 2 J<|c4<|Aw<|rt hQ J J<|by cases c; exact ⟨rfl,am⟩
theorem OM(p:Af)(w:Akh)(z:Ac)(bp:RO A4 p z w)(r:Akh×Bool)(c:Ki w=some r) :
  A2 94 [z] p fun e w'=>∃(q0:Ac)(G0:Ap),e=.returned (.tuple #[q0,.bool r.2])∧Bl p w'∧Sp p w' [Ab A4 G0 q0 r.1]:=by
 refine cm func94 ntmps94 J fun Q hQ d hB hS=>?_
 unfold Ki at c
 refine Am 2 J<|Am 1 J<|Ao fun _ c5=>Al fun _ c6=>wp 1 J<|BO bp underlying72 J<|An 1 J<|c6<|A0<|AN (fun m a w5=>∃(q:Akh)(x:Int)(s:Ac)(ab:Ap),St 46 [(4,s),(8,z),(9,iv (List.length w:Int)),(10,iv x)] a∧Bl p w5∧Sp p w5 [Ab A4 ab s q]∧Fu w m q x=some r) FU ?_ ?_
 have c7:=hS.push0 (r:=Ab A4 [] (.slice none 0 0) []) J fun _=>.inl ⟨rfl,rfl,rfl⟩
 exact fun a ha=>⟨[],0,.slice none 0 0,[],ha.sb J,hB,c7.sel [0] J,c⟩
 rintro ac a w5 ⟨q,x,s,ab,ha,a5,a6,c⟩ fw c8
 refine BC ?_ ha
 cases ac with
 | zero=>exact Be c
 | succ ac =>
  obtain ⟨fx,bs⟩:∃ k,k=Fu w ac:=⟨_,rfl⟩
  rw [Fu,← bs] at c
  refine Am 1 J<|Ao fun _ c9=>A3 J c (fun _ c=>?_)<|fun _ c=>?_
  refine Au<|c9 ?_
  refine Ao fun da db=>?_
  obtain ⟨a7,dc,c⟩:=Cb c
  have a8:∀(af:Akh)(ag:Ac)(a9:Ap)(ah:Af)(_:a7 af=some r)(_:Bl p ah)(_:Sp p ah [Ab A4 a9 ag af]),∀ a,St 46 [(4,ag),(8,z),(9,iv (List.length w:Int)),(10,iv x)] a→da a ah:=by
   intro af ag a9 ah c dd de
   subst dc
   refine db<|Aq<|An 2 J ?_
   rw [bs] at c
   exact fun a ha=>c8 a _ ac (AB ac) ⟨af,Ah (x+1),ag,a9,ha.sb J,dd,de.sel [0] J,c⟩
  refine A0<|Al fun _ df=>bB c fun f dg c=>BT (e:=A4) underlying72 J J J bp dg ?_
  rintro fy _ rfl dh
  refine BZ BJ J (dh.ro a5) J<|EE BJ J a5 a6 fun ai fz _ di dj=>GC 0 BJ J J di dj J J J fun f0 _ dk bt=>Ai<|df<|Al fun _ dl=>wp 1 J<|BO (bt.own_ro (i:=1) J) underlying72 J<|An 1 J<|dl<|Ao fun _ dm=>A0<|AN (fun m a ba=>∃(aa:Int),St 46 [(4,s),(6,.pointer (some ⟨ai,0,none⟩)),(7,iv aa),(8,z),(9,iv (List.length w:Int)),(10,iv x)] a∧Bl p ba∧Sp p ba [Ab A4 ab s q,Av ai 125 [iv f.1,iv f.2.1,iv f.2.2.1,iv f.2.2.2]]∧Gv q f a7 m aa=some r) FU ?_ ?_
  exact fun a ha=>⟨(List.length q:Int),ha.sb J,dk,bt.sel [1,0] J,c⟩
  rintro ad a ba ⟨aa,ha,dn,dp,c⟩ f1 dq
  refine BC ?_ ha
  cases ad with
  | zero=>exact Be c
  | succ ad =>
   obtain ⟨f2,bu⟩:∃ k,k=Gv q f a7 ad:=⟨_,rfl⟩
   rw [Gv,← bu] at c
   refine Ao fun _ dr=>Ao fun ds dt=>?_
   obtain ⟨du,dv,c⟩:=Cb c
   have bv:∀(bb:Bool)(aj:Af)(_:du bb=some r)(_:Bl p aj)(_:Sp p aj [Ab A4 ab s q,Av ai 125 [iv f.1,iv f.2.1,iv f.2.2.1,iv f.2.2.2]]),∀ a,St 46 [(4,s),(6,.pointer (some ⟨ai,0,none⟩)),(7,iv aa),(8,z),(9,iv (List.length w:Int)),(10,iv x),(26,.bool bb)] a→ds a aj:=by
    intro bb aj c bw bx
    subst dv
    refine dt<|A3 J c (fun _ c=>?_)<|fun _ c=>?_
    refine Au<|dr ?_
    refine A0<|Aq<|An 3 J ?_
    rw [bu] at c
    exact fun a ha=>dq a _ ad (AB ad) ⟨Ah (aa-1),ha.sb J,bw,bx.sel [0,1] J,c⟩
    refine Bb<|dm ?_
    refine AQ B1 [] bw bx fun o _ n y=>?_
    have t:=KeepX.refl o []
    refine Ay 1 J d t<|Ay 2 J d t<|bB c fun u64 dw c=>Ad 3 J d t<|Vn (e:=A4) underlying72 J J (y.ok (i:=0) J:ownS A4 _ _ _ _).rd dw (.inl ⟨rfl,rfl⟩) (.inr ⟨_,_,rfl,rfl⟩) fun f3 dx _=>?_
    have u:=dx.mono fun b hb=>((y.get (i:=0) J).2.1 b hb).2
    refine Ad 5 J d t<|CN 1 BJ J y J (by simp)<|Ay 8 J d t<|Ay 9 J d t<|bB c fun f4 dy c=>Ad 10 J d t<|Vn (e:=A4) underlying72 J J (y.ok (i:=0) J:ownS A4 _ _ _ _).rd dy (.inr ⟨_,_,rfl,rfl⟩) (.inl ⟨rfl,rfl⟩) fun f5 dz _=>?_
    have v:=dz.mono fun b hb=>((y.get (i:=0) J).2.1 b hb).2
    refine CA (is:=[0,6]) (by kernel_rfl) J<|Bj.2 ⟨⟨_,rfl,?_⟩,Bj.2 ⟨⟨_,rfl,?_⟩,fun _ h=>by cases h⟩⟩
    refine AZ (vs:=[]) (l:=[]) C2 underlying72 J J J J J J (Bk o) (Sep.nil _ _) fun f6 d0 bz ak _ b0=>?_
    have al:=tm n ak
    have b1:=y.join ak b0 n.size
    have am:∀ b ∈ d0,o.heap.size≤b:=fun b hb=>Az (Nat.le_refl o.heap.size) ((b0.1 _ (List.mem_cons_self ..)).2.1 b hb).1
    have an:=t.ext ak
    have ao:=Az (Nat.le_refl o.heap.size) ak.size
    refine Ai<|Ar an<|CA (is:=[4,6]) (by kernel_rfl) J<|Bj.2 ⟨⟨_,rfl,?_⟩,Bj.2 ⟨⟨_,rfl,?_⟩,fun _ h=>by cases h⟩⟩
    refine bB c fun f7 d1 c=>?_
    refine AE (i:=0) (S:=(·<bz.heap.size)) C2 underlying72 J J J al b1 J (u.ro (an.below ao n al)) d1 fun f8 d2 d3 ap b2 d4=>?_
    have b3:=an.wr' ap.1 ap.2.1 (fun b hlt hb=>absurd hlt (AM.2 (am b hb)))
    have b4:∀ b ∈ d2,o.heap.size≤b:=fun b hb=>(ap.2.2 b hb).elim (am b) fun h=>Az ao h
    have d5:=Az ao ap.1
    refine Ai<|Ar b3<|A1 6 J<|AZ (vs:=[.agg #[iv f.1,iv f.2.1,iv f.2.2.1,iv f.2.2.2]]) (l:=[f]) C2 underlying72 J J J J J J (Bk d3) (Sep.nil _ _) fun f9 ga d6 aq _ d7=>?_
    have d8:=tm b2 aq
    have b5:=d4.join aq d7 b2.size
    have b6:=b3.ext aq
    have b7:=Az d5 aq.size
    refine Ai<|Ar b6<|A1 7 J<|bB c fun gb d9 c=>AE (i:=1) (S:=(·<d6.heap.size)) C2 underlying72 J J J d8 b5 J (b5.own_ro (i:=0) J) d9 fun gc ea eb ar b8 ec=>?_
    have bc:=b6.wr' ar.1 ar.2.1 (fun b hlt hb=>absurd hlt (AM.2 (b4 b hb)))
    have ed:∀ b ∈ ea,o.heap.size≤b:=fun b hb=>(ar.2.2 b hb).elim (b4 b) fun h=>Az b7 h
    have b9:=Az b7 ar.1
    refine Ai<|Ar bc<|A1 11 J<|bB c fun ee ef c=>AE (i:=1) (S:=(·<eb.heap.size)) C2 underlying72 J J J b8 ec J (v.ro (bc.below b9 n b8)) ef fun eg eh gd bd be ei=>?_
    have au:=bc.wr' bd.1 bd.2.1 (fun b hlt hb=>absurd hlt (AM.2 (ed b hb)))
    have ca:=Az b9 bd.1
    refine Ai<|Ar au<|Ad 12 J d au<|AD J J<|Bc ?_
    have u:=u.ro (au.below ca n be)
    have v:=v.ro (au.below ca n be)
    exact jx (a8 ee eg eh _ c be (ei.sel [1] J)) J
    refine AZ (vs:=[.agg #[iv f.1,iv f.2.1,iv f.2.2.1,iv f.2.2.2]]) (l:=[f]) C2 underlying72 J J J J J J (Bk bz) (Sep.nil _ _) fun ge gf ej av _ ek=>?_
    have cb:=tm al av
    have el:=b1.join av ek al.size
    have bf:=an.ext av
    have bg:=Az ao av.size
    refine Ai<|Ar bf<|A1 4 J<|bB c fun gg em c=>AE (i:=1) (S:=(·<ej.heap.size)) C2 underlying72 J J J cb el J (u.ro (bf.below bg n cb)) em fun gh en eo aw ep cc=>?_
    have cd:=bf.wr' aw.1 aw.2.1 (fun b hlt hb=>absurd hlt (AM.2 (am b hb)))
    have ce:∀ b ∈ en,o.heap.size≤b:=fun b hb=>(aw.2.2 b hb).elim (am b) fun h=>Az bg h
    have cf:=Az bg aw.1
    refine Ai<|Ar cd<|A1 7 J<|bB c fun gi eq c=>AE (i:=1) (S:=(·<eo.heap.size)) C2 underlying72 J J J ep cc J (cc.own_ro (i:=0) J) eq fun gj er es ax cg et=>?_
    have bh:=cd.wr' ax.1 ax.2.1 (fun b hlt hb=>absurd hlt (AM.2 (ce b hb)))
    have eu:∀ b ∈ er,o.heap.size≤b:=fun b hb=>(ax.2.2 b hb).elim (ce b) fun h=>Az cf h
    have ch:=Az cf ax.1
    refine Ai<|Ar bh<|A1 11 J<|bB c fun ev ew c=>AE (i:=1) (S:=(·<es.heap.size)) C2 underlying72 J J J cg et J (v.ro (bh.below ch n cg)) ew fun ex ey gk bi bj ez=>?_
    have ay:=bh.wr' bi.1 bi.2.1 (fun b hlt hb=>absurd hlt (AM.2 (eu b hb)))
    have ci:=Az ch bi.1
    refine Ai<|Ar ay<|Ad 12 J d ay<|AD J J<|Bc ?_
    have u:=u.ro (ay.below ci n bj)
    have v:=v.ro (ay.below ci n bj)
    exact jx (a8 ev ex ey _ c bj (ez.sel [1] J)) J
    refine AZ (vs:=[.agg #[iv f.1,iv f.2.1,iv f.2.2.1,iv f.2.2.2]]) (l:=[f]) C2 underlying72 J J J J J J (Bk o) (Sep.nil _ _) fun gl gm e0 az _ e1=>?_
    have cj:=tm n az
    have e2:=y.join az e1 n.size
    have ck:=t.ext az
    have cl:=Az (Nat.le_refl o.heap.size) az.size
    refine Ai<|Ar ck<|A1 0 J<|AZ (vs:=[]) (l:=[]) C2 underlying72 J J J J J J (Bk e0) (Sep.nil _ _) fun gn e3 e4 a0 _ cn=>?_
    have co:=tm cj a0
    have e5:=e2.join a0 cn cj.size
    have cp:∀ b ∈ e3,o.heap.size≤b:=fun b hb=>Az cl ((cn.1 _ (List.mem_cons_self ..)).2.1 b hb).1
    have bk:=ck.ext a0
    have bl:=Az cl a0.size
    refine Ai<|Ar bk<|A1 4 J<|bB c fun go e6 c=>AE (i:=0) (S:=(·<e4.heap.size)) C2 underlying72 J J J co e5 J (u.ro (bk.below bl n co)) e6 fun gp e7 e8 a1 e9 cq=>?_
    have cr:=bk.wr' a1.1 a1.2.1 (fun b hlt hb=>absurd hlt (AM.2 (cp b hb)))
    have cs:∀ b ∈ e7,o.heap.size≤b:=fun b hb=>(a1.2.2 b hb).elim (cp b) fun h=>Az bl h
    have ct:=Az bl a1.1
    refine Ai<|Ar cr<|A1 7 J<|bB c fun gq fa c=>AE (i:=0) (S:=(·<e8.heap.size)) C2 underlying72 J J J e9 cq J (cq.own_ro (i:=1) J) fa fun gr fb fc a2 cu fd=>?_
    have bm:=cr.wr' a2.1 a2.2.1 (fun b hlt hb=>absurd hlt (AM.2 (cs b hb)))
    have fe:∀ b ∈ fb,o.heap.size≤b:=fun b hb=>(a2.2.2 b hb).elim (cs b) fun h=>Az ct h
    have cv:=Az ct a2.1
    refine Ai<|Ar bm<|A1 11 J<|bB c fun ff fg c=>AE (i:=0) (S:=(·<fc.heap.size)) C2 underlying72 J J J cu fd J (v.ro (bm.below cv n cu)) fg fun fh fi gs bn bo fj=>?_
    have a3:=bm.wr' bn.1 bn.2.1 (fun b hlt hb=>absurd hlt (AM.2 (fe b hb)))
    have cw:=Az cv bn.1
    refine Ai<|Ar a3<|Ad 12 J d a3<|AD J J<|Bc ?_
    have u:=u.ro (a3.below cw n bo)
    have v:=v.ro (a3.below cw n bo)
    exact jx (a8 ff fh fi _ c bo (fj.sel [0] J)) J
   refine AQ B1 [] dn dp fun cx _ cy a4=>?_
   have j:=KeepX.refl cx []
   refine Ay 0 J d j<|Ad 1 J d j<|Vq J J J<|Ay 2 J d j ?_
   rcases bE (decide (0<aa)) with g|g
   replace c:=Bw g c
   refine BQ 3 J d g j<|CN 1 BJ J a4 J (by simp)<|BQ 4 J d g j<|Dq J J<|BQ 5 J d g j<|Dq J J<|BQ 6 J d g j<|H6 J J J<|bB c fun fk fl c=>BQ 7 J d g j<|Bx (e:=A4) (i:=0) underlying72 J J J a4 J fl ?_
   rintro gt _ rfl fm gu
   refine BQ 8 J d g j<|BR BJ J (fm.kx0) J<|A1 9 J<|wn J g<|bB c fun fn fo c=>Bn J call136 cy a4 (Q2 cx f fk _ fo) J fun gv fp fq fr=>?_
   have cz:=j.ext fp
   refine Ai<|Ar cz<|Ad 10 J d cz<|EK J J g J<|Bc ?_
   exact jx (bv fn _ c fq (fr.sel [0,1] J)) J
   replace c:=BI g c
   refine Bh 3 J d g j<|Bh 4 J d g j<|Bh 5 J d g j<|Bh 6 J d g j<|Bh 7 J d g j<|Bh 8 J d g j<|Bh 9 J d g j<|Ad 10 J d j<|GI J J g J<|Bc ?_
   exact jx (bv false _ c cy (a4.sel [0,1] J)) J
  refine Bb<|c5 ?_
  refine Ao fun _ fs=>Al fun _ ft=>wp 1 J<|bB c fun gw fu c=>Bn J call137 a5 a6 (Sj w5 q s (a6.own_ro (i:=0) J) _ fu) J fun gx _ c0 c1=>An 1 J<|ft<|A3 J c (fun _ c=>?_)<|fun _ c=>?_
  refine Am 2 J ?_
  refine Aw ?_
  have fv:=c1.push0 (r:=Ab A4 [] (.slice none 0 0) []) J fun _=>.inl ⟨rfl,rfl,rfl⟩
  refine rt hQ J J<|by cases c; exact ⟨.slice none 0 0,[],rfl,c0,fv.sel [0] J⟩
  refine Au<|fs ?_
  refine Am 3 J<|Aw<|rt hQ J J<|by cases c; exact ⟨s,ab,rfl,c0,c1.sel [0] J⟩
theorem OJ(i:Af)(j:Akj)(o:Ac)(w:RO Cg i o j)(r:Bool)(b:IY j=some r) :
  A2 138 [o] i fun e w'=>e=.returned (.bool r)∧Bl i w':=by
 refine cm func138 ntmps138 J fun Q hQ hP hB hS=>?_
 unfold IY at b
 refine Am 1 J<|Ao fun _ ak=>Al fun _ al=>wp 1 J<|BO w underlying41 J<|An 1 J<|al<|A0<|AN (fun m a t=>∃(l:Int),St 43 [(0,o),(5,o),(6,iv (List.length j:Int)),(7,iv l)] a∧Bl i t∧Sp i t []∧Gp j m l=some r) FU ?_ ?_
 exact fun a ha=>⟨0,ha.sb J,hB,hS.sel [] J,b⟩
 rintro s a t ⟨l,ha,x,am,b⟩ bp an
 refine BC ?_ ha
 cases s with
 | zero=>exact Be b
 | succ s =>
  obtain ⟨bq,ac⟩:∃ k,k=Gp j s:=⟨_,rfl⟩
  rw [Gp,← ac] at b
  refine Am 1 J<|Ao fun _ ao=>A3 J b (fun _ b=>?_)<|fun _ b=>?_
  refine Au<|ao ?_
  refine Ao fun _ ap=>A0<|Al fun _ aq=>wp 1 J<|bB b fun p ar b=>BT (e:=Cg) underlying41 J J J w ar ?_
  rintro br _ rfl au
  refine BZ LR J (au.ro x) J<|EE LR J x am fun bs bt _ av aw=>wp 1 J<|GC 0 LR J J av aw J J J fun ax _ ay ad=>Ai<|aq<|Ao fun az a0=>?_
  obtain ⟨a1,a2,b⟩:=Cb b
  have q:∀(y:Bool)(u:Af)(_:a1 y=some r)(_:Bl i u)(_:Sp i u []),∀ a,St 43 [(0,o),(5,o),(6,iv (List.length j:Int)),(7,iv l),(38,.bool y)] a→az a u:=by
   intro y u b ae a3
   subst a2
   refine a0<|A3 J b (fun _ b=>?_)<|fun _ b=>?_
   refine Am 1 J ?_
   refine Aw<|rt hQ J J<|by cases b; exact ⟨rfl,ae⟩
   refine Au<|ap ?_
   refine Aq<|An 2 J ?_
   rw [ac] at b
   exact fun a ha=>an a _ s (AB s) ⟨Ah (l+1),ha.sb J,ae,a3.sel [] J,b⟩
  refine Aq<|Bp Pv J<|AU 0 A9 J ad J J<|wp 2 J<|bB b fun a4 a5 b=>Bn J call77 ay ad (Cr ax p.1 0 (Ah (l-1)) _ a5) J fun af _ v n=>wp 2 J ?_
  rcases bE (!a4) with c|c
  replace b:=Bw c b
  refine wn J c<|wp 1 J<|wn J c<|wp 1 J<|wn J c<|wp 1 J ?_
  rcases bE (decide (0<l)) with h|h
  replace b:=Bw h b
  refine wo J h<|wo J h<|wo J h<|wn J c<|A8 J J h J<|A8 J J c J<|wp 1 J<|wo J J<|wo J J<|wo J J<|wo J J<|A8 J J J J<|wp 1 J<|wo J J<|wo J J<|wo J J<|wo J J<|A8 J J J J<|Ai ?_
  exact jx (q true _ b v (n.sel [] J)) J
  replace b:=BI h b
  refine wn J h<|Bp Pv J<|wn J h<|AU 0 A9 J n J J<|wn J h<|wp 1 J<|wn J c<|Ak J J h J<|A8 J J c J<|wp 1 J ?_
  rcases bE (p.1 != (-1)) with d|d
  replace b:=Bw d b
  refine wo J d<|wo J d<|wo J d<|wo J d<|A8 J J d J<|wp 1 J<|wo J J<|wo J J<|wo J J<|wo J J<|A8 J J J J<|Ai ?_
  exact jx (q true _ b v (n.sel [] J)) J
  replace b:=BI d b
  refine wn J d<|Bp Pu J<|wn J d<|AU 0 A9 J n J J<|wn J d<|bB b fun a6 a7 b=>Bn J call77 v n (Cr af p.2.1 0 7 _ a7) J fun a8 _ ag z=>wn J d<|wp 1 J<|Ak J J d J<|wp 1 J ?_
  rcases bE (!a6) with f|f
  replace b:=Bw f b
  refine wo J f<|wo J f<|wo J f<|wo J f<|A8 J J f J<|Ai ?_
  exact jx (q true _ b ag (z.sel [] J)) J
  replace b:=BI f b
  refine wn J f<|Bp Pt J<|wn J f<|AU 0 A9 J z J J<|wn J f<|bB b fun a9 ba b=>Bn J call77 ag z (Cr a8 p.2.2 0 999 _ ba) J fun bu _ bb bc=>wn J f<|wp 1 J<|Ak J J f J<|Ai ?_
  exact jx (q (!a9) _ b bb (bc.sel [] J)) J
  replace b:=BI c b
  refine wo J c<|wo J c<|wo J c<|D5 J J J<|D5 J J J<|D5 J J J<|wo J c<|Ak J J c J<|wp 1 J<|wn J J<|Bp Pu J<|wn J J<|AU 0 A9 J n J J<|wn J J<|bB b fun bd be b=>Bn J call77 v n (Cr af p.2.1 0 7 _ be) J fun bf _ ah aa=>wn J J<|wp 1 J<|Ak J J J J<|wp 1 J ?_
  rcases bE (!bd) with g|g
  replace b:=Bw g b
  refine wo J g<|wo J g<|wo J g<|wo J g<|A8 J J g J<|Ai ?_
  exact jx (q true _ b ah (aa.sel [] J)) J
  replace b:=BI g b
  refine wn J g<|Bp Pt J<|wn J g<|AU 0 A9 J aa J J<|wn J g<|bB b fun bg bh b=>Bn J call77 ah aa (Cr bf p.2.2 0 999 _ bh) J fun bv _ bi bj=>wn J g<|wp 1 J<|Ak J J g J<|Ai ?_
  exact jx (q (!bg) _ b bi (bj.sel [] J)) J
  refine Bb<|ak ?_
  refine Al fun _ bk=>wp 1 J<|BO w underlying41 J<|bB b fun bw bl b=>A7 J call77 (Cr t (List.length j:Int) 1 60 _ bl) J ?_
  rintro _ bx ⟨rfl,bm⟩
  refine ⟨_,rfl,?_⟩
  have bn:=tm x bm
  refine An 1 J<|bk<|Aw<|rt hQ J J<|by cases b; exact ⟨rfl,bn⟩
theorem TO(j:Af)(x0:Akj)(p:Ac)(q:RO Cg j p x0)(d:Int×Int×Int)(r:Akj×Bool)(c:Jj x0 d=some r) :
  A2 95 [p,.agg #[iv d.1,iv d.2.1,iv d.2.2]] j fun e w'=>∃(q0:Ac)(G0:Ap),e=.returned (.tuple #[q0,.bool r.2])∧Bl j w'∧Sp j w' [Ab Cg G0 q0 r.1]:=by
 refine cm func95 ntmps95 J fun Q hQ m hB hS=>?_
 unfold Jj at c
 refine Al fun _ bp=>CV J hB hS fun b2 w3 _ bq br=>An 2 J<|bp<|Ao fun K7 bt=>?_
 obtain ⟨bu,bv,c⟩:=Cb c
 have ad:∀(n:Akj)(k:Ac)(s:Ap)(o:Af)(_:bu n=some r)(_:Bl j o)(_:Sp j o [Ab Cg s k n]),∀ a,St 22 [(0,p),(6,k)] a→K7 a o:=by
  intro n k s o c ao bw
  subst bv
  refine bt<|Ao fun _ bx=>Ao fun bz b0=>?_
  obtain ⟨b1,b3,c⟩:=Cb c
  have ap:∀(ae:Bool)(t:Af)(_:b1 ae=some r)(_:Bl j t)(_:Sp j t [Ab Cg s k n]),∀ a,St 22 [(6,k),(20,.bool ae)] a→bz a t:=by
   intro ae t c aq ar
   subst b3
   refine b0<|A3 J c (fun _ c=>?_)<|fun _ c=>?_
   refine Am 2 J ?_
   refine Aw ?_
   have b4:=ar.push0 (r:=Ab Cg [] (.slice none 0 0) []) J fun _=>.inl ⟨rfl,rfl,rfl⟩
   refine rt hQ J J<|by cases c; exact ⟨.slice none 0 0,[],rfl,aq,b4.sel [0] J⟩
   refine Au<|bx ?_
   refine Am 3 J<|Aw<|rt hQ J J<|by cases c; exact ⟨k,s,rfl,aq,ar.sel [0] J⟩
  refine Aq<|wp 1 J<|bB c fun b5 b6 c=>Bn J call138 ao bw (OJ o x0 p (q.ro ao) _ b6) J fun b7 _ au af=>wp 2 J ?_
  rcases bE (!b5) with f|f
  replace c:=Bw f c
  refine wo J f<|wo J f<|wo J f<|A8 J J f J<|Ai ?_
  exact jx (ap true _ c au (af.sel [0] J)) J
  replace c:=BI f c
  refine wn J f<|wp 1 J<|wn J f<|bB c fun b8 b9 c=>Bn J call138 au af (OJ b7 n k (af.own_ro (i:=0) J) _ b9) J fun ds _ ca cb=>wn J f<|wp 1 J<|Ak J J f J<|Ai ?_
  exact jx (ap (!b8) _ c ca (cb.sel [0] J)) J
 refine AQ B1 [] bq br fun g _ u ag=>?_
 have v:=KeepX.refl g []
 refine Ay 1 J m v<|Ad 3 J m v<|CN 0 LR J ag J (by simp)<|CA (is:=[0,4]) (by kernel_rfl) J<|Bj.2 ⟨⟨_,rfl,?_⟩,Bj.2 ⟨⟨_,rfl,?_⟩,fun _ h=>by cases h⟩⟩
 refine AZ (vs:=[]) (l:=[]) Hy underlying41 J J J J J J (Bk g) (Sep.nil _ _) fun dt cc av w _ aw=>?_
 have x:=tm u w
 have ax:=ag.join w aw u.size
 have y:∀ b ∈ cc,g.heap.size≤b:=fun b hb=>Az (Nat.le_refl g.heap.size) ((aw.1 _ (List.mem_cons_self ..)).2.1 b hb).1
 have ah:=v.ext w
 have ay:=Az (Nat.le_refl g.heap.size) w.size
 refine Ai<|Ar ah<|CA (is:=[2,4]) (by kernel_rfl) J<|Bj.2 ⟨⟨_,rfl,?_⟩,Bj.2 ⟨⟨_,rfl,?_⟩,fun _ h=>by cases h⟩⟩
 refine bB c fun du cd c=>?_
 refine AE (i:=0) (S:=(·<av.heap.size)) Hy underlying41 J J J x ax J (q.ro x) cd fun dv ce cf ai az cg=>?_
 have a0:=ah.wr' ai.1 ai.2.1 (fun b hlt hb=>absurd hlt (AM.2 (y b hb)))
 have ch:∀ b ∈ ce,g.heap.size≤b:=fun b hb=>(ai.2.2 b hb).elim (y b) fun h=>Az ay h
 refine Ai<|Ar a0<|A1 4 J<|AZ (vs:=[.agg #[iv d.1,iv d.2.1,iv d.2.2]]) (l:=[d]) Hy underlying41 J J J J J J (Bk cf) (Sep.nil _ _) fun dw dx ci aj _ cj=>?_
 have ck:=tm az aj
 have a1:=cg.join aj cj az.size
 have a2:=a0.ext aj
 refine Ai<|Ar a2<|A1 5 J<|bB c fun cl cn c=>AE (i:=1) (S:=(·<ci.heap.size)) Hy underlying41 J J J ck a1 J (a1.own_ro (i:=0) J) cn fun co cp dy a3 cq cr=>?_
 have a4:=a2.wr' a3.1 a3.2.1 (fun b hlt hb=>absurd hlt (AM.2 (ch b hb)))
 refine Ai<|Ar a4<|Ad 6 J m a4<|AD J J<|Bc ?_
 exact jx (ad cl co cp _ c cq (cr.sel [1] J)) J
 refine AZ (vs:=[.agg #[iv d.1,iv d.2.1,iv d.2.2]]) (l:=[d]) Hy underlying41 J J J J J J (Bk av) (Sep.nil _ _) fun dz d0 cs z _ ct=>?_
 have a5:=tm x z
 have cu:=ax.join z ct x.size
 have a6:=ah.ext z
 have cv:=Az ay z.size
 refine Ai<|Ar a6<|A1 2 J<|bB c fun d1 cw c=>AE (i:=1) (S:=(·<cs.heap.size)) Hy underlying41 J J J a5 cu J (q.ro a5) cw fun d2 cx cy ak cz a7=>?_
 have a8:=a6.wr' ak.1 ak.2.1 (fun b hlt hb=>absurd hlt (AM.2 (y b hb)))
 have c0:∀ b ∈ cx,g.heap.size≤b:=fun b hb=>(ak.2.2 b hb).elim (y b) fun h=>Az cv h
 refine Ai<|Ar a8<|A1 5 J<|bB c fun c1 c2 c=>AE (i:=1) (S:=(·<cy.heap.size)) Hy underlying41 J J J cz a7 J (a7.own_ro (i:=0) J) c2 fun c3 c4 d3 a9 c5 c6=>?_
 have ba:=a8.wr' a9.1 a9.2.1 (fun b hlt hb=>absurd hlt (AM.2 (c0 b hb)))
 refine Ai<|Ar ba<|Ad 6 J m ba<|AD J J<|Bc ?_
 exact jx (ad c1 c3 c4 _ c c5 (c6.sel [1] J)) J
 refine AZ (vs:=[.agg #[iv d.1,iv d.2.1,iv d.2.2]]) (l:=[d]) Hy underlying41 J J J J J J (Bk g) (Sep.nil _ _) fun d4 d5 c7 aa _ c8=>?_
 have bb:=tm u aa
 have c9:=ag.join aa c8 u.size
 have bc:=v.ext aa
 have bd:=Az (Nat.le_refl g.heap.size) aa.size
 refine Ai<|Ar bc<|A1 0 J<|AZ (vs:=[]) (l:=[]) Hy underlying41 J J J J J J (Bk c7) (Sep.nil _ _) fun d6 da db ab _ be=>?_
 have bf:=tm bb ab
 have dc:=c9.join ab be bb.size
 have bg:∀ b ∈ da,g.heap.size≤b:=fun b hb=>Az bd ((be.1 _ (List.mem_cons_self ..)).2.1 b hb).1
 have bh:=bc.ext ab
 have dd:=Az bd ab.size
 refine Ai<|Ar bh<|A1 2 J<|bB c fun d7 de c=>AE (i:=0) (S:=(·<db.heap.size)) Hy underlying41 J J J bf dc J (q.ro bf) de fun d8 df dg al dh bi=>?_
 have bj:=bh.wr' al.1 al.2.1 (fun b hlt hb=>absurd hlt (AM.2 (bg b hb)))
 have di:∀ b ∈ df,g.heap.size≤b:=fun b hb=>(al.2.2 b hb).elim (bg b) fun h=>Az dd h
 refine Ai<|Ar bj<|A1 5 J<|bB c fun dj dk c=>AE (i:=0) (S:=(·<dg.heap.size)) Hy underlying41 J J J dh bi J (bi.own_ro (i:=1) J) dk fun dl dm d9 bk dn dp=>?_
 have bl:=bj.wr' bk.1 bk.2.1 (fun b hlt hb=>absurd hlt (AM.2 (di b hb)))
 refine Ai<|Ar bl<|Ad 6 J m bl<|AD J J<|Bc ?_
 exact jx (ad dj dl dm _ c dn (dp.sel [0] J)) J
theorem QM(k:Af)(d:Akg×Akg×Int×Akg×Akh×Akj×(List Int)×(List Int)×Int)(g:Nat)(q:Ap)(x1:List Ag)(n:List Int)(o:Ac)(p:Ap)(jm:Sep 0 k [A6 B9 74 q g d,Ab As p o n])(r:Bool×(Akg×Akg×Int×Akg×Akh×Akj×(List Int)×(List Int)×Int))(c:CB d x1 n=some r) :
  A2 79 [.pointer (some ⟨g,0,none⟩),.string (AL x1),o] k fun e w'=>∃(H_0:Ap),e=.returned (.bool r.1)∧Below 0 (wE k) w'∧Sep 0 w' [A5 k (AP [A6 B9 74 q g d,Ab As p o n]),A6 B9 74 H_0 g r.2]:=by
 refine Ek func79 J ntmps79 J J fun Q hQ f=>?_
 have hB:Bl (wE k) k:=Dp k
 have hS:Sp (wE k) k [A5 k (AP [A6 B9 74 q g d,Ab As p o n]),A6 B9 74 q g d,Ab As p o n]:=jm.rest
 unfold CB at c
 refine Am 1 J<|Am 1 J<|Ao fun K3 jp=>?_
 obtain ⟨jq,jr,c⟩:=Np c
 have aj:∀(df:Akg×Akg×Int×Akg×Akh×Akj×(List Int)×(List Int)×Int)(dg:Bool)(dh:Ap)(b8:Af)(_:jq df dg=some r)(_:Bl (wE k) b8)(_:Sp (wE k) b8 [A5 k (AP [A6 B9 74 q g d,Ab As p o n]),A6 B9 74 dh g df]),∀ a,St 174 [(7,.bool dg)] a→K3 a b8:=by
  intro df dg dh b8 c js jt
  subst jr
  refine jp<|Am 2 J<|Aw<|rt hQ J J<|by cases c; exact ⟨dh,rfl,js,jt.sel [0,1] J⟩
 refine Am 1 J<|A0<|Al fun _ ju=>AR J J J<|An 1 J<|ju<|A3 J c (fun _ c=>?_)<|fun _ c=>?_
 obtain ⟨a0,aa,a3,ab,a4,ac,a5,ad,a6,ae,a7,af,a8,ag,jv⟩:=G5 (hS.sel [1,0,2] J)
 refine AQ B1 ((((((([g]++aa)++ab)++ac)++ad)++ae)++af)++ag) hB jv fun ah _ a9 t=>?_
 have ak:=KeepX.refl ah ((((((([g]++aa)++ab)++ac)++ad)++ae)++af)++ag)
 refine Ay 0 J f ak<|Ay 1 J f ak<|Ad 2 J f ak<|B0 J J<|Ad 3 J f ak<|C7 J4 J<|Ay 6 J f ak<|bB c fun y jw c=>Ad 7 J f ak<|CK (e:=As) (i:=9) underlying36 J J J t J jw ?_
 rintro sv _ rfl jy sw
 refine Ad 8 J f ak<|BR A9 J (fun w hw=>jy.keepS (fun b m=>(hw.blk b (((t.get (i:=9) J).2.1 b m).2) (fun hb=>(AV.1 hb).elim (fun hb=>(AV.1 hb).elim (fun hb=>(AV.1 hb).elim (fun hb=>(AV.1 hb).elim (fun hb=>(AV.1 hb).elim (fun hb=>(AV.1 hb).elim (fun hb=>(AV.1 hb).elim (t.disj (i:=9) (j:=0) J J J b m) (t.disj (i:=9) (j:=1) J J J b m)) (t.disj (i:=9) (j:=2) J J J b m)) (t.disj (i:=9) (j:=3) J J J b m)) (t.disj (i:=9) (j:=4) J J J b m)) (t.disj (i:=9) (j:=5) J J J b m)) (t.disj (i:=9) (j:=6) J J J b m)) (t.disj (i:=9) (j:=7) J J J b m)))) (fun _ h=>h)) J<|Ay 9 J f ak<|bB c fun z jz c=>Ad 10 J f ak<|CK (e:=As) (i:=9) underlying36 J J J t J jz ?_
 rintro sx _ rfl j0 sy
 refine Ad 11 J f ak<|BR A9 J (fun w hw=>j0.keepS (fun b m=>(hw.blk b (((t.get (i:=9) J).2.1 b m).2) (fun hb=>(AV.1 hb).elim (fun hb=>(AV.1 hb).elim (fun hb=>(AV.1 hb).elim (fun hb=>(AV.1 hb).elim (fun hb=>(AV.1 hb).elim (fun hb=>(AV.1 hb).elim (fun hb=>(AV.1 hb).elim (t.disj (i:=9) (j:=0) J J J b m) (t.disj (i:=9) (j:=1) J J J b m)) (t.disj (i:=9) (j:=2) J J J b m)) (t.disj (i:=9) (j:=3) J J J b m)) (t.disj (i:=9) (j:=4) J J J b m)) (t.disj (i:=9) (j:=5) J J J b m)) (t.disj (i:=9) (j:=6) J J J b m)) (t.disj (i:=9) (j:=7) J J J b m)))) (fun _ h=>h)) J<|Ad 12 J f ak<|IU (zs:=[iv 0,iv 0]) (out:=[iv y,iv z]) (vs:=[iv y,iv z]) (css:=[[iv y],[iv z]]) Bt MQ J J J J J<|CA (is:=[4,13]) (by kernel_rfl) J<|Bj.2 ⟨⟨_,rfl,?_⟩,Bj.2 ⟨⟨_,rfl,?_⟩,fun _ h=>by cases h⟩⟩
 refine AU 0 Cs J t J J ?_
 refine Ai<|Ar ak<|CA (is:=[5,13]) (by kernel_rfl) J<|Bj.2 ⟨⟨_,rfl,?_⟩,Bj.2 ⟨⟨_,rfl,?_⟩,fun _ h=>by cases h⟩⟩
 refine bB c fun sz j1 c=>?_
 refine A7 J call90 (JO ah d.1 a0 (t.own_ro (i:=1) J) _ j1) J ?_
 rintro _ j2 ⟨s0,j3,rfl,b9,fd⟩
 refine ⟨_,rfl,?_⟩
 have fe:=tm a9 b9
 have ff:∀ b ∈ j3,ah.heap.size≤b:=fun b hb=>Az (Nat.le_refl ah.heap.size) ((fd.get (i:=0) J).2.1 b hb).1
 have j4:=t.join b9 fd a9.size
 have fg:=ak.ext b9
 have j5:=Az (Nat.le_refl ah.heap.size) b9.size
 refine Ai<|Ar fg<|A1 13 J<|AZ (vs:=[.agg #[iv y,iv z]]) (l:=[(y,z)]) CR underlying26 J J J J J J (Bk j2) (Sep.nil _ _) fun di dj j6 ca _ j7=>?_
 have j8:=tm fe ca
 have fh:=j4.join ca j7 fe.size
 have fi:=fg.ext ca
 have fj:=Az j5 ca.size
 refine Ai<|Ar fi<|A1 14 J<|bB c fun dk j9 c=>AE (i:=1) (S:=(·<j6.heap.size)) CR underlying26 J J J j8 fh J (fh.own_ro (i:=0) J) j9 fun dl cb ka cc fk dm=>?_
 have fl:=fi.wr' cc.1 cc.2.1 (fun b hlt hb=>absurd hlt (AM.2 (ff b hb)))
 have fm:∀ b ∈ cb,ah.heap.size≤b:=fun b hb=>(cc.2.2 b hb).elim (ff b) fun h=>Az fj h
 have kb:=Az fj cc.1
 refine Ai<|Ar fl<|A1 15 J<|bB c fun ba kc c=>A7 J call89 (KQ ka dk dl cb (dm.sel [1] J).base0 _ kc) J ?_
 rintro _ dn ⟨bt,bb,rfl,kd,cd⟩
 refine ⟨_,rfl,?_⟩
 have fn:=dm.takeB [1] J (M:=[Ab At cb dl dk]) J fk kd cd
 have ke:Sp (wE k) dn [Ab At bb bt ba.1,Ab At dj di [(y,z)],Av g 74 [a0,a3,iv d.2.2.1,a4,a5,a6,a7,a8,iv d.2.2.2.2.2.2.2.2],Ab At aa a0 d.1,Ab At ab a3 d.2.1,Ab BN ac a4 d.2.2.2.1,Ab A4 ad a5 d.2.2.2.2.1,Ab Cg ae a6 d.2.2.2.2.2.1,Ab As af a7 d.2.2.2.2.2.2.1,Ab As ag a8 d.2.2.2.2.2.2.2.1,A5 k (AP [A6 B9 74 q g d,Ab As p o n]),Ab As p o n]:=dm.take [1] [0,2,3,4,5,6,7,8,9,10,11] J (M:=[Ab At cb dl dk]) J cd fk.size
 have kf:∀ b ∈ bb,ah.heap.size≤b:=fun b hb=>(LX cd (i:=0) J b hb).elim ((Cc (fm) Dh) b) fun h=>Az kb h
 have ce:=fl.tk cd (Cc (fun b hb hlt=>absurd hlt (AM.2 (fm b hb))) Dh)
 refine Ai<|Ar ce<|Ad 16 J f ce<|Ba J J J<|Ad 17 J f ce<|Ba J J J<|A1 18 J ?_
 have dp:Sp (wE k) dn [A6 B9 74 ([aa,ab,ac,ad,ae,af,ag].flatten) g d,Ab At bb bt ba.1,Ab At dj di [(y,z)],A5 k (AP [A6 B9 74 q g d,Ab As p o n]),Ab As p o n]:=DT (ke.sel [2,3,4,5,6,7,8,9,0,1,10,11] J)
 refine bB c fun dq kg c=>A7 J call88 (HJ dn d g ([aa,ab,ac,ad,ae,af,ag].flatten) ba.1 bt bb ba.2 (dp.sel [0,1] J).base0 _ kg) J ?_
 rintro _ kh ⟨fo,rfl,ki,dr⟩
 refine ⟨_,rfl,?_⟩
 have kj:=dp.takeB [0,1] J (M:=[A6 B9 74 ([aa,ab,ac,ad,ae,af,ag].flatten) g d,Ab At bb bt ba.1]) J fn ki dr
 have kk:Sp (wE k) kh [A6 B9 74 fo g dq.2,Ab At dj di [(y,z)],A5 k (AP [A6 B9 74 q g d,Ab As p o n]),Ab As p o n]:=dp.take [0,1] [2,3,4] J (M:=[A6 B9 74 ([aa,ab,ac,ad,ae,af,ag].flatten) g d,Ab At bb bt ba.1]) J dr fn.size
 have fp:=ce.tk dr (Cc (Rf (fun b hb hlt=>(fun _ _ h=>Ax _ (Ax _ (Ax _ (Ax _ (Ax _ (Ax _ (Ax _ (h)))))))) b hlt hb) (Bv (fun b hb hlt=>(fun _ _ h=>Ax _ (Ax _ (Ax _ (Ax _ (Ax _ (Ax _ (Bm _ h))))))) b hlt hb) (Bv (fun b hb hlt=>(fun _ _ h=>Ax _ (Ax _ (Ax _ (Ax _ (Ax _ (Bm _ h)))))) b hlt hb) (Bv (fun b hb hlt=>(fun _ _ h=>Ax _ (Ax _ (Ax _ (Ax _ (Bm _ h))))) b hlt hb) (Bv (fun b hb hlt=>(fun _ _ h=>Ax _ (Ax _ (Ax _ (Bm _ h)))) b hlt hb) (Bv (fun b hb hlt=>(fun _ _ h=>Ax _ (Ax _ (Bm _ h))) b hlt hb) (Bv (fun b hb hlt=>(fun _ _ h=>Ax _ (Bm _ h)) b hlt hb) (Bv (fun b hb hlt=>(fun _ _ h=>Bm _ h) b hlt hb) J3)))))))) (Cc (fun b hb hlt=>absurd hlt (AM.2 (kf b hb))) Dh))
 refine Ai<|Ar fp<|Ad 19 J f fp<|AD J J<|Bc ?_
 exact jx (aj (dq.2) (dq.1) fo _ c kj (kk.sel [2,0] J)) J
 refine AZ (vs:=[.agg #[iv y,iv z]]) (l:=[(y,z)]) CR underlying26 J J J J J J (Bk ah) (Sep.nil _ _) fun ds dt kl cf _ km=>?_
 have fq:=tm a9 cf
 have fr:=t.join cf km a9.size
 have fs:=ak.ext cf
 have ft:=Az (Nat.le_refl ah.heap.size) cf.size
 refine Ai<|Ar fs<|A1 5 J<|bB c fun s1 kn c=>A7 J call90 (JO kl d.1 a0 (fr.own_ro (i:=2) J) _ kn) J ?_
 rintro _ ko ⟨s2,kp,rfl,cg,fu⟩
 refine ⟨_,rfl,?_⟩
 have kq:=tm fq cg
 have fv:∀ b ∈ kp,ah.heap.size≤b:=fun b hb=>Az ft ((fu.get (i:=0) J).2.1 b hb).1
 have fw:=fr.join cg fu fq.size
 have fx:=fs.ext cg
 have fy:=Az ft cg.size
 refine Ai<|Ar fx<|A1 14 J<|bB c fun du kr c=>AE (i:=0) (S:=(·<ko.heap.size)) CR underlying26 J J J kq fw J (fw.own_ro (i:=1) J) kr fun dv ch ks ci fz dw=>?_
 have f0:=fx.wr' ci.1 ci.2.1 (fun b hlt hb=>absurd hlt (AM.2 (fv b hb)))
 have f1:∀ b ∈ ch,ah.heap.size≤b:=fun b hb=>(ci.2.2 b hb).elim (fv b) fun h=>Az fy h
 have kt:=Az fy ci.1
 refine Ai<|Ar f0<|A1 15 J<|bB c fun bc ku c=>A7 J call89 (KQ ks du dv ch (dw.sel [0] J).base0 _ ku) J ?_
 rintro _ dx ⟨bu,bd,rfl,kv,cj⟩
 refine ⟨_,rfl,?_⟩
 have f2:=dw.takeB [0] J (M:=[Ab At ch dv du]) J fz kv cj
 have kw:Sp (wE k) dx [Ab At bd bu bc.1,Ab At dt ds [(y,z)],Av g 74 [a0,a3,iv d.2.2.1,a4,a5,a6,a7,a8,iv d.2.2.2.2.2.2.2.2],Ab At aa a0 d.1,Ab At ab a3 d.2.1,Ab BN ac a4 d.2.2.2.1,Ab A4 ad a5 d.2.2.2.2.1,Ab Cg ae a6 d.2.2.2.2.2.1,Ab As af a7 d.2.2.2.2.2.2.1,Ab As ag a8 d.2.2.2.2.2.2.2.1,A5 k (AP [A6 B9 74 q g d,Ab As p o n]),Ab As p o n]:=dw.take [0] [1,2,3,4,5,6,7,8,9,10,11] J (M:=[Ab At ch dv du]) J cj fz.size
 have kx:∀ b ∈ bd,ah.heap.size≤b:=fun b hb=>(LX cj (i:=0) J b hb).elim ((Cc (f1) Dh) b) fun h=>Az kt h
 have ck:=f0.tk cj (Cc (fun b hb hlt=>absurd hlt (AM.2 (f1 b hb))) Dh)
 refine Ai<|Ar ck<|Ad 16 J f ck<|Ba J J J<|Ad 17 J f ck<|Ba J J J<|A1 18 J ?_
 have dy:Sp (wE k) dx [A6 B9 74 ([aa,ab,ac,ad,ae,af,ag].flatten) g d,Ab At bd bu bc.1,Ab At dt ds [(y,z)],A5 k (AP [A6 B9 74 q g d,Ab As p o n]),Ab As p o n]:=DT (kw.sel [2,3,4,5,6,7,8,9,0,1,10,11] J)
 refine bB c fun dz ky c=>A7 J call88 (HJ dx d g ([aa,ab,ac,ad,ae,af,ag].flatten) bc.1 bu bd bc.2 (dy.sel [0,1] J).base0 _ ky) J ?_
 rintro _ kz ⟨f3,rfl,k0,d0⟩
 refine ⟨_,rfl,?_⟩
 have k1:=dy.takeB [0,1] J (M:=[A6 B9 74 ([aa,ab,ac,ad,ae,af,ag].flatten) g d,Ab At bd bu bc.1]) J f2 k0 d0
 have k2:Sp (wE k) kz [A6 B9 74 f3 g dz.2,Ab At dt ds [(y,z)],A5 k (AP [A6 B9 74 q g d,Ab As p o n]),Ab As p o n]:=dy.take [0,1] [2,3,4] J (M:=[A6 B9 74 ([aa,ab,ac,ad,ae,af,ag].flatten) g d,Ab At bd bu bc.1]) J d0 f2.size
 have f4:=ck.tk d0 (Cc (Rf (fun b hb hlt=>(fun _ _ h=>Ax _ (Ax _ (Ax _ (Ax _ (Ax _ (Ax _ (Ax _ (h)))))))) b hlt hb) (Bv (fun b hb hlt=>(fun _ _ h=>Ax _ (Ax _ (Ax _ (Ax _ (Ax _ (Ax _ (Bm _ h))))))) b hlt hb) (Bv (fun b hb hlt=>(fun _ _ h=>Ax _ (Ax _ (Ax _ (Ax _ (Ax _ (Bm _ h)))))) b hlt hb) (Bv (fun b hb hlt=>(fun _ _ h=>Ax _ (Ax _ (Ax _ (Ax _ (Bm _ h))))) b hlt hb) (Bv (fun b hb hlt=>(fun _ _ h=>Ax _ (Ax _ (Ax _ (Bm _ h)))) b hlt hb) (Bv (fun b hb hlt=>(fun _ _ h=>Ax _ (Ax _ (Bm _ h))) b hlt hb) (Bv (fun b hb hlt=>(fun _ _ h=>Ax _ (Bm _ h)) b hlt hb) (Bv (fun b hb hlt=>(fun _ _ h=>Bm _ h) b hlt hb) J3)))))))) (Cc (fun b hb hlt=>absurd hlt (AM.2 (kx b hb))) Dh))
 refine Ai<|Ar f4<|Ad 19 J f f4<|AD J J<|Bc ?_
 exact jx (aj (dz.2) (dz.1) f3 _ c k1 (k2.sel [2,0] J)) J
 refine AZ (vs:=[.agg #[iv y,iv z]]) (l:=[(y,z)]) CR underlying26 J J J J J J (Bk ah) (Sep.nil _ _) fun d1 d2 k3 cl _ k4=>?_
 have f5:=tm a9 cl
 have d3:=t.join cl k4 a9.size
 have d4:=ak.ext cl
 have f6:=Az (Nat.le_refl ah.heap.size) cl.size
 refine Ai<|Ar d4<|A1 4 J<|AU 1 Cs J d3 J J<|Ai<|Ar d4<|A1 5 J<|bB c fun s3 k5 c=>A7 J call90 (JO k3 d.1 a0 (d3.own_ro (i:=2) J) _ k5) J ?_
 rintro _ k6 ⟨s4,k7,rfl,cm,f7⟩
 refine ⟨_,rfl,?_⟩
 have k8:=tm f5 cm
 have f8:∀ b ∈ k7,ah.heap.size≤b:=fun b hb=>Az f6 ((f7.get (i:=0) J).2.1 b hb).1
 have f9:=d3.join cm f7 f5.size
 have ga:=d4.ext cm
 have gb:=Az f6 cm.size
 refine Ai<|Ar ga<|A1 14 J<|bB c fun d5 k9 c=>AE (i:=0) (S:=(·<k6.heap.size)) CR underlying26 J J J k8 f9 J (f9.own_ro (i:=1) J) k9 fun d6 cn la co gc d7=>?_
 have gd:=ga.wr' co.1 co.2.1 (fun b hlt hb=>absurd hlt (AM.2 (f8 b hb)))
 have ge:∀ b ∈ cn,ah.heap.size≤b:=fun b hb=>(co.2.2 b hb).elim (f8 b) fun h=>Az gb h
 have lb:=Az gb co.1
 refine Ai<|Ar gd<|A1 15 J<|bB c fun be lc c=>A7 J call89 (KQ la d5 d6 cn (d7.sel [0] J).base0 _ lc) J ?_
 rintro _ d8 ⟨bv,bf,rfl,ld,cp⟩
 refine ⟨_,rfl,?_⟩
 have gf:=d7.takeB [0] J (M:=[Ab At cn d6 d5]) J gc ld cp
 have le:Sp (wE k) d8 [Ab At bf bv be.1,Ab At d2 d1 [(y,z)],Av g 74 [a0,a3,iv d.2.2.1,a4,a5,a6,a7,a8,iv d.2.2.2.2.2.2.2.2],Ab At aa a0 d.1,Ab At ab a3 d.2.1,Ab BN ac a4 d.2.2.2.1,Ab A4 ad a5 d.2.2.2.2.1,Ab Cg ae a6 d.2.2.2.2.2.1,Ab As af a7 d.2.2.2.2.2.2.1,Ab As ag a8 d.2.2.2.2.2.2.2.1,A5 k (AP [A6 B9 74 q g d,Ab As p o n]),Ab As p o n]:=d7.take [0] [1,2,3,4,5,6,7,8,9,10,11] J (M:=[Ab At cn d6 d5]) J cp gc.size
 have lf:∀ b ∈ bf,ah.heap.size≤b:=fun b hb=>(LX cp (i:=0) J b hb).elim ((Cc (ge) Dh) b) fun h=>Az lb h
 have cq:=gd.tk cp (Cc (fun b hb hlt=>absurd hlt (AM.2 (ge b hb))) Dh)
 refine Ai<|Ar cq<|Ad 16 J f cq<|Ba J J J<|Ad 17 J f cq<|Ba J J J<|A1 18 J ?_
 have d9:Sp (wE k) d8 [A6 B9 74 ([aa,ab,ac,ad,ae,af,ag].flatten) g d,Ab At bf bv be.1,Ab At d2 d1 [(y,z)],A5 k (AP [A6 B9 74 q g d,Ab As p o n]),Ab As p o n]:=DT (le.sel [2,3,4,5,6,7,8,9,0,1,10,11] J)
 refine bB c fun ea lg c=>A7 J call88 (HJ d8 d g ([aa,ab,ac,ad,ae,af,ag].flatten) be.1 bv bf be.2 (d9.sel [0,1] J).base0 _ lg) J ?_
 rintro _ lh ⟨gg,rfl,li,eb⟩
 refine ⟨_,rfl,?_⟩
 have lj:=d9.takeB [0,1] J (M:=[A6 B9 74 ([aa,ab,ac,ad,ae,af,ag].flatten) g d,Ab At bf bv be.1]) J gf li eb
 have lk:Sp (wE k) lh [A6 B9 74 gg g ea.2,Ab At d2 d1 [(y,z)],A5 k (AP [A6 B9 74 q g d,Ab As p o n]),Ab As p o n]:=d9.take [0,1] [2,3,4] J (M:=[A6 B9 74 ([aa,ab,ac,ad,ae,af,ag].flatten) g d,Ab At bf bv be.1]) J eb gf.size
 have gh:=cq.tk eb (Cc (Rf (fun b hb hlt=>(fun _ _ h=>Ax _ (Ax _ (Ax _ (Ax _ (Ax _ (Ax _ (Ax _ (h)))))))) b hlt hb) (Bv (fun b hb hlt=>(fun _ _ h=>Ax _ (Ax _ (Ax _ (Ax _ (Ax _ (Ax _ (Bm _ h))))))) b hlt hb) (Bv (fun b hb hlt=>(fun _ _ h=>Ax _ (Ax _ (Ax _ (Ax _ (Ax _ (Bm _ h)))))) b hlt hb) (Bv (fun b hb hlt=>(fun _ _ h=>Ax _ (Ax _ (Ax _ (Ax _ (Bm _ h))))) b hlt hb) (Bv (fun b hb hlt=>(fun _ _ h=>Ax _ (Ax _ (Ax _ (Bm _ h)))) b hlt hb) (Bv (fun b hb hlt=>(fun _ _ h=>Ax _ (Ax _ (Bm _ h))) b hlt hb) (Bv (fun b hb hlt=>(fun _ _ h=>Ax _ (Bm _ h)) b hlt hb) (Bv (fun b hb hlt=>(fun _ _ h=>Bm _ h) b hlt hb) J3)))))))) (Cc (fun b hb hlt=>absurd hlt (AM.2 (lf b hb))) Dh))
 refine Ai<|Ar gh<|Ad 19 J f gh<|AD J J<|Bc ?_
 exact jx (aj (ea.2) (ea.1) gg _ c lj (lk.sel [2,0] J)) J
 refine Al fun _ ll=>?_
 refine AR J J J<|An 1 J<|ll<|A3 J c (fun _ c=>?_)<|fun _ c=>?_
 obtain ⟨lm,bg,s5,bh,s6,bi,s7,bj,s8,bk,s9,bl,ta,bm,ln⟩:=G5 (hS.sel [1,0,2] J)
 refine AQ B1 ((((((([g]++bg)++bh)++bi)++bj)++bk)++bl)++bm) hB ln fun cr _ gi s=>?_
 have ai:=KeepX.refl cr ((((((([g]++bg)++bh)++bi)++bj)++bk)++bl)++bm)
 refine Ay 0 J f ai<|Ay 1 J f ai<|Ad 2 J f ai<|B0 J J<|Ad 3 J f ai<|C7 J4 J<|Ay 5 J f ai<|bB c fun lo lp c=>Ad 6 J f ai<|CK (e:=As) (i:=9) underlying36 J J J s J lp ?_
 rintro tb _ rfl lq tc
 refine Ad 7 J f ai<|BR A9 J (fun w hw=>lq.keepS (fun b m=>(hw.blk b (((s.get (i:=9) J).2.1 b m).2) (fun hb=>(AV.1 hb).elim (fun hb=>(AV.1 hb).elim (fun hb=>(AV.1 hb).elim (fun hb=>(AV.1 hb).elim (fun hb=>(AV.1 hb).elim (fun hb=>(AV.1 hb).elim (fun hb=>(AV.1 hb).elim (s.disj (i:=9) (j:=0) J J J b m) (s.disj (i:=9) (j:=1) J J J b m)) (s.disj (i:=9) (j:=2) J J J b m)) (s.disj (i:=9) (j:=3) J J J b m)) (s.disj (i:=9) (j:=4) J J J b m)) (s.disj (i:=9) (j:=5) J J J b m)) (s.disj (i:=9) (j:=6) J J J b m)) (s.disj (i:=9) (j:=7) J J J b m)))) (fun _ h=>h)) J<|Ay 8 J f ai<|bB c fun cs lr c=>Ad 9 J f ai<|CK (e:=As) (i:=9) underlying36 J J J s J lr ?_
 rintro td _ rfl ls te
 refine Ad 10 J f ai<|BR A9 J (fun w hw=>ls.keepS (fun b m=>(hw.blk b (((s.get (i:=9) J).2.1 b m).2) (fun hb=>(AV.1 hb).elim (fun hb=>(AV.1 hb).elim (fun hb=>(AV.1 hb).elim (fun hb=>(AV.1 hb).elim (fun hb=>(AV.1 hb).elim (fun hb=>(AV.1 hb).elim (fun hb=>(AV.1 hb).elim (s.disj (i:=9) (j:=0) J J J b m) (s.disj (i:=9) (j:=1) J J J b m)) (s.disj (i:=9) (j:=2) J J J b m)) (s.disj (i:=9) (j:=3) J J J b m)) (s.disj (i:=9) (j:=4) J J J b m)) (s.disj (i:=9) (j:=5) J J J b m)) (s.disj (i:=9) (j:=6) J J J b m)) (s.disj (i:=9) (j:=7) J J J b m)))) (fun _ h=>h)) J<|Ay 11 J f ai<|bB c fun ct lt c=>Ad 12 J f ai<|CK (e:=As) (i:=9) underlying36 J J J s J lt ?_
 rintro tf _ rfl lu tg
 refine Ad 13 J f ai<|BR A9 J (fun w hw=>lu.keepS (fun b m=>(hw.blk b (((s.get (i:=9) J).2.1 b m).2) (fun hb=>(AV.1 hb).elim (fun hb=>(AV.1 hb).elim (fun hb=>(AV.1 hb).elim (fun hb=>(AV.1 hb).elim (fun hb=>(AV.1 hb).elim (fun hb=>(AV.1 hb).elim (fun hb=>(AV.1 hb).elim (s.disj (i:=9) (j:=0) J J J b m) (s.disj (i:=9) (j:=1) J J J b m)) (s.disj (i:=9) (j:=2) J J J b m)) (s.disj (i:=9) (j:=3) J J J b m)) (s.disj (i:=9) (j:=4) J J J b m)) (s.disj (i:=9) (j:=5) J J J b m)) (s.disj (i:=9) (j:=6) J J J b m)) (s.disj (i:=9) (j:=7) J J J b m)))) (fun _ h=>h)) J<|Ad 14 J f ai<|IU (zs:=[iv 0,iv 0]) (out:=[iv cs,iv ct]) (vs:=[iv cs,iv ct]) (css:=[[iv cs],[iv ct]]) Bt MQ J J J J J<|A1 4 J<|AU 0 Cs J s J J<|Ai<|Ar ai<|A1 15 J<|bB c fun bw lv c=>A7 J call91 (Rw cr d.1 lm (s.own_ro (i:=1) J) lo (cs,ct) _ lv) J ?_
 rintro _ gj ⟨cu,bx,rfl,ec,gk⟩
 refine ⟨_,rfl,?_⟩
 have gl:=tm gi ec
 have lw:∀ b ∈ bx,cr.heap.size≤b:=fun b hb=>Az (Nat.le_refl cr.heap.size) ((gk.get (i:=0) J).2.1 b hb).1
 have lx:=s.join ec gk gi.size
 have cv:=ai.ext ec
 refine Ai<|Ar cv<|Ad 16 J f cv<|Ba J J J<|Ad 17 J f cv<|Ba J J J<|A1 18 J ?_
 have ed:Sp (wE k) gj [A6 B9 74 ([bg,bh,bi,bj,bk,bl,bm].flatten) g d,Ab At bx cu bw.1,A5 k (AP [A6 B9 74 q g d,Ab As p o n]),Ab As p o n]:=DT (lx.sel [1,2,3,4,5,6,7,8,0,9,10] J)
 refine bB c fun ee ly c=>A7 J call88 (HJ gj d g ([bg,bh,bi,bj,bk,bl,bm].flatten) bw.1 cu bx bw.2 (ed.sel [0,1] J).base0 _ ly) J ?_
 rintro _ lz ⟨gm,rfl,l0,ef⟩
 refine ⟨_,rfl,?_⟩
 have l1:=ed.takeB [0,1] J (M:=[A6 B9 74 ([bg,bh,bi,bj,bk,bl,bm].flatten) g d,Ab At bx cu bw.1]) J gl l0 ef
 have l2:Sp (wE k) lz [A6 B9 74 gm g ee.2,A5 k (AP [A6 B9 74 q g d,Ab As p o n]),Ab As p o n]:=ed.take [0,1] [2,3] J (M:=[A6 B9 74 ([bg,bh,bi,bj,bk,bl,bm].flatten) g d,Ab At bx cu bw.1]) J ef gl.size
 have gn:=cv.tk ef (Cc (Rf (fun b hb hlt=>(fun _ _ h=>Ax _ (Ax _ (Ax _ (Ax _ (Ax _ (Ax _ (Ax _ (h)))))))) b hlt hb) (Bv (fun b hb hlt=>(fun _ _ h=>Ax _ (Ax _ (Ax _ (Ax _ (Ax _ (Ax _ (Bm _ h))))))) b hlt hb) (Bv (fun b hb hlt=>(fun _ _ h=>Ax _ (Ax _ (Ax _ (Ax _ (Ax _ (Bm _ h)))))) b hlt hb) (Bv (fun b hb hlt=>(fun _ _ h=>Ax _ (Ax _ (Ax _ (Ax _ (Bm _ h))))) b hlt hb) (Bv (fun b hb hlt=>(fun _ _ h=>Ax _ (Ax _ (Ax _ (Bm _ h)))) b hlt hb) (Bv (fun b hb hlt=>(fun _ _ h=>Ax _ (Ax _ (Bm _ h))) b hlt hb) (Bv (fun b hb hlt=>(fun _ _ h=>Ax _ (Bm _ h)) b hlt hb) (Bv (fun b hb hlt=>(fun _ _ h=>Bm _ h) b hlt hb) J3)))))))) (Cc (fun b hb hlt=>absurd hlt (AM.2 (lw b hb))) Dh))
 refine Ai<|Ar gn<|Ad 19 J f gn<|AD J J<|Bc ?_
 exact jx (aj (ee.2) (ee.1) gm _ c l1 (l2.sel [1,0] J)) J
 refine Al fun _ l3=>?_
 refine AR J J J<|An 1 J<|l3<|A3 J c (fun _ c=>?_)<|fun _ c=>?_
 refine Aq ?_
 refine wp 2 J<|B4 J J<|Bp J4 J ?_
 obtain ⟨l4,th,ti,tj,tl,tn,to,tp,tq,tr,ts,tt,tu,tv,eg⟩:=G5 (hS.sel [1,0,2] J)
 refine AU 0 Cs J eg J J<|bB c fun bz l5 c=>Ds J call92 hB eg (Td k d.1 l4 (eg.own_ro (i:=1) J) _ l5) J fun cw cx go _ _ gp l6=>wp 2 J ?_
 obtain ⟨eh,ei⟩:∃ F,Sp (wE k) go [A6 B9 74 F g d,Ab At cx cw bz.1,A5 k (AP [A6 B9 74 q g d,Ab As p o n]),Ab As p o n]:=⟨_,DT (l6.sel [1,2,3,4,5,6,7,8,0,9,10] J)⟩
 refine bB c fun ej l7 c=>A7 J call88 (HJ go d g eh bz.1 cw cx bz.2 (ei.sel [0,1] J).base0 _ l7) J ?_
 rintro _ l8 ⟨gq,rfl,l9,gr⟩
 refine ⟨_,rfl,?_⟩
 have ma:=ei.takeB [0,1] J (M:=[A6 B9 74 eh g d,Ab At cx cw bz.1]) J gp l9 gr
 have mb:Sp (wE k) l8 [A6 B9 74 gq g ej.2,A5 k (AP [A6 B9 74 q g d,Ab As p o n]),Ab As p o n]:=ei.take [0,1] [2,3] J (M:=[A6 B9 74 eh g d,Ab At cx cw bz.1]) J gr gp.size
 refine An 1 J ?_
 exact jx (aj (ej.2) (ej.1) gq _ c ma (mb.sel [1,0] J)) J
 refine Al fun _ mc=>?_
 refine AR J J J<|An 1 J<|mc<|A3 J c (fun _ c=>?_)<|fun _ c=>?_
 refine Aq ?_
 refine wp 2 J<|B4 J J<|Bp J4 J ?_
 obtain ⟨gs,tw,md,me,mf,tx,mg,ty,mh,tz,mi,t0,mj,t1,ek⟩:=G5 (hS.sel [1,0,2] J)
 refine AU 0 Cs J ek J J<|bB c fun gt mk c=>Ds J call90 hB ek (JO k d.1 gs (ek.own_ro (i:=1) J) _ mk) J fun gu t2 t3 _ _ ml el=>B4 J J<|Bp W2 J<|BG (i:=1) (vs:=[gu]) (cs':=[gs,gu,iv d.2.2.1,mf,mg,mh,mi,mj,iv d.2.2.2.2.2.2.2.2]) Cs J J (Ch (el.own_ro (i:=0) J).one) J ml el J J ⟨(el.own_ro (i:=0) J).one,trivial⟩ J fun mm _ mn mo=>Ai ?_
 obtain ⟨mp,mq⟩:∃ F,Sp (wE k) mm [A6 B9 74 F g (d.1,gt,d.2.2.1,d.2.2.2.1,d.2.2.2.2.1,d.2.2.2.2.2.1,d.2.2.2.2.2.2.1,d.2.2.2.2.2.2.2.1,d.2.2.2.2.2.2.2.2),Ab At me md d.2.1,A5 k (AP [A6 B9 74 q g d,Ab As p o n]),Ab As p o n]:=⟨_,DT (mo.sel [1,2,0,4,5,6,7,8,3,9,10] J)⟩
 exact jx (aj ((d.1,gt,d.2.2.1,d.2.2.2.1,d.2.2.2.2.1,d.2.2.2.2.2.1,d.2.2.2.2.2.2.1,d.2.2.2.2.2.2.2.1,d.2.2.2.2.2.2.2.2)) true mp _ c mn (mq.sel [2,0] J)) J
 refine Al fun _ mr=>?_
 refine AR J J J<|An 1 J<|mr<|A3 J c (fun _ c=>?_)<|fun _ c=>?_
 refine Al fun _ ms=>?_
 refine wp 1 J<|bB c fun mt mu c=>I3 (e:=As) (i:=2) underlying36 J J J hS J mu ?_
 rintro t4 _ rfl b1 t5
 refine BZ A9 J b1 J<|bB c fun gv mv c=>Bn J call77 hB hS (Cr k mt 1 64 _ mv) J fun t6 mw gw em=>?_
 have b1:=b1.keepS (fun b hb=>mw.block b (((hS.get (i:=2) J).2.1 b hb).2)) (fun _ h=>h)
 refine An 1 J<|ms<|Am 1 J<|A3 J c (fun _ c=>?_)<|fun _ c=>?_
 refine Aq ?_
 refine wp 2 J<|bB c fun gx mx c=>I3 (e:=As) (i:=2) underlying36 J J J em J mx ?_
 rintro t7 _ rfl en t8
 refine BZ A9 J en J<|B4 J J<|Bp W1 J ?_
 obtain ⟨t9,ua,ub,uc,ud,ue,uf,ug,uh,ui,uj,uk,ul,um,b2⟩:=G5 (em.sel [1,0,2] J)
 refine GC 0 A9 J J gw b2 J J J fun my gy mz m0=>?_
 have b1:=b1.keepS (fun b hb=>gy.2.1 b (((b2.get (i:=9) J).2.1 b hb).2) (b2.disj (i:=9) (j:=0) J J J b hb)) (fun _ h=>h)
 have en:=en.keepS (fun b hb=>gy.2.1 b (((b2.get (i:=9) J).2.1 b hb).2) (b2.disj (i:=9) (j:=0) J J J b hb)) (fun _ h=>h)
 refine Ai ?_
 obtain ⟨m1,m2⟩:∃ F,Sp (wE k) my [A6 B9 74 F g (d.1,d.2.1,gx,d.2.2.2.1,d.2.2.2.2.1,d.2.2.2.2.2.1,d.2.2.2.2.2.2.1,d.2.2.2.2.2.2.2.1,d.2.2.2.2.2.2.2.2),A5 k (AP [A6 B9 74 q g d,Ab As p o n]),Ab As p o n]:=⟨_,DT (m0.sel [0,1,2,3,4,5,6,7,8,9] J)⟩
 exact jx (aj ((d.1,d.2.1,gx,d.2.2.2.1,d.2.2.2.2.1,d.2.2.2.2.2.1,d.2.2.2.2.2.2.1,d.2.2.2.2.2.2.2.1,d.2.2.2.2.2.2.2.2)) gv m1 _ c mz (m2.sel [1,0] J)) J
 refine Au ?_
 exact jx (aj d gv q _ c gw (em.sel [0,1] J)) J
 refine Al fun _ m3=>?_
 refine AR J J J<|An 1 J<|m3<|A3 J c (fun _ c=>?_)<|fun _ c=>?_
 refine Ao fun m4 m5=>?_
 obtain ⟨m6,m7,c⟩:=Np c
 have eo:∀(u:Akg×Akg×Int×Akg×Akh×Akj×(List Int)×(List Int)×Int)(bn:Akg)(ep:Ap)(bo:Ac)(gz:Ap)(b3:Af)(_:m6 u bn=some r)(_:Bl (wE k) b3)(_:Sp (wE k) b3 [A5 k (AP [A6 B9 74 q g d,Ab As p o n]),A6 B9 74 ep g u,Ab BN gz bo bn]),∀ a,St 174 [(0,.pointer (some ⟨g,0,none⟩)),(8,bo)] a→m4 a b3:=by
  intro u bn ep bo gz b3 c m8 g0
  subst m7
  refine m5<|Al fun _ m9=>wp 1 J<|bB c fun g1 na c=>Bn J call93 m8 g0 (Sf b3 bn bo (g0.own_ro (i:=2) J) _ na) J fun un _ g2 g3=>An 1 J<|m9<|Am 1 J<|A3 J c (fun _ c=>?_)<|fun _ c=>?_
  refine Aq ?_
  refine wp 2 J<|B4 J J<|Bp TD J ?_
  obtain ⟨nb,uo,nc,up,nd,ne,nf,uq,ng,ur,nh,us,ni,ut,eq⟩:=G5 (g3.sel [1,0,2] J)
  refine BG (i:=0) (vs:=[bo]) (cs':=[nb,nc,iv u.2.2.1,bo,nf,ng,nh,ni,iv u.2.2.2.2.2.2.2.2]) Qi J J (Ch (eq.own_ro (i:=9) J).one) J g2 eq J J ⟨(eq.own_ro (i:=9) J).one,trivial⟩ J fun nj _ nk nl=>Ai ?_
  obtain ⟨nm,nn⟩:∃ F,Sp (wE k) nj [A6 B9 74 F g (u.1,u.2.1,u.2.2.1,bn,u.2.2.2.2.1,u.2.2.2.2.2.1,u.2.2.2.2.2.2.1,u.2.2.2.2.2.2.2.1,u.2.2.2.2.2.2.2.2),Ab BN ne nd u.2.2.2.1,A5 k (AP [A6 B9 74 q g d,Ab As p o n])]:=⟨_,DT (nl.sel [0,1,2,9,4,5,6,7,3,8] J)⟩
  exact jx (aj ((u.1,u.2.1,u.2.2.1,bn,u.2.2.2.2.1,u.2.2.2.2.2.1,u.2.2.2.2.2.2.1,u.2.2.2.2.2.2.2.1,u.2.2.2.2.2.2.2.2)) g1 nm _ c nk (nn.sel [2,0] J)) J
  refine Au ?_
  exact jx (aj u g1 ep _ c g2 (g3.sel [0,1] J)) J
 obtain ⟨uu,uv,uw,ux,uy,uz,u0,u1,u2,u3,u4,u5,u6,u7,no⟩:=G5 (hS.sel [1,0,2] J)
 refine AQ B1 [] hB no fun aw _ cy a2=>?_
 have am:=KeepX.refl aw []
 refine Ay 1 J f am<|Ad 2 J f am<|B0 J J<|Ad 3 J f am<|C7 TD J<|Ad 4 J f am<|CN 0 Qi J a2 J (by simp)<|Ay 6 J f am<|bB c fun an np c=>Ad 7 J f am<|CK (e:=As) (i:=9) underlying36 J J J a2 J np ?_
 rintro u8 _ rfl nq u9
 refine Ad 8 J f am<|BR A9 J (fun w hw=>nq.keepS (fun b m=>(hw.blk b (((a2.get (i:=9) J).2.1 b m).2) (by simp))) (fun _ h=>h)) J<|Ay 9 J f am<|bB c fun ao nr c=>Ad 10 J f am<|CK (e:=As) (i:=9) underlying36 J J J a2 J nr ?_
 rintro va _ rfl ns vb
 refine Ad 11 J f am<|BR A9 J (fun w hw=>ns.keepS (fun b m=>(hw.blk b (((a2.get (i:=9) J).2.1 b m).2) (by simp))) (fun _ h=>h)) J<|Ad 12 J f am<|IU (zs:=[iv 0,iv 0]) (out:=[iv an,iv ao]) (vs:=[iv an,iv ao]) (css:=[[iv an],[iv ao]]) Hb XX J J J J J<|CA (is:=[0,13]) (by kernel_rfl) J<|Bj.2 ⟨⟨_,rfl,?_⟩,Bj.2 ⟨⟨_,rfl,?_⟩,fun _ h=>by cases h⟩⟩
 refine AZ (vs:=[]) (l:=[]) Hz underlying31 J J J J J J (Bk aw) (Sep.nil _ _) fun vc nt g4 cz _ g5=>?_
 have er:=tm cy cz
 have es:=a2.join cz g5 cy.size
 have c0:∀ b ∈ nt,aw.heap.size≤b:=fun b hb=>Az (Nat.le_refl aw.heap.size) ((g5.1 _ (List.mem_cons_self ..)).2.1 b hb).1
 have et:=am.ext cz
 have g6:=Az (Nat.le_refl aw.heap.size) cz.size
 refine Ai<|Ar et<|CA (is:=[5,13]) (by kernel_rfl) J<|Bj.2 ⟨⟨_,rfl,?_⟩,Bj.2 ⟨⟨_,rfl,?_⟩,fun _ h=>by cases h⟩⟩
 refine bB c fun vd nu c=>?_
 refine AE (i:=0) (S:=(·<g4.heap.size)) Hz underlying31 J J J er es J (es.own_ro (i:=4) J) nu fun ve nv nw eu g7 nx=>?_
 have g8:=et.wr' eu.1 eu.2.1 (fun b hlt hb=>absurd hlt (AM.2 (c0 b hb)))
 have ny:∀ b ∈ nv,aw.heap.size≤b:=fun b hb=>(eu.2.2 b hb).elim (c0 b) fun h=>Az g6 h
 refine Ai<|Ar g8<|A1 13 J<|AZ (vs:=[.agg #[iv an,iv ao]]) (l:=[(an,ao)]) Hz underlying31 J J J J J J (Bk nw) (Sep.nil _ _) fun nz n0 n1 ev _ n2=>?_
 have n3:=tm g7 ev
 have g9:=nx.join ev n2 g7.size
 have ha:=g8.ext ev
 refine Ai<|Ar ha<|A1 14 J<|bB c fun hc n4 c=>AE (i:=1) (S:=(·<n1.heap.size)) Hz underlying31 J J J n3 g9 J (g9.own_ro (i:=0) J) n4 fun hd he n5 hf n6 n7=>?_
 have hg:=ha.wr' hf.1 hf.2.1 (fun b hlt hb=>absurd hlt (AM.2 (ny b hb)))
 refine Ai<|Ar hg<|Ad 15 J f hg<|AD J J<|Bc ?_
 obtain ⟨n8,n9⟩:∃ F,Sp (wE k) n5 [A6 B9 74 F g d,Ab BN n0 nz [(an,ao)],Ab BN he hd hc,A5 k (AP [A6 B9 74 q g d,Ab As p o n]),Ab As p o n]:=⟨_,DT (n7.sel [2,3,4,5,6,7,8,9,0,1,10,11] J)⟩
 exact jx (eo d hc n8 hd he _ c n6 (n9.sel [3,0,2] J)) J
 refine AZ (vs:=[.agg #[iv an,iv ao]]) (l:=[(an,ao)]) Hz underlying31 J J J J J J (Bk g4) (Sep.nil _ _) fun oa ob oc c1 _ od=>?_
 have oe:=tm er c1
 have hh:=es.join c1 od er.size
 have hi:=et.ext c1
 have og:=Az g6 c1.size
 refine Ai<|Ar hi<|A1 5 J<|bB c fun vf oh c=>AE (i:=1) (S:=(·<oc.heap.size)) Hz underlying31 J J J oe hh J (hh.own_ro (i:=5) J) oh fun vg oi oj ew ok hj=>?_
 have hk:=hi.wr' ew.1 ew.2.1 (fun b hlt hb=>absurd hlt (AM.2 (c0 b hb)))
 have ol:∀ b ∈ oi,aw.heap.size≤b:=fun b hb=>(ew.2.2 b hb).elim (c0 b) fun h=>Az og h
 refine Ai<|Ar hk<|A1 14 J<|bB c fun hl om c=>AE (i:=1) (S:=(·<oj.heap.size)) Hz underlying31 J J J ok hj J (hj.own_ro (i:=0) J) om fun hm hn on ho oo op=>?_
 have hp:=hk.wr' ho.1 ho.2.1 (fun b hlt hb=>absurd hlt (AM.2 (ol b hb)))
 refine Ai<|Ar hp<|Ad 15 J f hp<|AD J J<|Bc ?_
 obtain ⟨oq,os⟩:∃ F,Sp (wE k) on [A6 B9 74 F g d,Ab BN ob oa [(an,ao)],Ab BN hn hm hl,A5 k (AP [A6 B9 74 q g d,Ab As p o n]),Ab As p o n]:=⟨_,DT (op.sel [2,3,4,5,6,7,8,9,0,1,10,11] J)⟩
 exact jx (eo d hl oq hm hn _ c oo (os.sel [3,0,2] J)) J
 refine AZ (vs:=[.agg #[iv an,iv ao]]) (l:=[(an,ao)]) Hz underlying31 J J J J J J (Bk aw) (Sep.nil _ _) fun ot ou ov c2 _ ow=>?_
 have hq:=tm cy c2
 have ox:=a2.join c2 ow cy.size
 have hr:=am.ext c2
 have hs:=Az (Nat.le_refl aw.heap.size) c2.size
 refine Ai<|Ar hr<|A1 0 J<|AZ (vs:=[]) (l:=[]) Hz underlying31 J J J J J J (Bk ov) (Sep.nil _ _) fun vh oy oz c3 _ ht=>?_
 have o0:=tm hq c3
 have hu:=ox.join c3 ht hq.size
 have hv:∀ b ∈ oy,aw.heap.size≤b:=fun b hb=>Az hs ((ht.1 _ (List.mem_cons_self ..)).2.1 b hb).1
 have hx:=hr.ext c3
 have o1:=Az hs c3.size
 refine Ai<|Ar hx<|A1 5 J<|bB c fun vi o2 c=>AE (i:=0) (S:=(·<oz.heap.size)) Hz underlying31 J J J o0 hu J (hu.own_ro (i:=5) J) o2 fun vj o3 o4 ex o5 hy=>?_
 have hz:=hx.wr' ex.1 ex.2.1 (fun b hlt hb=>absurd hlt (AM.2 (hv b hb)))
 have o6:∀ b ∈ o3,aw.heap.size≤b:=fun b hb=>(ex.2.2 b hb).elim (hv b) fun h=>Az o1 h
 refine Ai<|Ar hz<|A1 14 J<|bB c fun h1 o7 c=>AE (i:=0) (S:=(·<o4.heap.size)) Hz underlying31 J J J o5 hy J (hy.own_ro (i:=1) J) o7 fun h2 h3 o8 h4 o9 pa=>?_
 have h5:=hz.wr' h4.1 h4.2.1 (fun b hlt hb=>absurd hlt (AM.2 (o6 b hb)))
 refine Ai<|Ar h5<|Ad 15 J f h5<|AD J J<|Bc ?_
 obtain ⟨pb,pc⟩:∃ F,Sp (wE k) o8 [A6 B9 74 F g d,Ab BN h3 h2 h1,Ab BN ou ot [(an,ao)],A5 k (AP [A6 B9 74 q g d,Ab As p o n]),Ab As p o n]:=⟨_,DT (pa.sel [2,3,4,5,6,7,8,9,0,1,10,11] J)⟩
 exact jx (eo d h1 pb h2 h3 _ c o9 (pc.sel [3,0,1] J)) J
 refine Al fun _ pd=>?_
 refine AR J J J<|An 1 J<|pd<|A3 J c (fun _ c=>?_)<|fun _ c=>?_
 refine Ao fun pe pf=>?_
 obtain ⟨pg,ph,c⟩:=jE3 c
 have ey:∀(v:Akg×Akg×Int×Akg×Akh×Akj×(List Int)×(List Int)×Int)(b4:Akh)(b5:Bool)(ez:Ap)(b6:Ac)(h6:Ap)(c4:Af)(_:pg v b4 b5=some r)(_:Bl (wE k) c4)(_:Sp (wE k) c4 [A5 k (AP [A6 B9 74 q g d,Ab As p o n]),A6 B9 74 ez g v,Ab A4 h6 b6 b4]),∀ a,St 174 [(0,.pointer (some ⟨g,0,none⟩)),(9,b6),(10,.bool b5)] a→pe a c4:=by
  intro v b4 b5 ez b6 h6 c4 c h7 h8
  subst ph
  refine pf<|Am 2 J<|Am 1 J<|A3 J c (fun _ c=>?_)<|fun _ c=>?_
  refine Aq ?_
  refine wp 2 J<|B4 J J<|Bp W0 J ?_
  obtain ⟨pi,vk,pj,vl,pk,vm,pl,pm,pn,vn,po,vo,pp,vp,e0⟩:=G5 (h8.sel [1,0,2] J)
  refine BG (i:=0) (vs:=[b6]) (cs':=[pi,pj,iv v.2.2.1,pk,b6,pn,po,pp,iv v.2.2.2.2.2.2.2.2]) Tx J J (Ch (e0.own_ro (i:=9) J).one) J h7 e0 J J ⟨(e0.own_ro (i:=9) J).one,trivial⟩ J fun pq _ pr ps=>Ai ?_
  obtain ⟨pt,pu⟩:∃ F,Sp (wE k) pq [A6 B9 74 F g (v.1,v.2.1,v.2.2.1,v.2.2.2.1,b4,v.2.2.2.2.2.1,v.2.2.2.2.2.2.1,v.2.2.2.2.2.2.2.1,v.2.2.2.2.2.2.2.2),Ab A4 pm pl v.2.2.2.2.1,A5 k (AP [A6 B9 74 q g d,Ab As p o n])]:=⟨_,DT (ps.sel [0,1,2,3,9,5,6,7,4,8] J)⟩
  exact jx (aj ((v.1,v.2.1,v.2.2.1,v.2.2.2.1,b4,v.2.2.2.2.2.1,v.2.2.2.2.2.2.1,v.2.2.2.2.2.2.2.1,v.2.2.2.2.2.2.2.2)) b5 pt _ c pr (pu.sel [2,0] J)) J
  refine Au ?_
  exact jx (aj v b5 ez _ c h7 (h8.sel [0,1] J)) J
 obtain ⟨vq,vr,vt,vu,vv,vw,vx,vy,vz,v0,v1,v2,v3,v4,pv⟩:=G5 (hS.sel [1,0,2] J)
 refine AQ B1 [] hB pv fun ax _ c5 ay=>?_
 have x:=KeepX.refl ax []
 refine Ay 1 J f x<|Ad 2 J f x<|B0 J J<|Ad 3 J f x<|C7 W0 J<|Ad 4 J f x<|CN 0 Tx J ay J (by simp)<|Ay 6 J f x<|bB c fun ap pw c=>Ad 7 J f x<|CK (e:=As) (i:=9) underlying36 J J J ay J pw ?_
 rintro v5 _ rfl px v6
 refine Ad 8 J f x<|BR A9 J (fun w hw=>px.keepS (fun b m=>(hw.blk b (((ay.get (i:=9) J).2.1 b m).2) (by simp))) (fun _ h=>h)) J<|Ay 9 J f x<|bB c fun aq py c=>Ad 10 J f x<|CK (e:=As) (i:=9) underlying36 J J J ay J py ?_
 rintro v7 _ rfl pz v8
 refine Ad 11 J f x<|BR A9 J (fun w hw=>pz.keepS (fun b m=>(hw.blk b (((ay.get (i:=9) J).2.1 b m).2) (by simp))) (fun _ h=>h)) J<|Ay 12 J f x<|bB c fun ar p0 c=>Ad 13 J f x<|CK (e:=As) (i:=9) underlying36 J J J ay J p0 ?_
 rintro v9 _ rfl p1 wa
 refine Ad 14 J f x<|BR A9 J (fun w hw=>p1.keepS (fun b m=>(hw.blk b (((ay.get (i:=9) J).2.1 b m).2) (by simp))) (fun _ h=>h)) J<|Ay 15 J f x<|bB c fun au p2 c=>Ad 16 J f x<|CK (e:=As) (i:=9) underlying36 J J J ay J p2 ?_
 rintro wb _ rfl p3 wc
 refine Ad 17 J f x<|BR A9 J (fun w hw=>p3.keepS (fun b m=>(hw.blk b (((ay.get (i:=9) J).2.1 b m).2) (by simp))) (fun _ h=>h)) J<|Ad 18 J f x<|IU (zs:=[iv 0,iv 0,iv 0,iv 0]) (out:=[iv ap,iv aq,iv ar,iv au]) (vs:=[iv ap,iv aq,iv ar,iv au]) (css:=[[iv ap],[iv aq],[iv ar],[iv au]]) BJ Ac3 J J J J J<|CA (is:=[0,19]) (by kernel_rfl) J<|Bj.2 ⟨⟨_,rfl,?_⟩,Bj.2 ⟨⟨_,rfl,?_⟩,fun _ h=>by cases h⟩⟩
 refine AZ (vs:=[]) (l:=[]) C2 underlying72 J J J J J J (Bk ax) (Sep.nil _ _) fun wd p4 h9 c6 _ ia=>?_
 have e1:=tm c5 c6
 have e2:=ay.join c6 ia c5.size
 have c7:∀ b ∈ p4,ax.heap.size≤b:=fun b hb=>Az (Nat.le_refl ax.heap.size) ((ia.1 _ (List.mem_cons_self ..)).2.1 b hb).1
 have e3:=x.ext c6
 have ib:=Az (Nat.le_refl ax.heap.size) c6.size
 refine Ai<|Ar e3<|CA (is:=[5,19]) (by kernel_rfl) J<|Bj.2 ⟨⟨_,rfl,?_⟩,Bj.2 ⟨⟨_,rfl,?_⟩,fun _ h=>by cases h⟩⟩
 refine bB c fun we p5 c=>?_
 refine AE (i:=0) (S:=(·<h9.heap.size)) C2 underlying72 J J J e1 e2 J (e2.own_ro (i:=5) J) p5 fun wf p6 p7 e4 ic p8=>?_
 have ie:=e3.wr' e4.1 e4.2.1 (fun b hlt hb=>absurd hlt (AM.2 (c7 b hb)))
 have p9:∀ b ∈ p6,ax.heap.size≤b:=fun b hb=>(e4.2.2 b hb).elim (c7 b) fun h=>Az ib h
 refine Ai<|Ar ie<|A1 19 J<|AZ (vs:=[.agg #[iv ap,iv aq,iv ar,iv au]]) (l:=[(ap,aq,ar,au)]) C2 underlying72 J J J J J J (Bk p7) (Sep.nil _ _) fun qa qb qc e5 _ qd=>?_
 have qe:=tm ic e5
 have ig:=p8.join e5 qd ic.size
 have ih:=ie.ext e5
 refine Ai<|Ar ih<|A1 20 J<|bB c fun ii qf c=>AE (i:=1) (S:=(·<qc.heap.size)) C2 underlying72 J J J qe ig J (ig.own_ro (i:=0) J) qf fun ij qg qh ik qi il=>?_
 have im:=ih.wr' ik.1 ik.2.1 (fun b hlt hb=>absurd hlt (AM.2 (p9 b hb)))
 refine Ai<|Ar im<|A1 21 J<|bB c fun e6 qj c=>Ds J call94 qi il (OM qh ii ij (il.own_ro (i:=1) J) _ qj) J fun io ip qk ql _ qm qn=>?_
 have bp:=im.ext ql
 refine Ai<|Ar bp<|Ay 22 J f bp<|Ad 23 J f bp<|Ba J J J<|Ad 24 J f bp<|Ba J J J<|Ad 25 J f bp<|AD J J<|Ad 26 J f bp<|AD J J<|Bc ?_
 obtain ⟨qo,qp⟩:∃ F,Sp (wE k) qk [A6 B9 74 F g d,Ab A4 ip io e6.1,Ab A4 qb qa [(ap,aq,ar,au)],Ab A4 qg ij ii,A5 k (AP [A6 B9 74 q g d,Ab As p o n]),Ab As p o n]:=⟨_,DT (qn.sel [3,4,5,6,7,8,9,10,0,1,2,11,12] J)⟩
 exact jx (ey d (e6.1) (e6.2) qo io ip _ c qm (qp.sel [4,0,1] J)) J
 refine AZ (vs:=[.agg #[iv ap,iv aq,iv ar,iv au]]) (l:=[(ap,aq,ar,au)]) C2 underlying72 J J J J J J (Bk h9) (Sep.nil _ _) fun qq qr qs c8 _ qt=>?_
 have qu:=tm e1 c8
 have iq:=e2.join c8 qt e1.size
 have ir:=e3.ext c8
 have qv:=Az ib c8.size
 refine Ai<|Ar ir<|A1 5 J<|bB c fun wg qw c=>AE (i:=1) (S:=(·<qs.heap.size)) C2 underlying72 J J J qu iq J (iq.own_ro (i:=6) J) qw fun wh qx qy e7 qz it=>?_
 have iu:=ir.wr' e7.1 e7.2.1 (fun b hlt hb=>absurd hlt (AM.2 (c7 b hb)))
 have q0:∀ b ∈ qx,ax.heap.size≤b:=fun b hb=>(e7.2.2 b hb).elim (c7 b) fun h=>Az qv h
 refine Ai<|Ar iu<|A1 20 J<|bB c fun iw q1 c=>AE (i:=1) (S:=(·<qy.heap.size)) C2 underlying72 J J J qz it J (it.own_ro (i:=0) J) q1 fun ix q2 q3 iy q4 iz=>?_
 have i0:=iu.wr' iy.1 iy.2.1 (fun b hlt hb=>absurd hlt (AM.2 (q0 b hb)))
 refine Ai<|Ar i0<|A1 21 J<|bB c fun e8 q5 c=>Ds J call94 q4 iz (OM q3 iw ix (iz.own_ro (i:=1) J) _ q5) J fun i1 i2 q6 q7 _ q8 q9=>?_
 have bq:=i0.ext q7
 refine Ai<|Ar bq<|Ay 22 J f bq<|Ad 23 J f bq<|Ba J J J<|Ad 24 J f bq<|Ba J J J<|Ad 25 J f bq<|AD J J<|Ad 26 J f bq<|AD J J<|Bc ?_
 obtain ⟨ra,rb⟩:∃ F,Sp (wE k) q6 [A6 B9 74 F g d,Ab A4 i2 i1 e8.1,Ab A4 qr qq [(ap,aq,ar,au)],Ab A4 q2 ix iw,A5 k (AP [A6 B9 74 q g d,Ab As p o n]),Ab As p o n]:=⟨_,DT (q9.sel [3,4,5,6,7,8,9,10,0,1,2,11,12] J)⟩
 exact jx (ey d (e8.1) (e8.2) ra i1 i2 _ c q8 (rb.sel [4,0,1] J)) J
 refine AZ (vs:=[.agg #[iv ap,iv aq,iv ar,iv au]]) (l:=[(ap,aq,ar,au)]) C2 underlying72 J J J J J J (Bk ax) (Sep.nil _ _) fun rc rd re c9 _ rf=>?_
 have i3:=tm c5 c9
 have rg:=ay.join c9 rf c5.size
 have i4:=x.ext c9
 have i5:=Az (Nat.le_refl ax.heap.size) c9.size
 refine Ai<|Ar i4<|A1 0 J<|AZ (vs:=[]) (l:=[]) C2 underlying72 J J J J J J (Bk re) (Sep.nil _ _) fun wi rh ri da _ i6=>?_
 have rj:=tm i3 da
 have i7:=rg.join da i6 i3.size
 have i8:∀ b ∈ rh,ax.heap.size≤b:=fun b hb=>Az i5 ((i6.1 _ (List.mem_cons_self ..)).2.1 b hb).1
 have i9:=i4.ext da
 have rk:=Az i5 da.size
 refine Ai<|Ar i9<|A1 5 J<|bB c fun wj rl c=>AE (i:=0) (S:=(·<ri.heap.size)) C2 underlying72 J J J rj i7 J (i7.own_ro (i:=6) J) rl fun wk rm rn e9 ro ja=>?_
 have jb:=i9.wr' e9.1 e9.2.1 (fun b hlt hb=>absurd hlt (AM.2 (i8 b hb)))
 have rp:∀ b ∈ rm,ax.heap.size≤b:=fun b hb=>(e9.2.2 b hb).elim (i8 b) fun h=>Az rk h
 refine Ai<|Ar jb<|A1 20 J<|bB c fun jc rq c=>AE (i:=0) (S:=(·<rn.heap.size)) C2 underlying72 J J J ro ja J (ja.own_ro (i:=1) J) rq fun jd rr rs je ru jf=>?_
 have jg:=jb.wr' je.1 je.2.1 (fun b hlt hb=>absurd hlt (AM.2 (rp b hb)))
 refine Ai<|Ar jg<|A1 21 J<|bB c fun fa rv c=>Ds J call94 ru jf (OM rs jc jd (jf.own_ro (i:=0) J) _ rv) J fun jh ji rx ry _ rz r0=>?_
 have br:=jg.ext ry
 refine Ai<|Ar br<|Ay 22 J f br<|Ad 23 J f br<|Ba J J J<|Ad 24 J f br<|Ba J J J<|Ad 25 J f br<|AD J J<|Ad 26 J f br<|AD J J<|Bc ?_
 obtain ⟨r1,r2⟩:∃ F,Sp (wE k) rx [A6 B9 74 F g d,Ab A4 ji jh fa.1,Ab A4 rr jd jc,Ab A4 rd rc [(ap,aq,ar,au)],A5 k (AP [A6 B9 74 q g d,Ab As p o n]),Ab As p o n]:=⟨_,DT (r0.sel [3,4,5,6,7,8,9,10,0,1,2,11,12] J)⟩
 exact jx (ey d (fa.1) (fa.2) r1 jh ji _ c rz (r2.sel [4,0,1] J)) J
 refine Al fun _ r3=>?_
 refine AR J J J<|An 1 J<|r3<|A3 J c (fun _ c=>?_)<|fun _ c=>?_
 refine Ao fun _ r4=>?_
 obtain ⟨r5,wl,r6,wm,r7,wn,r8,wo,jj,r9,sa,wq,sb,wr,sc⟩:=G5 (hS.sel [1,0,2] J)
 refine AQ B1 [] hB sc fun jk _ sd a1=>?_
 have al:=KeepX.refl jk []
 refine Ay 0 J f al<|Ad 1 J f al<|B0 J J<|Ad 2 J f al<|C7 TC J<|Ad 3 J f al<|CN 0 Qh J a1 J (by simp)<|Ay 4 J f al<|bB c fun db se c=>Ad 5 J f al<|CK (e:=As) (i:=9) underlying36 J J J a1 J se ?_
 rintro ws _ rfl sf wt
 refine Ad 6 J f al<|BR A9 J (fun w hw=>sf.keepS (fun b m=>(hw.blk b (((a1.get (i:=9) J).2.1 b m).2) (by simp))) (fun _ h=>h)) J<|Ay 7 J f al<|bB c fun dc sg c=>Ad 8 J f al<|CK (e:=As) (i:=9) underlying36 J J J a1 J sg ?_
 rintro wu _ rfl sh wv
 refine Ad 9 J f al<|BR A9 J (fun w hw=>sh.keepS (fun b m=>(hw.blk b (((a1.get (i:=9) J).2.1 b m).2) (by simp))) (fun _ h=>h)) J<|Ay 10 J f al<|bB c fun dd si c=>Ad 11 J f al<|CK (e:=As) (i:=9) underlying36 J J J a1 J si ?_
 rintro ww _ rfl sj wx
 refine Ad 12 J f al<|BR A9 J (fun w hw=>sj.keepS (fun b m=>(hw.blk b (((a1.get (i:=9) J).2.1 b m).2) (by simp))) (fun _ h=>h)) J<|Ad 13 J f al<|IU (zs:=[iv 0,iv 0,iv 0]) (out:=[iv db,iv dc,iv dd]) (vs:=[iv db,iv dc,iv dd]) (css:=[[iv db],[iv dc],[iv dd]]) LR XW J J J J J<|A1 14 J<|bB c fun b7 sk c=>Ds J call95 sd a1 (TO jk d.2.2.2.2.2.1 jj (a1.own_ro (i:=5) J) (db,dc,dd) _ sk) J fun fb sl sm sn _ jl de=>?_
 have bs:=al.ext sn
 refine Ai<|Ar bs<|Ay 15 J f bs<|Ad 16 J f bs<|Ba J J J<|Ad 17 J f bs<|Ba J J J<|Ad 18 J f bs<|AD J J<|Ad 19 J f bs<|AD J J<|Bc<|r4<|Am 2 J<|Am 1 J<|A3 J c (fun _ c=>?_)<|fun _ c=>?_
 refine Aq ?_
 refine wp 2 J<|B4 J J<|Bp TC J<|BG (i:=1) (vs:=[fb]) (cs':=[r5,r6,iv d.2.2.1,r7,r8,fb,sa,sb,iv d.2.2.2.2.2.2.2.2]) Qh J J (Ch (de.own_ro (i:=0) J).one) J jl de J J ⟨(de.own_ro (i:=0) J).one,trivial⟩ J fun so _ sp sq=>Ai ?_
 obtain ⟨sr,ss⟩:∃ F,Sp (wE k) so [A6 B9 74 F g (d.1,d.2.1,d.2.2.1,d.2.2.2.1,d.2.2.2.2.1,b7.1,d.2.2.2.2.2.2.1,d.2.2.2.2.2.2.2.1,d.2.2.2.2.2.2.2.2),Ab Cg r9 jj d.2.2.2.2.2.1,A5 k (AP [A6 B9 74 q g d,Ab As p o n]),Ab As p o n]:=⟨_,DT (sq.sel [1,2,3,4,5,0,7,8,6,9,10] J)⟩
 exact jx (aj ((d.1,d.2.1,d.2.2.1,d.2.2.2.1,d.2.2.2.2.1,b7.1,d.2.2.2.2.2.2.1,d.2.2.2.2.2.2.2.1,d.2.2.2.2.2.2.2.2)) (b7.2) sr _ c sp (ss.sel [2,0] J)) J
 refine Au ?_
 obtain ⟨st,su⟩:∃ F,Sp (wE k) sm [A6 B9 74 F g d,Ab Cg sl fb b7.1,A5 k (AP [A6 B9 74 q g d,Ab As p o n]),Ab As p o n]:=⟨_,DT (de.sel [1,2,3,4,5,6,7,8,0,9,10] J)⟩
 exact jx (aj d (b7.2) st _ c jl (su.sel [2,0] J)) J
 refine Au ?_
 exact jx (aj d true q _ c hB (hS.sel [0,1] J)) J
theorem XN(b:Af)(c:Bool)(r:List Ag)(a:Kg c=some r) :
  A2 78 [.bool c] b fun e w'=>e=.returned (.string (AL r))∧Bl b w':=by
 refine cm func78 ntmps78 J fun Q d h f _=>?_
 unfold Kg at a
 refine Am 1 J<|Ao fun _ g=>Am 2 J<|A3 J a (fun _ a=>?_)<|fun _ a=>?_
 refine Am 1 J ?_
 refine Aw<|rt d J J<|by cases a; exact ⟨rfl,f⟩
 refine Au<|g ?_
 refine Am 1 J<|Aw<|rt d J J<|by cases a; exact ⟨rfl,f⟩
theorem Sg(f:Af)(g:Akg)(j:Ac)(o:RO At f j g)(h:Akg)(k:Ac)(p:RO At f k h)(r:Bool)(b:Kh g h=some r) :
  A2 192 [j,k] f fun e w'=>e=.returned (.bool r)∧Bl f w':=by
 refine cm func192 ntmps192 J fun Q v hP q w=>?_
 unfold Kh at b
 refine Am 1 J<|Ao fun x y=>?_
 obtain ⟨z,aa,b⟩:=Cb b
 have l:∀(m:Bool)(i:Af)(_:z m=some r)(_:Bl f i)(_:Sp f i []),∀ a,St 18 [(4,.bool m)] a→x a i:=by
  intro m i b ab ai
  subst aa
  refine y<|Aw<|rt v J J<|by cases b; exact ⟨rfl,ab⟩
 refine Aq<|wp 1 J<|bB b fun u9 ad b=>Bn J call132 q w (Kn f g j (o.ro q) _ ad) J fun ae _ n s=>wp 1 J ?_
 rcases bE u9 with d|d
 replace b:=Bw d b
 refine wn J d<|wp 1 J<|wn J d<|bB b fun af ag b=>Bn J call132 n s (Kn ae h k (p.ro n) _ ag) J fun aj _ t u=>A8 J J d J<|wp 1 J ?_
 rcases bE af with c|c
 replace b:=Bw c b
 refine wn J c<|wp 1 J<|wn J c<|BO o underlying26 J<|wn J c<|wp 1 J<|wn J c<|BO p underlying26 J<|wn J c<|wp 1 J<|A8 J J c J<|An 1 J ?_
 exact jx (l ((List.length g:Int)==(List.length h:Int)) _ b t (u.sel [] J)) J
 replace b:=BI c b
 refine wo J c<|wo J c<|wo J c<|wo J c<|wo J c<|Ak J J c J<|An 1 J ?_
 exact jx (l false _ b t (u.sel [] J)) J
 replace b:=BI d b
 refine wo J d<|wo J d<|Ak J J d J<|wp 1 J<|wo J J<|wo J J<|wo J J<|wo J J<|wo J J<|Ak J J J J<|An 1 J ?_
 exact jx (l false _ b n (s.sel [] J)) J
theorem Rv(d:Af)(g:Akg)(h:Ac)(q:RO At d h g)(i:Akg)(j:Ac)(s:RO At d j i)(k:Int)(r:Bool)(b:J8 g i k=some r) :
  A2 139 [h,j,iv k] d fun e w'=>e=.returned (.bool r)∧Bl d w':=by
 refine cm func139 ntmps139 J fun Q t hP l u=>?_
 unfold J8 at b
 refine Am 1 J<|Ao fun v w=>?_
 obtain ⟨x,y,b⟩:=Cb b
 have n:∀(m:Bool)(f:Af)(_:x m=some r)(_:Bl d f)(_:Sp d f []),∀ a,St 14 [(6,.bool m)] a→v a f:=by
  intro m f b z ai
  subst y
  refine w<|Aw<|rt t J J<|by cases b; exact ⟨rfl,z⟩
 refine Aq<|wp 2 J<|bB b fun u9 ab b=>Bn J call192 l u (Sg d g h (q.ro l) i j (s.ro l) _ ab) J fun ac _ o p=>wp 1 J ?_
 rcases bE u9 with c|c
 replace b:=Bw c b
 refine wn J c<|wp 1 J<|wn J c<|bB b fun ad ae b=>Bn J call77 o p (Cr ac k 1 64 _ ae) J fun aj _ af ag=>A8 J J c J<|An 1 J ?_
 exact jx (n ad _ b af (ag.sel [] J)) J
 replace b:=BI c b
 refine wo J c<|wo J c<|Ak J J c J<|An 1 J ?_
 exact jx (n false _ b o (p.sel [] J)) J
theorem LV(d:Af)(b c:Int×Int)(r:Int)(f:HA b c=some r) :
  A2 194 [.agg #[iv b.1,iv b.2],.agg #[iv c.1,iv c.2]] d fun e w'=>e=.returned (iv r)∧Bl d w':=by
 refine cm func194 ntmps194 J fun Q g o h i=>?_
 unfold HA at f
 refine Al fun _ j=>CV J h i fun p q _ k l=>CV J k l fun s t _ m a=>An 1 J<|j<|Al fun _ n=>Bp CY J<|AU 1 A9 J a J J<|Bp CY J<|AU 0 A9 J a J J<|wp 1 J<|Bp CY J<|AU 1 A9 J a J J<|Bp CY J<|AU 0 A9 J a J J<|wp 2 J<|Bp CX J<|AU 1 A9 J a J J<|Bp CX J<|AU 0 A9 J a J J<|wp 1 J<|Bp CX J<|AU 1 A9 J a J J<|Bp CX J<|AU 0 A9 J a J J<|An 4 J<|n<|Aw<|rt g J J<|by cases f; exact ⟨rfl,m⟩
theorem WT(c:Af)(g:Akg)(t:Ac)(ae:RO At c t g)(d:Akg)(n:Ac)(af:RO At c n d)(r:Akl)(b:Ld g d=some r) :
  A2 141 [t,n] c fun e w'=>∃(q0:Ac)(G0:Ap),e=.returned q0∧Bl c w'∧Sp c w' [Ab Ct G0 q0 r]:=by
 refine cm func141 ntmps141 J fun Q hQ hP hB hS=>?_
 unfold Ld at b
 refine Am 1 J<|Am 1 J<|Ao fun _ ar=>Al fun _ au=>wp 1 J<|BO ae underlying26 J<|An 1 J<|au<|A0<|AN (fun m a x=>∃(h:Akl)(f:Int)(j:Ac)(u:Ap),St 36 [(1,n),(5,j),(11,t),(12,iv (List.length g:Int)),(13,iv f)] a∧Bl c x∧Sp c x [Ab Ct u j h]∧EU g d m h f=some r) FU ?_ ?_
 have av:=hS.push0 (r:=Ab Ct [] (.slice none 0 0) []) J fun _=>.inl ⟨rfl,rfl,rfl⟩
 exact fun a ha=>⟨[],0,.slice none 0 0,[],ha.sb J,hB,av.sel [0] J,b⟩
 rintro o a x ⟨h,f,j,u,ha,y,ah,b⟩ b8 aw
 refine BC ?_ ha
 cases o with
 | zero=>exact Be b
 | succ o =>
  obtain ⟨ai,aj⟩:∃ k,k=EU g d o:=⟨_,rfl⟩
  rw [EU,← aj] at b
  refine Am 1 J<|Ao fun _ ax=>A3 J b (fun _ b=>?_)<|fun _ b=>?_
  refine Au<|ax ?_
  refine Ao fun _ ay=>A0<|Al fun _ az=>bB b fun p a0 b=>BT (e:=At) underlying26 J J J ae a0 ?_
  rintro b9 _ rfl a1
  refine BZ Bt J (a1.ro y) J<|EE Bt J y ah fun ak ca _ a2 a3=>GC 0 Bt J J a2 a3 J J J fun cb _ a4 a5=>Ai<|az<|Am 1 J<|Ao fun _ a6=>Al fun _ a7=>wp 1 J<|BO af underlying26 J<|An 1 J<|a7<|A0<|AN (fun m a z=>∃(v:List Int)(w:Int)(q:Ac)(aa:Ap),St 36 [(1,n),(5,j),(7,.pointer (some ⟨ak,0,none⟩)),(8,q),(11,t),(12,iv (List.length g:Int)),(13,iv f),(17,n),(18,iv (List.length d:Int)),(19,iv w)] a∧Bl c z∧Sp c z [Ab Ct u j h,Av ak 79 [iv p.1,iv p.2],Ab As aa q v]∧FT d p h ai f m v w=some r) FU ?_ ?_
  have a8:=a5.push0 (r:=Ab As [] (.slice none 0 0) []) J fun _=>.inl ⟨rfl,rfl,rfl⟩
  exact fun a ha=>⟨[],0,.slice none 0 0,[],ha.sb J,a4,a8.sel [2,1,0] J,b⟩
  rintro s a z ⟨v,w,q,aa,ha,ab,ac,b⟩ cc a9
  refine BC ?_ ha
  cases s with
  | zero=>exact Be b
  | succ s =>
   obtain ⟨cd,al⟩:∃ k,k=FT d p h ai f s:=⟨_,rfl⟩
   rw [FT,← al] at b
   refine Am 1 J<|Ao fun _ ba=>A3 J b (fun _ b=>?_)<|fun _ b=>?_
   refine Au<|ba ?_
   refine Ao fun _ bb=>A0<|Al fun _ bc=>bB b fun bd be b=>BT (e:=At) underlying26 J J J af be ?_
   rintro ce _ rfl bf
   refine BZ Bt J (bf.ro ab) J<|EE Bt J ab ac fun cf cg _ bg bh=>GC 0 Bt J J bg bh J J J fun bi _ bj ad=>Ai<|bc<|Aq<|wp 1 J<|AU 2 Bt J ad J J<|AU 0 Bt J ad J J<|bB b fun u64 bk b=>Bn J call194 bj ad (LV bi p bd _ bk) J fun ch _ bl bm=>AZ (vs:=[iv u64]) (l:=[u64]) Cl underlying36 J J J J J J bl bm fun ci cj bn _ bo am=>bB b fun bp bq b=>AE (i:=4) (S:=(·<bn.heap.size)) Cl underlying36 J J J bo am J (am.own_ro (i:=0) J) bq fun br bs ck _ bt bu=>An 1 J<|bb<|Aq<|An 2 J ?_
   rw [al] at b
   exact fun a ha=>a9 a _ s (AB s) ⟨bp,Ah (w+1),br,bs,ha.sb J,bt,bu.sel [2,3,4] J,b⟩
   refine Bb<|a6 ?_
   refine Aq<|wp 2 J ?_
   have bv:=ac.sel [2,0,1] J
   have bw:=bv.head (r':=RP Ct aa [q] v) (rfl) fun _ h0=>⟨_,rfl,h0⟩
   refine Pn (e:=Ct) (vs:=[q]) underlying155 J J (Ch (ac.own_ro (i:=2) J).one) J ab bw fun cl cn co _ _ bz b0=>bB b fun b1 b2 b=>Mq (e:=Ct) underlying155 J J J bz (b0.sel [1,0,2] J) b2 fun b3 b4 cp _ b5 b6=>An 1 J<|ay<|Aq<|An 2 J ?_
   rw [aj] at b
   exact fun a ha=>aw a _ o (AB o) ⟨b1,Ah (f+1),b3,b4,ha.sb J,b5,b6.sel [0] J,b⟩
  refine Bb<|ar ?_
  refine Am 2 J<|Aw<|rt hQ J J<|by cases b; exact ⟨j,u,rfl,y,ah.sel [0] J⟩
theorem Hw(b:Af)(c d r:Int)(a:FD c d=some r) :
  A2 225 [iv c,iv d] b fun e w'=>e=.returned (iv r)∧Bl b w':=by
 refine cm func225 ntmps225 J fun Q f i g _=>?_
 unfold FD at a
 refine Am 1 J<|Ao fun _ h=>Am 3 J<|A3 J a (fun _ a=>?_)<|fun _ a=>?_
 refine Am 2 J ?_
 refine Aw<|rt f J J<|by cases a; exact ⟨rfl,g⟩
 refine Au<|h ?_
 refine Am 2 J<|Aw<|rt f J J<|by cases a; exact ⟨rfl,g⟩
theorem WJ(g:Af)(j:Akl)(u:Ac)(a6:RO Ct g u j)(r:List Int)(b:KY j=some r) :
  A2 193 [u] g fun e w'=>∃(q0:Ac)(G0:Ap),e=.returned q0∧Bl g w'∧Sp g w' [Ab As G0 q0 r]:=by
 refine cm func193 ntmps193 J fun Q hQ d hB hS=>?_
 unfold KY at b
 refine Am 1 J<|Al fun _ b2=>wp 1 J<|BO a6 underlying155 J<|An 1 J<|b2<|Al fun _ b3=>wp 1 J<|DR underlying3 underlying117 J J ?_
 have h4:=HZ b
 replace b:=Bw h4 b
 refine KR h4 J J J<|bB b fun u5 b5 b=>Pm (e:=As) underlying36 J J b5 hB hS fun v6 F7 w8 _ b8 b9=>An 1 J<|b3<|Ao fun _ ca=>Am 1 J<|A0<|AN (fun m a aq=>∃(s:List Int)(f:Int)(t:Ac)(v:Ap),St 76 [(0,u),(3,iv (List.length j:Int)),(4,t),(5,iv f)] a∧Bl g aq∧Sp g aq [Ab As v t s]∧FN j m s f=some r) FU ?_ ?_
 exact fun a ha=>⟨u5,1,v6,F7,ha.sb J,b8,b9.sel [0] J,b⟩
 rintro w a aq ⟨s,f,t,v,ha,a8,a9,b⟩ d4 cb
 refine BC ?_ ha
 cases w with
 | zero=>exact Be b
 | succ w =>
  obtain ⟨ad,ba⟩:∃ k,k=FN j w:=⟨_,rfl⟩
  rw [FN,← ba] at b
  refine Ao fun _ cc=>Al fun _ cd=>wp 2 J<|DR underlying3 underlying117 J J<|KR h4 J J J<|An 1 J<|cd<|A3 J b (fun _ b=>?_)<|fun _ b=>?_
  refine Au<|cc ?_
  refine Ao fun _ ce=>A0<|Am 1 J<|Ao fun _ cf=>Am 1 J<|A0<|AN (fun m a ar=>∃(ae x:Int),St 76 [(0,u),(3,iv (List.length j:Int)),(4,t),(5,iv f),(6,iv ae),(7,iv x)] a∧Bl g ar∧Sp g ar [Ab As v t s]∧ET j f s ad m ae x=some r) FU ?_ ?_
  exact fun a ha=>⟨0,0,ha.sb J,a8,a9.sel [0] J,b⟩
  rintro y a ar ⟨ae,x,ha,bb,au,b⟩ d5 cg
  refine BC ?_ ha
  cases y with
  | zero=>exact Be b
  | succ y =>
   obtain ⟨d6,bc⟩:∃ k,k=ET j f s ad y:=⟨_,rfl⟩
   rw [ET,← bc] at b
   refine Ao fun _ ch=>Am 3 J<|A3 J b (fun _ b=>?_)<|fun _ b=>?_
   refine Au<|ch ?_
   refine Ao fun _ ci=>A0<|Aq<|wp 3 J<|DR underlying3 underlying117 J J ?_
   have bd:=HZ b
   replace b:=Bw bd b
   refine GB bd J J J<|Je J J J<|An 2 J<|ci<|Aq<|An 3 J ?_
   rw [bc] at b
   exact fun a ha=>cg a _ y (AB y) ⟨Ah (ae+(B8 .i64 (Bu .i64 f (Bi x)) 1)),Ah (x+1),ha.sb J,bb,au.sel [0] J,b⟩
   refine Bb<|cf ?_
   refine Al fun _ cj=>wp 2 J<|bB b fun d7 be b=>Co (e:=As) (i:=0) underlying36 J J J au J be ?_
   rintro d8 _ rfl d9 ck
   refine Cf (i:=0) (o:=0) (vs:=[iv 1000000000]) (u':=1000000000) Cl A9 J J J J ck be bb au J J ⟨rfl,trivial⟩ J fun ea _ bf cl=>Ai<|cj<|Al fun _ cn=>wp 4 J<|bB b fun af co b=>BT (e:=Ct) underlying155 J J J a6 co ?_
   rintro eb _ ⟨bg,rfl,bh⟩ cp
   refine BZ FA J (cp.ro bf) J<|BO bh underlying36 J<|An 1 J<|cn<|A0<|AN (fun m a av=>∃(n:List Int)(z:Int)(p:Ac)(l:Ap),St 76 [(0,u),(3,iv (List.length j:Int)),(4,p),(5,iv f),(43,bg),(44,iv (List.length af:Int)),(45,iv z)] a∧Bl g av∧Sp g av [Ab As l p n]∧DM af f ad m n z=some r) FU ?_ ?_
   exact fun a ha=>⟨BL s f 1000000000,0,t,v,ha.sb J,bf,cl.sel [0] J,b⟩
   rintro aa a av ⟨n,z,p,l,ha,ag,aw,b⟩ ec cq
   refine BC ?_ ha
   cases aa with
   | zero=>exact Be b
   | succ aa =>
    obtain ⟨ed,bi⟩:∃ k,k=DM af f ad aa:=⟨_,rfl⟩
    rw [DM,← bi] at b
    refine Am 1 J<|Ao fun _ cr=>A3 J b (fun _ b=>?_)<|fun _ b=>?_
    refine Au<|cr ?_
    refine Ao fun cs ct=>?_
    obtain ⟨cu,cv,b⟩:=Cb b
    have ab:∀(ah:List Int)(ai:Ac)(ax:Ap)(aj:Af)(_:cu ah=some r)(_:Bl g aj)(_:Sp g aj [Ab As ax ai ah]),∀ a,St 76 [(0,u),(3,iv (List.length j:Int)),(4,ai),(5,iv f),(43,bg),(44,iv (List.length af:Int)),(45,iv z)] a→cs a aj:=by
     intro ah ai ax aj b cw cx
     subst cv
     refine ct<|Aq<|An 2 J ?_
     rw [bi] at b
     exact fun a ha=>cq a _ aa (AB aa) ⟨ah,Ah (z+1),ai,ax,ha.sb J,cw,cx.sel [0] J,b⟩
    refine A0<|Al fun _ cy=>wp 1 J<|bB b fun ak cz b=>BT (e:=As) underlying36 J J J bh cz ?_
    rintro ee _ rfl c0
    refine BZ A9 J (c0.ro ag) J<|An 2 J<|cy<|Al fun _ c1=>wp 2 J<|DR underlying3 underlying117 J J ?_
    have al:=HZ b
    replace b:=Bw al b
    refine GB al J J J<|Je J J J<|An 1 J<|c1<|A3 J b (fun _ b=>?_)<|fun _ b=>?_
    refine AQ B1 l ag aw fun ac _ am q=>?_
    have c:=KeepX.refl ac l
    refine Ay 0 J d c<|Ay 1 J d c<|Ay 2 J d c<|Ay 3 J d c<|bB b fun an c2 b=>Ad 4 J d c<|Bx (e:=As) (i:=0) underlying36 J J J q J c2 ?_
    rintro ef _ rfl ao eg
    refine Ay 6 J d c<|Ay 7 J d c<|Ay 8 J d c<|Ay 9 J d c<|Ad 10 J d c<|P8 underlying3 underlying117 J J<|CA (is:=[5,11]) (by kernel_rfl) J<|Bj.2 ⟨⟨_,rfl,?_⟩,Bj.2 ⟨⟨_,rfl,?_⟩,fun _ h=>by cases h⟩⟩
    refine BZ A9 J ao J ?_
    refine Ai<|Ar c<|A1 11 J<|KR al J J J<|Ai<|Ar c<|A1 12 J<|Sz J J J<|Ai<|Ar c<|bB b fun c3 c4 b=>Ad 13 J d c<|Bx (e:=As) (i:=0) underlying36 J J J q J c4 ?_
    rintro eh _ rfl c5 ei
    refine A1 14 J<|BZ A9 J c5 J<|Ai<|Ar c<|Ad 15 J d c<|Fj J J J<|A1 16 J<|bB b fun ay c6 b=>Bn J call225 am q (Hw ac an (Ah (ak+c3)) _ c6) J fun ej c7 c8 bj=>?_
    have az:=c.ext c7
    refine Ai<|Ar az<|A1 17 J<|bB b fun ek bk b=>Co (e:=As) (i:=0) underlying36 J J J bj J bk ?_
    rintro el _ rfl em c9
    refine Ai<|Ar az<|A1 18 J<|Cf (i:=0) (o:=0) (vs:=[iv ay]) (u':=ay) Cl A9 J J J J c9 bk c8 bj J J ⟨rfl,trivial⟩ J fun en bl da db=>?_
    have dc:=az.wr' bl.1 bl.2.1 (fun _ _ h=>h)
    refine Ai<|Ar dc<|Bc ?_
    exact jx (ab (BL n f ay) p l _ b da (db.sel [0] J)) J
    refine KR al J J J ?_
    refine Ai<|Ar c<|CA (is:=[5,12]) (by kernel_rfl) J<|Bj.2 ⟨⟨_,rfl,?_⟩,Bj.2 ⟨⟨_,rfl,?_⟩,fun _ h=>by cases h⟩⟩
    refine BZ A9 J ao J ?_
    refine Ai<|Ar c<|A1 12 J<|Sz J J J<|Ai<|Ar c<|bB b fun dd de b=>Ad 13 J d c<|Bx (e:=As) (i:=0) underlying36 J J J q J de ?_
    rintro eo _ rfl df ep
    refine A1 14 J<|BZ A9 J df J<|Ai<|Ar c<|Ad 15 J d c<|Fj J J J<|A1 16 J<|bB b fun a0 dg b=>Bn J call225 am q (Hw ac an (Ah (ak+dd)) _ dg) J fun eq dh di bm=>?_
    have a1:=c.ext dh
    refine Ai<|Ar a1<|A1 17 J<|bB b fun er bn b=>Co (e:=As) (i:=0) underlying36 J J J bm J bn ?_
    rintro es _ rfl et dj
    refine Ai<|Ar a1<|A1 18 J<|Cf (i:=0) (o:=0) (vs:=[iv a0]) (u':=a0) Cl A9 J J J J dj bn di bm J J ⟨rfl,trivial⟩ J fun eu bo dk dl=>?_
    have dm:=a1.wr' bo.1 bo.2.1 (fun _ _ h=>h)
    refine Ai<|Ar dm<|Bc ?_
    exact jx (ab (BL n f a0) p l _ b dk (dl.sel [0] J)) J
    refine Sz J J J ?_
    refine Ai<|Ar c<|bB b fun bp dn b=>Ad 13 J d c<|Bx (e:=As) (i:=0) underlying36 J J J q J dn ?_
    rintro ev _ rfl bq ew
    refine CA (is:=[5,14]) (by kernel_rfl) J<|Bj.2 ⟨⟨_,rfl,?_⟩,Bj.2 ⟨⟨_,rfl,?_⟩,fun _ h=>by cases h⟩⟩
    refine BZ A9 J ao J ?_
    refine Ai<|Ar c<|A1 14 J<|BZ A9 J bq J<|Ai<|Ar c<|Ad 15 J d c<|Fj J J J<|A1 16 J<|bB b fun a2 dp b=>Bn J call225 am q (Hw ac an (Ah (ak+bp)) _ dp) J fun ex dq dr br=>?_
    have a3:=c.ext dq
    refine Ai<|Ar a3<|A1 17 J<|bB b fun ey bs b=>Co (e:=As) (i:=0) underlying36 J J J br J bs ?_
    rintro ez _ rfl e0 ds
    refine Ai<|Ar a3<|A1 18 J<|Cf (i:=0) (o:=0) (vs:=[iv a2]) (u':=a2) Cl A9 J J J J ds bs dr br J J ⟨rfl,trivial⟩ J fun e1 bt dt du=>?_
    have dv:=a3.wr' bt.1 bt.2.1 (fun _ _ h=>h)
    refine Ai<|Ar dv<|Bc ?_
    exact jx (ab (BL n f a2) p l _ b dt (du.sel [0] J)) J
    refine BZ A9 J bq J ?_
    refine Ai<|Ar c<|Ad 15 J d c<|Fj J J J<|A1 5 J<|BZ A9 J ao J<|Ai<|Ar c<|A1 16 J<|bB b fun a4 dw b=>Bn J call225 am q (Hw ac an (Ah (ak+bp)) _ dw) J fun e2 dx dy bu=>?_
    have a5:=c.ext dx
    refine Ai<|Ar a5<|A1 17 J<|bB b fun e3 bv b=>Co (e:=As) (i:=0) underlying36 J J J bu J bv ?_
    rintro e4 _ rfl e5 dz
    refine Ai<|Ar a5<|A1 18 J<|Cf (i:=0) (o:=0) (vs:=[iv a4]) (u':=a4) Cl A9 J J J J dz bv dy bu J J ⟨rfl,trivial⟩ J fun e6 bw d0 d1=>?_
    have d2:=a5.wr' bw.1 bw.2.1 (fun _ _ h=>h)
    refine Ai<|Ar d2<|Bc ?_
    exact jx (ab (BL n f a4) p l _ b d0 (d1.sel [0] J)) J
    refine Au ?_
    exact jx (ab n p l _ b ag (aw.sel [0] J)) J
    refine Bb<|ce ?_
    refine Aq<|An 3 J ?_
    rw [ba] at b
    exact fun a ha=>cb a _ w (AB w) ⟨n,Ah (f+1),p,l,ha.sb J,ag,aw.sel [0] J,b⟩
  refine Bb<|ca ?_
  refine Am 2 J<|Aw<|rt hQ J J<|by cases b; exact ⟨t,v,rfl,a8,a9.sel [0] J⟩
theorem WK(h:Af)(p:Akl)(x:Ac)(ah:RO Ct h x p)(r:Akn)(d:KZ p=some r) :
  A2 140 [x] h fun e w'=>∃(q0:Ac)(G0:Ap),e=.returned (.tuple #[q0,iv r.2])∧Bl h w'∧Sp h w' [Ab As G0 q0 r.1]:=by
 refine cm func140 ntmps140 J fun Q hQ b hB hS=>?_
 unfold KZ at d
 refine Am 2 J<|Al fun _ bb=>wp 1 J<|bB d fun j bc d=>Ds J call193 hB hS (WJ h p x (ah.ro hB) _ bc) J fun v F5 w6 _ _ bd aw=>An 1 J<|bb<|Al fun _ be=>wp 1 J<|BO (aw.own_ro (i:=0) J) underlying36 J<|An 2 J<|be<|Am 1 J<|Ao fun _ bf=>Al fun _ bg=>wp 1 J<|BO ah underlying155 J<|An 1 J<|bg<|A0<|AN (fun m a ai=>∃(n:Int)(w:List Int)(q:Int)(o:Ac)(y:Ap),St 76 [(4,v),(5,iv n),(6,o),(17,x),(18,iv (List.length p:Int)),(19,iv q)] a∧Bl h ai∧Sp h ai [Ab As F5 v j,Ab As y o w]∧Ez p j m n w q=some r) FU ?_ ?_
 have bh:=aw.push0 (r:=Ab As [] (.slice none 0 0) []) J fun _=>.inl ⟨rfl,rfl,rfl⟩
 exact fun a ha=>⟨Ah ((List.length j:Int)-1),[],0,.slice none 0 0,[],ha.sb J,bd,bh.sel [1,0] J,d⟩
 rintro z a ai ⟨n,w,q,o,y,ha,aj,ax,d⟩ cu bi
 refine BC ?_ ha
 cases z with
 | zero=>exact Be d
 | succ z =>
  obtain ⟨ay,az⟩:∃ k,k=Ez p j z:=⟨_,rfl⟩
  rw [Ez,← az] at d
  refine Am 1 J<|Ao fun _ bj=>A3 J d (fun _ d=>?_)<|fun _ d=>?_
  refine Au<|bj ?_
  refine Ao fun _ bk=>A0<|Al fun _ bl=>bB d fun aa bm d=>BT (e:=Ct) underlying155 J J J ah bm ?_
  rintro cv _ ⟨ak,rfl,a0⟩ bn
  refine BZ FA J (bn.ro aj) J<|An 1 J<|bl<|Am 1 J<|Ao fun _ bo=>Al fun _ bp=>wp 1 J<|BO a0 underlying36 J<|An 1 J<|bp<|A0<|AN (fun m a al=>∃(s t:Int),St 76 [(4,v),(5,iv n),(6,o),(9,iv s),(17,x),(18,iv (List.length p:Int)),(19,iv q),(23,ak),(24,iv (List.length aa:Int)),(25,iv t)] a∧Bl h al∧Sp h al [Ab As F5 v j,Ab As y o w]∧FO aa n j w ay q m s t=some r) FU ?_ ?_
  exact fun a ha=>⟨-1,0,ha.sb J,aj,ax.sel [0,1] J,d⟩
  rintro ab a al ⟨s,t,ha,am,a1,d⟩ cw bq
  refine BC ?_ ha
  cases ab with
  | zero=>exact Be d
  | succ ab =>
   obtain ⟨cx,a2⟩:∃ k,k=FO aa n j w ay q ab:=⟨_,rfl⟩
   rw [FO,← a2] at d
   refine Am 1 J<|Ao fun _ br=>A3 J d (fun _ d=>?_)<|fun _ d=>?_
   refine Au<|br ?_
   refine Ao fun bs bt=>?_
   obtain ⟨bu,bv,d⟩:=Cb d
   have a3:∀(ae:Int)(af:Af)(_:bu ae=some r)(_:Bl h af)(_:Sp h af [Ab As F5 v j,Ab As y o w]),∀ a,St 76 [(4,v),(5,iv n),(6,o),(9,iv ae),(17,x),(18,iv (List.length p:Int)),(19,iv q),(23,ak),(24,iv (List.length aa:Int)),(25,iv t)] a→bs a af:=by
    intro ae af d bw bx
    subst bv
    refine bt<|Aq<|An 2 J ?_
    rw [a2] at d
    exact fun a ha=>bq a _ ab (AB ab) ⟨ae,Ah (t+1),ha.sb J,bw,bx.sel [0,1] J,d⟩
   refine A0<|Al fun _ bz=>wp 1 J<|bB d fun b0 b1 d=>BT (e:=As) underlying36 J J J a0 b1 ?_
   rintro cy _ rfl b2
   refine BZ A9 J (b2.ro am) J<|An 2 J<|bz<|Ao fun b3 b4=>?_
   obtain ⟨b5,b6,d⟩:=Cb d
   have an:∀(ao:Bool)(ag:Af)(_:b5 ao=some r)(_:Bl h ag)(_:Sp h ag [Ab As F5 v j,Ab As y o w]),∀ a,St 76 [(4,v),(5,iv n),(6,o),(9,iv s),(10,iv t),(17,x),(18,iv (List.length p:Int)),(19,iv q),(23,ak),(24,iv (List.length aa:Int)),(25,iv t),(56,.bool ao)] a→b3 a ag:=by
    intro ao ag d a4 a5
    subst b6
    refine b4<|A3 J d (fun _ d=>?_)<|fun _ d=>?_
    refine Aq ?_
    refine An 2 J ?_
    exact jx (a3 t _ d a4 (a5.sel [0,1] J)) J
    refine Au ?_
    exact jx (a3 s _ d a4 (a5.sel [0,1] J)) J
   refine AQ B1 [] am a1 fun b7 _ ap ac=>?_
   have c:=KeepX.refl b7 []
   refine Ay 0 J b c<|Ad 1 J b c<|MB J J J<|Ay 2 J b c ?_
   rcases bE (decide (s<0)) with g|g
   replace d:=Bw g d
   refine BQ 3 J b g c<|Dq J J<|BQ 4 J b g c<|Dq J J<|BQ 5 J b g c<|P8 underlying3 underlying117 J J<|A1 6 J<|wn J g ?_
   have aq:=HZ d
   replace d:=Bw aq d
   refine GB aq J J J<|Ai<|Ar c<|A1 7 J<|wn J g<|Je J J J<|Ai<|Ar c<|BQ 8 J b g c<|Rb J J J<|Ad 9 J b c<|EK J J g J<|Ay 10 J b c ?_
   rcases bE ((B8 .i64 (Bu .i64 n (Bi t)) 1)==1) with f|f
   replace d:=Bw f d
   refine BQ 11 J b f c<|Dq J J<|BQ 12 J b f c<|Dq J J<|BQ 13 J b f c<|Dq J J<|BQ 14 J b f c<|Dq J J<|BQ 15 J b f c<|P8 underlying3 underlying117 J J<|BQ 21 J b f c<|Dq J J<|BQ 22 J b f c<|Dq J J<|bB d fun b8 b9 d=>BQ 23 J b f c<|Bx (e:=As) (i:=0) underlying36 J J J ac J b9 ?_
   rintro cz _ rfl ca c0
   refine BQ 24 J b f c<|BR A9 J (ca.kx0) J<|A1 16 J<|wn J f<|KR aq J J J<|Ai<|Ar c<|A1 17 J<|wn J f<|Sz J J J<|Ai<|Ar c<|bB d fun cb cc d=>BQ 18 J b f c<|Bx (e:=As) (i:=0) underlying36 J J J ac J cc ?_
   rintro c1 _ rfl cd c2
   refine BQ 19 J b f c<|BR A9 J (cd.kx0) J<|BQ 20 J b f c<|Fj J J J<|BQ 25 J b f c<|Rb J J J<|Ad 26 J b c<|EK J J f J<|Bc ?_
   exact jx (an ((Ah (b0+cb))==b8) _ d ap (ac.sel [0,1] J)) J
   replace d:=BI f d
   refine Bh 11 J b f c<|Bh 12 J b f c<|Bh 13 J b f c<|Bh 14 J b f c<|Bh 15 J b f c<|Bh 16 J b f c<|Bh 17 J b f c<|Bh 18 J b f c<|Bh 19 J b f c<|Bh 20 J b f c<|Bh 21 J b f c<|Bh 22 J b f c<|Bh 23 J b f c<|Bh 24 J b f c<|Bh 25 J b f c<|Ad 26 J b c<|GI J J f J<|Bc ?_
   exact jx (an false _ d ap (ac.sel [0,1] J)) J
   replace d:=BI g d
   refine Bh 3 J b g c<|Bh 4 J b g c<|Bh 5 J b g c<|Bh 6 J b g c<|Bh 7 J b g c<|Bh 8 J b g c<|Ad 9 J b c<|GI J J g J<|Ay 10 J b c<|Bh 11 J b J c<|Bh 12 J b J c<|Bh 13 J b J c<|Bh 14 J b J c<|Bh 15 J b J c<|Bh 16 J b J c<|Bh 17 J b J c<|Bh 18 J b J c<|Bh 19 J b J c<|Bh 20 J b J c<|Bh 21 J b J c<|Bh 22 J b J c<|Bh 23 J b J c<|Bh 24 J b J c<|Bh 25 J b J c<|Ad 26 J b c<|GI J J J J<|Bc ?_
   exact jx (an false _ d ap (ac.sel [0,1] J)) J
   refine Bb<|bo ?_
   refine Al fun _ ce=>wp 2 J<|AZ (vs:=[iv s]) (l:=[s]) Cl underlying36 J J J J J J am a1 fun c3 c4 cf _ cg a6=>bB d fun ch ci d=>AE (i:=2) (S:=(·<cf.heap.size)) Cl underlying36 J J J cg a6 J (a6.own_ro (i:=0) J) ci fun cj ck c5 _ cl cn=>An 1 J<|ce<|Aq<|wp 2 J<|DR underlying3 underlying117 J J ?_
   have a7:=HZ d
   replace d:=Bw a7 d
   refine KR a7 J J J<|Sz J J J<|An 1 J<|bk<|Aq<|An 2 J ?_
   rw [az] at d
   exact fun a ha=>bi a _ z (AB z) ⟨Up .i64 n (LL .i64 1 (Bi s)),ch,Ah (q+1),cj,ck,ha.sb J,cl,cn.sel [1,2] J,d⟩
  refine Bb<|bf ?_
  refine Ao fun _ co=>AQ B1 [] aj ax fun cp _ cq ar=>?_
  have u:=KeepX.refl cp []
  refine Ay 0 J b u<|Ay 1 J b u<|Ay 2 J b u<|Ad 3 J b u<|LF (e:=As) (l:=j) underlying36 J J (ar.own_ro (i:=0) J)<|Ad 4 J b u<|H6 J J J<|bB d fun c6 cr d=>Ad 5 J b u<|Bx (e:=As) (i:=0) underlying36 J J J ar J cr ?_
  rintro c7 _ rfl cs c8
  refine Ad 6 J b u<|BR A9 J (cs.kx0) J<|Ad 7 J b u<|AD J J<|Ad 8 J b u<|AD J J<|Bc<|co<|Aw<|rt hQ J J<|by cases d; exact ⟨o,y,rfl,cq,ar.sel [1] J⟩
theorem PU(a:Af)(c:List Int)(d:Ac)(h:RO As a d c)(r:List Int)(b:JH c=some r) :
  A2 52 [d] a fun e w'=>∃(f:Ac)(j:Ap),e=.returned f∧Bl a w'∧Sp a w' [Ab As j f r]:=by
 refine cm func52 ntmps52 J fun Q k x m n=>?_
 unfold JH at b
 refine Am 1 J<|Al fun _ o=>AZ (vs:=[]) (l:=[]) Cl underlying36 J J J J J J m n fun y z p _ g q=>wp 1 J<|bB b fun u9 s b=>AE (i:=0) (S:=(·<p.heap.size)) Cl underlying36 J J J g q J (h.ro g) s fun t u ab _ v w=>An 1 J<|o<|Aw<|rt k J J<|by cases b; exact ⟨t,u,rfl,v,w.sel [0] J⟩
theorem OO(h:Af)(j:Akg)(k:Ac)(x:RO At h k j)(l:Akg)(m:Ac)(y:RO At h m l)(a:Int)(n:List Int)(o:Ac)(z:RO As h o n)(r:Akg×Akg×Int×List Int)(b:Ja j l a n=some r) :
  A2 142 [k,m,iv a,o] h fun e w'=>∃(p:Ac)(G0:Ap)(q:Ac)(G1:Ap)(s:Ac)(G2:Ap),e=.returned (.agg #[p,q,iv r.2.2.1,s])∧Bl h w'∧Sp h w' [Ab At G0 p r.1,Ab At G1 q r.2.1,Ab As G2 s r.2.2.2]:=by
 refine cm func142 ntmps142 J fun Q hQ hP hB hS=>?_
 unfold Ja at b
 refine Al fun _ ag=>EE Bs J hB hS fun b2 w3 _ t ai=>Ai<|ag<|Al fun _ aj=>wp 1 J<|bB b fun u8 ak b=>Ds J call90 t ai (JO w3 j k (x.ro t) _ ak) J fun c al am _ _ u an=>wp 1 J<|bB b fun a0 ao b=>Ds J call90 u an (JO am l m (y.ro u) _ ao) J fun d ap aq _ _ v ar=>wp 2 J<|bB b fun a1 au b=>Ds J call52 v ar (PU aq n o (z.ro v) _ au) J fun f av a2 _ _ aw g=>DS (zs:=[.slice none 0 0,.slice none 0 0,iv 0,.slice none 0 0]) (out:=[c,d,iv a,f]) (vs:=[c,d,iv a,f]) (css:=[[c],[d],[iv a],[f]]) Bs Rc J J (by simp only [List.map_cons,List.map_nil,Ch ((g.own_ro (i:=2) J).one),Ch ((g.own_ro (i:=1) J).one),Ch ((g.own_ro (i:=0) J).one)] <;> rfl) J J<|BG (i:=3) (vs:=[c,d,iv a,f]) (cs':=[c,d,iv a,f]) Bs J J J J aw g J J ⟨(g.own_ro (i:=2) J).one,(g.own_ro (i:=1) J).one,rfl,(g.own_ro (i:=0) J).one,trivial⟩ J fun a3 _ ax w=>Ai<|aj<|Aw ?_
 obtain rfl:=Option.some.inj b
 exact JU (vs:=[.agg #[c,d,iv a,f]]) hQ J ⟨HL (i:=3) Bs J w J J J,trivial⟩ ⟨c,al,d,ap,f,av,rfl,ax,w.sel [2,1,0] J⟩
theorem ML(b:Af)(c:Akg)(d:Ac)(p:RO At b d c)(f:Akg)(g:Ac)(q:RO At b g f)(h:Int)(r:(Akg×Akg×Int×List Int)×Bool)(a:GZ c f h=some r) :
  A2 96 [d,g,iv h] b fun e w'=>∃(u:Ac)(G0:Ap)(v:Ac)(G1:Ap)(w:Ac)(G2:Ap),e=.returned (.tuple #[.agg #[u,v,iv r.1.2.2.1,w],.bool r.2])∧Bl b w'∧Sp b w' [Ab At G0 u r.1.1,Ab At G1 v r.1.2.1,Ab As G2 w r.1.2.2.2]:=by
 refine cm func96 ntmps96 J fun Q x hP hB hS=>?_
 unfold GZ at a
 refine Al fun _ aj=>EE Bs J hB hS fun b2 w3 _ s al=>An 1 J<|aj<|Ao fun _ am=>Al fun _ an=>wp 3 J<|bB a fun u9 ao a=>Bn J call139 s al (Rv w3 c d (p.ro s) f g (q.ro s) h _ ao) J fun ap _ j y=>An 1 J<|an<|A3 J a (fun _ a=>?_)<|fun _ a=>?_
 refine Al fun _ aq=>?_
 refine DS (zs:=[.slice none 0 0,.slice none 0 0,iv 0,.slice none 0 0]) (out:=[.slice none 0 0,.slice none 0 0,iv 0,.slice none 0 0]) (vs:=[]) (css:=[]) Bs Rc J J J J J<|GC 0 Bs J J j y J J J fun bi _ ar z=>An 1 J<|aq<|Aw ?_
 have au:=z.push0 (r:=Ab At [] (.slice none 0 0) []) J fun _=>.inl ⟨rfl,rfl,rfl⟩
 have av:=au.push0 (r:=Ab At [] (.slice none 0 0) []) J fun _=>.inl ⟨rfl,rfl,rfl⟩
 have aw:=av.push0 (r:=Ab As [] (.slice none 0 0) []) J fun _=>.inl ⟨rfl,rfl,rfl⟩
 obtain rfl:=Option.some.inj a
 exact JU (vs:=[.agg #[.slice none 0 0,.slice none 0 0,iv 0,.slice none 0 0],.bool false]) x J ⟨HL (i:=0) Bs J z J J J,Kr J,trivial⟩ ⟨.slice none 0 0,[],.slice none 0 0,[],.slice none 0 0,[],rfl,ar,aw.sel [2,1,0] J⟩
 refine Au<|am ?_
 refine Al fun _ ax=>wp 2 J<|bB a fun ay az a=>Ds J call141 j y (WT ap c d (p.ro j) f g (q.ro j) _ az) J fun a0 bj a1 _ _ a2 aa=>bB a fun a3 a4 a=>Ds J call140 a2 aa (WK a1 ay a0 (aa.own_ro (i:=0) J) _ a4) J fun a5 bk a6 _ _ k ab=>An 5 J<|ax<|Al fun _ a7=>wp 4 J<|bB a fun t a8 a=>A7 J call142 (OO a6 c d (p.ro k) f g (q.ro k) h a3.1 a5 (ab.own_ro (i:=0) J) _ a8) J ?_
 rintro _ bl ⟨l,a9,m,ba,n,bb,rfl,ac,bc⟩
 refine ⟨_,rfl,?_⟩
 have bd:=tm k ac
 have o:=ab.join ac bc k.size
 refine BG (i:=5) (vs:=[l,m,iv t.2.2.1,n]) (cs':=[l,m,iv t.2.2.1,n]) Bs J J J J bd o J J ⟨(o.own_ro (i:=0) J).one,(o.own_ro (i:=1) J).one,rfl,(o.own_ro (i:=2) J).one,trivial⟩ J fun bm _ be ad=>An 1 J<|a7<|Aw ?_
 obtain rfl:=Option.some.inj a
 exact JU (vs:=[.agg #[l,m,iv t.2.2.1,n],.bool true]) x J ⟨HL (i:=5) Bs J ad J J J,Kr J,trivial⟩ ⟨l,a9,m,ba,n,bb,rfl,be,ad.sel [0,1,2] J⟩
theorem Zw(c:Af)(d:List Int)(j:Ac)(n:RO As c j d)(f:Int)(r:Bool)(b:Mj d f=some r) :
  A2 226 [j,iv f] c fun e w'=>e=.returned (.bool r)∧Bl c w':=by
 refine cm func226 ntmps226 J fun Q o hP q s=>?_
 unfold Mj at b
 refine Am 1 J<|Ao fun _ t=>Al fun _ u=>wp 1 J<|BO n underlying36 J<|An 1 J<|u<|A0<|AN (fun m a l=>∃(h:Int),St 17 [(1,iv f),(7,j),(8,iv (List.length d:Int)),(9,iv h)] a∧Bl c l∧Sp c l []∧GM d f m h=some r) FU ?_ ?_
 exact fun a ha=>⟨0,ha.sb J,q,s.sel [] J,b⟩
 rintro g a l ⟨h,ha,i,v,b⟩ ad w
 refine BC ?_ ha
 cases g with
 | zero=>exact Be b
 | succ g =>
  obtain ⟨ae,p⟩:∃ k,k=GM d f g:=⟨_,rfl⟩
  rw [GM,← p] at b
  refine Am 1 J<|Ao fun _ x=>A3 J b (fun _ b=>?_)<|fun _ b=>?_
  refine Au<|x ?_
  refine Ao fun _ y=>A0<|Al fun _ z=>bB b fun af aa b=>BT (e:=As) underlying36 J J J n aa ?_
  rintro ag _ rfl ab
  refine BZ A9 J (ab.ro i) J<|An 1 J<|z<|Am 3 J<|A3 J b (fun _ b=>?_)<|fun _ b=>?_
  refine Am 1 J ?_
  refine Aw<|rt o J J<|by cases b; exact ⟨rfl,i⟩
  refine Au<|y ?_
  refine Aq<|An 2 J ?_
  rw [p] at b
  exact fun a ha=>w a _ g (AB g) ⟨Ah (h+1),ha.sb J,i,v.sel [] J,b⟩
  refine Bb<|t ?_
  refine Am 1 J<|Aw<|rt o J J<|by cases b; exact ⟨rfl,i⟩
end Go.Proofs.YtellehgihceicaaGreatDoor
