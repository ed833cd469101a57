/-
  THE WALKS of functions of this seat, by program (gen.py, prune.py).
-/
import Derived.Test.YtellehgihceicaaGreatDoorWXFnScriptsa
set_option linter.unusedVariables false
set_option linter.unusedSimpArgs false
set_option maxRecDepth 100000
set_option maxHeartbeats 1600000
namespace Go.Proofs.YtellehgihceicaaGreatDoor
open Go Go.RowKit Go.Proofs.Tryz
theorem VR(d:Af)(g:List Int)(h:Ac)(l:RO As d h g)(f:Int)(r:Bool)(b:Ky g f=some r) :
  A2 195 [h,iv f] d fun e w'=>e=.returned (.bool r)∧Bl d w':=by
 refine cm func195 ntmps195 J fun Q t hP z hS=>?_
 unfold Ky at b
 refine Am 1 J<|Ao fun _ ab=>Al fun _ ac=>wp 1 J<|BO l underlying36 J<|An 1 J<|ac<|A0<|AN (fun m a n=>∃(i:Int),St 31 [(0,h),(1,iv f),(7,h),(8,iv (List.length g:Int)),(9,iv i)] a∧Bl d n∧Sp d n []∧Fl g f m i=some r) FU ?_ ?_
 exact fun a ha=>⟨0,ha.sb J,z,hS.sel [] J,b⟩
 rintro j a n ⟨i,ha,p,ad,b⟩ a4 ae
 refine BC ?_ ha
 cases j with
 | zero=>exact Be b
 | succ j =>
  obtain ⟨a5,u⟩:∃ k,k=Fl g f j:=⟨_,rfl⟩
  rw [Fl,← u] at b
  refine Am 1 J<|Ao fun _ af=>A3 J b (fun _ b=>?_)<|fun _ b=>?_
  refine Au<|af ?_
  refine Ao fun _ ag=>A0<|Al fun _ ah=>wp 1 J<|bB b fun v ai b=>BT (e:=As) underlying36 J J J l ai ?_
  rintro a6 _ rfl aj
  refine BZ A9 J (aj.ro p) J<|An 2 J<|ah<|Ao fun ak al=>?_
  obtain ⟨am,an,b⟩:=Cb b
  have w:∀(q:Bool)(o:Af)(_:am q=some r)(_:Bl d o)(_:Sp d o []),∀ a,St 31 [(0,h),(1,iv f),(7,h),(8,iv (List.length g:Int)),(9,iv i),(25,.bool q)] a→ak a o:=by
   intro q o b x ao
   subst an
   refine al<|A3 J b (fun _ b=>?_)<|fun _ b=>?_
   refine Am 1 J ?_
   refine Aw<|rt t J J<|by cases b; exact ⟨rfl,x⟩
   refine Au<|ag ?_
   refine Aq<|An 2 J ?_
   rw [u] at b
   exact fun a ha=>ae a _ j (AB j) ⟨Ah (i+1),ha.sb J,x,ao.sel [] J,b⟩
  refine Aq<|wp 3 J<|bB b fun ap aq b=>Bn J call77 p ad (Cr n v 0 (Ah (f-1)) _ aq) J fun ar _ s y=>wp 2 J ?_
  rcases bE (!ap) with c|c
  replace b:=Bw c b
  refine wo J c<|wo J c<|wo J c<|wo J c<|wo J c<|A8 J J c J<|Ai ?_
  exact jx (w true _ b s (y.sel [] J)) J
  replace b:=BI c b
  refine wn J c<|wp 1 J<|wn J c<|wp 1 J<|wn J c<|bB b fun au av b=>R1 (e:=As) underlying36 J J l av (.inl ⟨rfl,rfl⟩) (.inr ⟨_,_,rfl,rfl⟩) fun aw ax=>wn J c<|wp 1 J<|wn J c<|bB b fun ay az b=>Bn J call226 s y (Zw ar au aw (ax.ro s) v _ az) J fun a7 _ a0 a1=>Ak J J c J<|Ai ?_
  exact jx (w ay _ b a0 (a1.sel [] J)) J
  refine Bb<|ab ?_
  refine Al fun _ a2=>wp 1 J<|BO l underlying36 J<|An 3 J<|a2<|Aw<|rt t J J<|by cases b; exact ⟨rfl,p⟩
theorem OP(g:Af)(f:Akg×Akg×Int×List Int)(j:Ac)(t:RO At g j f.1)(k:Ac)(v:RO At g k f.2.1)(l:Ac)(w:RO As g l f.2.2.2)(r:Bool)(b:Jb f=some r) :
  A2 144 [.agg #[j,k,iv f.2.2.1,l]] g fun e w'=>e=.returned (.bool r)∧Bl g w':=by
 refine cm func144 ntmps144 J fun Q x hP y z=>?_
 unfold Jb at b
 refine Al fun _ aa=>CV J y z fun b2 w3 _ m n=>An 1 J<|aa<|Ao fun K7 ad=>?_
 obtain ⟨ae,af,b⟩:=Cb b
 have o:∀(p:Bool)(h:Af)(_:ae p=some r)(_:Bl g h)(_:Sp g h []),∀ a,St 21 [(2,.bool p)] a→K7 a h:=by
  intro p h b ag av
  subst af
  refine ad<|Aw<|rt x J J<|by cases b; exact ⟨rfl,ag⟩
 refine Aq<|Bp EX J<|AU 0 Cs J n J J<|Bp Mf J<|AU 0 Cs J n J J<|bB b fun ah ai b=>Bn J call192 m n (Sg w3 f.1 j (t.ro m) f.2.1 k (v.ro m) _ ai) J fun aj _ u q=>wp 1 J ?_
 rcases bE ah with d|d
 replace b:=Bw d b
 refine wn J d<|Bp Me J<|wn J d<|AU 0 A9 J q J J<|wn J d<|bB b fun ak al b=>Bn J call77 u q (Cr aj f.2.2.1 1 64 _ al) J fun am _ s i=>A8 J J d J<|wp 1 J ?_
 rcases bE ak with c|c
 replace b:=Bw c b
 refine wn J c<|Bp Hf J<|wn J c<|AU 0 FA J i J J<|wn J c<|Bp EX J<|wn J c<|AU 0 Cs J i J J<|wn J c<|BO t underlying26 J<|wn J c<|bB b fun an ao b=>Bn J call195 s i (VR am f.2.2.2 l (w.ro s) (List.length f.1:Int) _ ao) J fun aw _ ap aq=>A8 J J c J<|An 1 J ?_
 exact jx (o an _ b ap (aq.sel [] J)) J
 replace b:=BI c b
 refine wo J c<|wo J c<|wo J c<|wo J c<|wo J c<|wo J c<|Ak J J c J<|An 1 J ?_
 exact jx (o false _ b s (i.sel [] J)) J
 replace b:=BI d b
 refine wo J d<|wo J d<|wo J d<|Ak J J d J<|wp 1 J<|wo J J<|wo J J<|wo J J<|wo J J<|wo J J<|wo J J<|Ak J J J J<|An 1 J ?_
 exact jx (o false _ b u (q.sel [] J)) J
theorem M3(q:Af)(g:Akg×Akg×Int×List Int)(z:Ac)(ap:RO At q z g.1)(aa:Ac)(aq:RO At q aa g.2.1)(v:Ac)(af:RO As q v g.2.2.2)(r:List Aki)(c:Hr g=some r) :
  A2 196 [.agg #[z,aa,iv g.2.2.1,v]] q fun e w'=>∃(q0:Ac)(G0:Ap),e=.returned q0∧Bl q w'∧Sp q w' [Ab CF G0 q0 r]:=by
 refine cm func196 ntmps196 J fun Q hQ d hB hS=>?_
 unfold Hr at c
 refine Al fun _ ax=>CV J hB hS fun s w3 _ ay ah=>An 1 J<|ax<|Am 1 J<|Ao fun _ az=>Al fun _ a0=>Bp Hf J<|AU 0 FA J ah J J<|BO af underlying36 J<|An 1 J<|a0<|A0<|AN (fun m a ab=>∃(ac:List Aki)(w:Int)(x:Ac)(t:Ap),St 32 [(1,.pointer (some ⟨s,0,none⟩)),(3,x),(7,v),(8,iv (List.length g.2.2.2:Int)),(9,iv w)] a∧Bl q ab∧Sp q ab [Av s 128 [z,aa,iv g.2.2.1,v],Ab CF t x ac]∧FSx g m ac w=some r) FU ?_ ?_
 have a1:=ah.push0 (r:=Ab CF [] (.slice none 0 0) []) J fun _=>.inl ⟨rfl,rfl,rfl⟩
 exact fun a ha=>⟨[],0,.slice none 0 0,[],ha.sb J,ay,a1.sel [1,0] J,c⟩
 rintro u a ab ⟨ac,w,x,t,ha,ad,ai,c⟩ bm a2
 refine BC ?_ ha
 cases u with
 | zero=>exact Be c
 | succ u =>
  obtain ⟨bn,aj⟩:∃ k,k=FSx g u:=⟨_,rfl⟩
  rw [FSx,← aj] at c
  refine Am 1 J<|Ao fun _ a3=>A3 J c (fun _ c=>?_)<|fun _ c=>?_
  refine Au<|a3 ?_
  refine Ao fun _ a4=>A0<|Al fun _ a5=>wp 1 J<|bB c fun bo a6 c=>BT (e:=As) underlying36 J J J af a6 ?_
  rintro bp _ rfl a7
  refine BZ A9 J (a7.ro ad) J<|An 2 J<|a5<|AQ B1 t ad ai fun ak _ y n=>?_
  have f:=KeepX.refl ak t
  refine Ay 0 J d f<|Ad 1 J d f<|C7 EX J<|Ad 2 J d f<|CN 0 Cs J n J (n.disj (i:=0) (j:=1) J J J s (by simp [Av]))<|Ay 3 J d f<|bB c fun o a8 c=>Ad 4 J d f<|B7 (e:=At) underlying26 J J J ap a8 ?_
  rintro bq _ rfl a9
  refine Ad 5 J d f<|BR Bt J (a9.kx y (fun b hb=>(((n.get (i:=1) J).2.1 b hb).1))) J<|Ad 6 J d f<|C7 Mf J<|Ad 7 J d f<|CN 0 Cs J n J (n.disj (i:=0) (j:=1) J J J s (by simp [Av]))<|Ay 8 J d f<|bB c fun p ba c=>Ad 9 J d f<|B7 (e:=At) underlying26 J J J aq ba ?_
  rintro br _ rfl bb
  refine Ad 10 J d f<|BR Bt J (bb.kx y (fun b hb=>(((n.get (i:=1) J).2.1 b hb).1))) J<|Ad 11 J d f<|C7 Me J<|Ad 12 J d f<|CN 0 A9 J n J (n.disj (i:=0) (j:=1) J J J s (by simp [Av]))<|Ad 13 J d f<|IU (zs:=[iv 0,iv 0,iv 0,iv 0,iv 0]) (out:=[iv o.1,iv o.2,iv p.1,iv p.2,iv g.2.2.1]) (vs:=[.agg #[iv o.1,iv o.2],.agg #[iv p.1,iv p.2],iv g.2.2.1]) (css:=[[iv o.1,iv o.2],[iv p.1,iv p.2],[iv g.2.2.1]]) C8 Ac2 J J J J J<|A1 14 J<|AZ (vs:=[.agg #[iv o.1,iv o.2,iv p.1,iv p.2,iv g.2.2.1]]) (l:=[(o,p,g.2.2.1)]) SV underlying184 J J J J J J (Bk ak) (Sep.nil _ _) fun bs bt bc ae _ bd=>?_
  have be:=tm y ae
  have al:=n.join ae bd y.size
  have am:=f.ext ae
  refine Ai<|Ar am<|A1 15 J<|bB c fun bf bg c=>AE (i:=2) (S:=(·<bc.heap.size)) SV underlying184 J J J be al J (al.own_ro (i:=0) J) bg fun bh bi bu an bj bk=>?_
  have ao:=am.wr' an.1 an.2.1 (fun _ _ h=>h)
  refine Ai<|Ar ao<|Ad 16 J d ao<|AD J J<|Bc<|a4<|Aq<|An 2 J ?_
  rw [aj] at c
  exact fun a ha=>a2 a _ u (AB u) ⟨bf,Ah (w+1),bh,bi,ha.sb J,bj,bk.sel [1,2] J,c⟩
  refine Bb<|az ?_
  refine Am 2 J<|Aw<|rt hQ J J<|by cases c; exact ⟨x,t,rfl,ad,ai.sel [1] J⟩
theorem Zz(c:Af)(d:Akg×Akg×Int×List Int)(n:Ac)(aa:RO At c n d.1)(o:Ac)(ab:RO At c o d.2.1)(p:Ac)(ac:RO As c p d.2.2.2)(r:Int)(b:Mk d=some r) :
  A2 145 [.agg #[n,o,iv d.2.2.1,p]] c fun e w'=>e=.returned (iv r)∧Bl c w':=by
 refine cm func145 ntmps145 J fun Q hQ hP hB hS=>?_
 unfold Mk at b
 refine Al fun _ ag=>CV J hB hS fun b2 w3 _ g t=>An 1 J<|ag<|Am 1 J<|Ao fun _ ai=>Al fun _ aj=>AU 0 Bs J t J J<|bB b fun h ak b=>Ds J call196 g t (M3 w3 d n (aa.ro g) o (ab.ro g) p (ac.ro g) _ ak) J fun u al a5 _ _ am v=>BO (v.own_ro (i:=0) J) underlying184 J<|An 1 J<|aj<|A0<|AN (fun m a q=>∃(j l:Int),St 22 [(3,iv j),(7,u),(8,iv (List.length h:Int)),(9,iv l)] a∧Bl c q∧Sp c q [Ab CF al u h]∧GO h m j l=some r) FU ?_ ?_
 exact fun a ha=>⟨0,0,ha.sb J,am,v.sel [0] J,b⟩
 rintro f a q ⟨j,l,ha,w,x,b⟩ a6 an
 refine BC ?_ ha
 cases f with
 | zero=>exact Be b
 | succ f =>
  obtain ⟨a7,y⟩:∃ k,k=GO h f:=⟨_,rfl⟩
  rw [GO,← y] at b
  refine Am 1 J<|Ao fun _ ao=>A3 J b (fun _ b=>?_)<|fun _ b=>?_
  refine Au<|ao ?_
  refine Ao fun _ ap=>A0<|Al fun _ aq=>bB b fun z ar b=>Co (e:=CF) (i:=0) underlying184 J J J x J ar ?_
  rintro a8 _ rfl au a9
  refine BZ C8 J au J<|EE C8 J w x fun ba bb _ av aw=>GC 0 C8 J J av aw J J J fun ax _ ay s=>Ai<|aq<|Aq<|wp 1 J<|Bp Gm J<|AU 0 Bt J s J J<|Bp He J<|AU 0 Bt J s J J<|bB b fun az a0 b=>Bn J call194 ay s (LV ax z.1 z.2.1 _ a0) J fun bc _ a1 a2=>An 2 J<|ap<|Aq<|An 2 J ?_
  rw [y] at b
  exact fun a ha=>an a _ f (AB f) ⟨Ah (j+az),Ah (l+1),ha.sb J,a1,a2.sel [1] J,b⟩
  refine Bb<|ai ?_
  refine Am 2 J<|Aw<|rt hQ J J<|by cases b; exact ⟨rfl,w⟩
theorem UG(c:Af)(b:Akg×Akg×Int×List Int)(f:Ac)(j:RO At c f b.1)(g:Ac)(k:RO At c g b.2.1)(h:Ac)(l:RO As c h b.2.2.2)(r:Int×Bool)(a:Ir b=some r) :
  A2 98 [.agg #[f,g,iv b.2.2.1,h]] c fun e w'=>e=.returned (.tuple #[iv r.1,.bool r.2])∧Bl c w':=by
 refine cm func98 ntmps98 J fun Q m hP o p=>?_
 unfold Ir at a
 refine Al fun _ q=>CV J o p fun b2 s _ i n=>An 2 J<|q<|Ao fun _ t=>Al fun _ u=>AU 0 Bs J n J J<|bB a fun u9 v a=>Bn J call144 i n (OP s b f (j.ro i) g (k.ro i) h (l.ro i) _ v) J fun w _ d x=>An 1 J<|u<|A3 J a (fun _ a=>?_)<|fun _ a=>?_
 refine Am 2 J ?_
 refine Aw<|rt m J J<|by cases a; exact ⟨rfl,d⟩
 refine Au<|t ?_
 refine Al fun _ y=>AU 0 Bs J x J J<|bB a fun af z a=>A7 J call145 (Zz w b f (j.ro d) g (k.ro d) h (l.ro d) _ z) J ?_
 rintro _ ag ⟨rfl,aa⟩
 refine ⟨_,rfl,?_⟩
 have ab:=tm d aa
 refine An 2 J<|y<|Aw<|rt m J J<|by cases a; exact ⟨rfl,ab⟩
theorem XU:∀(m:Nat)(g:Af)(c:Int)(r:List Ag)(b:G7 m c=some r),
  A2 69 [iv c] g fun e w'=>e=.returned (.string (AL r))∧Bl g w':=by
 intro m
 induction m with
 | zero =>
  intro g c r b
  simp [G7] at b
 | succ m ih =>
  intro g c r b
  refine cm func69 ntmps69 J fun Q y d z hS=>?_
  rw [G7] at b
  refine Am 1 J<|Ao fun _ ai=>Am 2 J<|A3 J b (fun _ b=>?_)<|fun _ b=>?_
  refine Al fun _ aj=>?_
  refine wp 2 J<|DR underlying3 underlying5 J J<|AZ (vs:=[.int .u8 (NP (Ah (48+c)))]) (l:=[NP (Ah (48+c))]) RH underlying46 J J J J J J z hS fun v6 F7 w8 _ ak al=>R2 RH underlying46 underlying5 underlying9 J J J (al.own_ro (i:=0) J)<|An 1 J<|aj<|Aw<|rt y J J<|by cases b; exact ⟨rfl,ak⟩
  refine Au<|ai ?_
  refine Ao fun am an=>?_
  obtain ⟨ao,ap,b⟩:=Cb b
  have p:∀(q:List Ag)(j:Af)(_:ao q=some r)(_:Bl g j)(_:Sp g j []),∀ a,St 20 [(2,.string (AL q))] a→am a j:=by
   intro q j b aq bg
   subst ap
   refine an<|Aw<|rt y J J<|by cases b; exact ⟨rfl,aq⟩
  refine AQ B1 [] z hS fun s _ t ab=>?_
  have f:=KeepX.refl s []
  refine Ay 0 J d f<|Ad 1 J d f<|Nx J J J (by decide)<|Ay 3 J d f<|Ad 4 J d f<|Vo J J J (by decide)<|Ad 5 J d f<|Fj J J J<|Ad 6 J d f<|P8 underlying3 underlying5 J J<|CA (is:=[2,7]) (by kernel_rfl) J<|Bj.2 ⟨⟨_,rfl,?_⟩,Bj.2 ⟨⟨_,rfl,?_⟩,fun _ h=>by cases h⟩⟩
  refine bB b fun bh ar b=>?_
  refine Bn J call69 t ab (ih s (Ah (Int.tdiv c 10)) _ ar) J fun au av ac aw=>?_
  have ad:=f.ext av
  refine Ai<|Ar ad<|A1 7 J<|AZ (vs:=[.int .u8 (NP (Ah (48+(Int.tmod c 10))))]) (l:=[NP (Ah (48+(Int.tmod c 10)))]) RH underlying46 J J J J J J (Bk au) (Sep.nil _ _) fun bi bj bk u _ ax=>?_
  have ay:=tm ac u
  have ae:=aw.join u ax ac.size
  have k:=ad.ext u
  refine Ai<|Ar k<|A1 8 J<|R2 RH underlying46 underlying5 underlying9 J J J (ae.own_ro (i:=0) J)<|Ai<|Ar k<|bB b fun az a0 b=>Ad 9 J d k<|FH J J J a0<|Ad 10 J d k<|AD J J<|Bc ?_
  exact jx (p az _ b ay (ae.sel [] J)) J
  refine AZ (vs:=[.int .u8 (NP (Ah (48+(Int.tmod c 10))))]) (l:=[NP (Ah (48+(Int.tmod c 10)))]) RH underlying46 J J J J J J (Bk s) (Sep.nil _ _) fun bl bm af v _ a1=>?_
  have ag:=tm t v
  have w:=ab.join v a1 t.size
  have n:=f.ext v
  refine Ai<|Ar n<|CA (is:=[2,8]) (by kernel_rfl) J<|Bj.2 ⟨⟨_,rfl,?_⟩,Bj.2 ⟨⟨_,rfl,?_⟩,fun _ h=>by cases h⟩⟩
  refine bB b fun bn a2 b=>?_
  refine Bn J call69 ag w (ih af (Ah (Int.tdiv c 10)) _ a2) J fun bo a3 a4 ah=>?_
  have o:=n.ext a3
  refine Ai<|Ar o<|A1 8 J<|R2 RH underlying46 underlying5 underlying9 J J J (ah.own_ro (i:=0) J)<|Ai<|Ar o<|bB b fun a5 a6 b=>Ad 9 J d o<|FH J J J a6<|Ad 10 J d o<|AD J J<|Bc ?_
  exact jx (p a5 _ b a4 (ah.sel [] J)) J
  refine R2 RH underlying46 underlying5 underlying9 J J J (w.own_ro (i:=0) J) ?_
  refine Ai<|Ar n<|A1 2 J<|bB b fun u64 a7 b=>Bn J call69 ag w (ih af (Ah (Int.tdiv c 10)) _ a7) J fun bp a8 a9 ba=>?_
  have x:=n.ext a8
  refine Ai<|Ar x<|bB b fun bb bc b=>Ad 9 J d x<|FH J J J bc<|Ad 10 J d x<|AD J J<|Bc ?_
  exact jx (p bb _ b a9 (ba.sel [] J)) J
theorem Fc(a:Af)(b:Int)(r:List Ag)(c:CL b=some r) :
  A2 69 [iv b] a fun e w'=>e=.returned (.string (AL r))∧Bl a w' :=
 XU FU a b r c
theorem Zv(b:Af)(c:Int)(r:List Ag)(a:NE c=some r) :
  A2 143 [iv c] b fun e w'=>e=.returned (.string (AL r))∧Bl b w':=by
 refine cm func143 ntmps143 J fun Q d q f _=>?_
 unfold NE at a
 refine Am 1 J<|Ao fun _ g=>Am 2 J<|A3 J a (fun _ a=>?_)<|fun _ a=>?_
 refine Al fun _ h=>?_
 refine wp 2 J<|bB a fun s i a=>A7 J call69 (Fc b (Ah (0-c)) _ i) J ?_
 rintro _ t ⟨rfl,j⟩
 refine ⟨_,rfl,?_⟩
 have k:=tm f j
 refine bB a fun u l a=>BA J J J l<|An 1 J<|h<|Aw<|rt d J J<|by cases a; exact ⟨rfl,k⟩
 refine Au<|g ?_
 refine Al fun _ m=>wp 1 J<|bB a fun v n a=>A7 J call69 (Fc b c _ n) J ?_
 rintro _ w ⟨rfl,o⟩
 refine ⟨_,rfl,?_⟩
 have p:=tm f o
 refine An 1 J<|m<|Aw<|rt d J J<|by cases a; exact ⟨rfl,p⟩
theorem KE(b:Af)(c:Int)(d:Bool)(r:List Ag)(a:Ge c d=some r) :
  A2 97 [iv c,.bool d] b fun e w'=>e=.returned (.string (AL r))∧Bl b w':=by
 refine cm func97 ntmps97 J fun Q f m g _=>?_
 unfold Ge at a
 refine Am 1 J<|Ao fun _ h=>Am 2 J<|A3 J a (fun _ a=>?_)<|fun _ a=>?_
 refine Am 1 J ?_
 refine Aw<|rt f J J<|by cases a; exact ⟨rfl,g⟩
 refine Au<|h ?_
 refine Al fun _ i=>wp 1 J<|bB a fun n j a=>A7 J call143 (Zv b c _ j) J ?_
 rintro _ o ⟨rfl,k⟩
 refine ⟨_,rfl,?_⟩
 have l:=tm g k
 refine An 1 J<|i<|Aw<|rt f J J<|by cases a; exact ⟨rfl,l⟩
theorem QN(c:Af)(d:Akg)(j:Ac)(y:RO At c j d)(g:Akg)(n:Ac)(ac:RO At c n g)(f:Int)(r:(Akg×Akg×Int×List Int)×Bool)(b:GY d g f=some r) :
  A2 147 [j,n,iv f] c fun e w'=>∃(q0:Ac)(G0:Ap)(q1:Ac)(G1:Ap)(q2:Ac)(G2:Ap),e=.returned (.tuple #[.agg #[q0,q1,iv r.1.2.2.1,q2],.bool r.2])∧Bl c w'∧Sp c w' [Ab At G0 q0 r.1.1,Ab At G1 q1 r.1.2.1,Ab As G2 q2 r.1.2.2.2]:=by
 refine cm func147 ntmps147 J fun Q hQ hP hB hS=>?_
 unfold GY at b
 refine Al fun _ ax=>EE Bs J hB hS fun b2 w3 _ z az=>An 1 J<|ax<|Ao fun _ a0=>Al fun _ a1=>wp 3 J<|bB b fun u9 a2 b=>Bn J call139 z az (Rv w3 d j (y.ro z) g n (ac.ro z) f _ a2) J fun bw _ ai aj=>An 1 J<|a1<|A3 J b (fun _ b=>?_)<|fun _ b=>?_
 refine Al fun _ a3=>?_
 refine DS (zs:=[.slice none 0 0,.slice none 0 0,iv 0,.slice none 0 0]) (out:=[.slice none 0 0,.slice none 0 0,iv 0,.slice none 0 0]) (vs:=[]) (css:=[]) Bs Rc J J J J J<|GC 0 Bs J J ai aj J J J fun bx _ a4 ak=>An 1 J<|a3<|Aw ?_
 have a5:=ak.push0 (r:=Ab At [] (.slice none 0 0) []) J fun _=>.inl ⟨rfl,rfl,rfl⟩
 have a6:=a5.push0 (r:=Ab At [] (.slice none 0 0) []) J fun _=>.inl ⟨rfl,rfl,rfl⟩
 have a7:=a6.push0 (r:=Ab As [] (.slice none 0 0) []) J fun _=>.inl ⟨rfl,rfl,rfl⟩
 obtain rfl:=Option.some.inj b
 exact JU (vs:=[.agg #[.slice none 0 0,.slice none 0 0,iv 0,.slice none 0 0],.bool false]) hQ J ⟨HL (i:=0) Bs J ak J J J,Kr J,trivial⟩ ⟨.slice none 0 0,[],.slice none 0 0,[],.slice none 0 0,[],rfl,a4,a7.sel [2,1,0] J⟩
 refine Au<|a0 ?_
 refine Am 1 J<|Ao fun _ a8=>Al fun _ a9=>wp 1 J<|BO y underlying26 J<|An 1 J<|a9<|A0<|AN (fun m a q=>∃(s:List Int)(h:Int)(t:Ac)(al:Ap),St 31 [(0,j),(1,n),(2,iv f),(6,.pointer (some ⟨b2,0,none⟩)),(8,t),(17,iv (List.length d:Int)),(18,iv h)] a∧Bl c q∧Sp c q [Av b2 128 [.slice none 0 0,.slice none 0 0,iv 0,.slice none 0 0],Ab As al t s]∧Du d g f m s h=some r) FU ?_ ?_
 have ba:=aj.push0 (r:=Ab As [] (.slice none 0 0) []) J fun _=>.inl ⟨rfl,rfl,rfl⟩
 exact fun a ha=>⟨[],0,.slice none 0 0,[],ha.sb J,ai,ba.sel [1,0] J,b⟩
 rintro o a q ⟨s,h,t,al,ha,p,aa,b⟩ bz bb
 refine BC ?_ ha
 cases o with
 | zero=>exact Be b
 | succ o =>
  obtain ⟨b0,am⟩:∃ k,k=Du d g f o:=⟨_,rfl⟩
  rw [Du,← am] at b
  refine Am 1 J<|Ao fun _ bc=>A3 J b (fun _ b=>?_)<|fun _ b=>?_
  refine Au<|bc ?_
  refine Ao fun _ bd=>A0<|Am 2 J<|Aq<|wp 2 J<|AZ (vs:=[iv h]) (l:=[h]) Cl underlying36 J J J J J J p aa fun b1 b3 be _ bf an=>bB b fun bg bh b=>AE (i:=2) (S:=(·<be.heap.size)) Cl underlying36 J J J bf an J (an.own_ro (i:=0) J) bh fun bi bj b4 _ bk bl=>An 1 J<|bd<|Aq<|An 2 J ?_
  rw [am] at b
  exact fun a ha=>bb a _ o (AB o) ⟨bg,Ah (h+1),bi,bj,ha.sb J,bk,bl.sel [1,2] J,b⟩
  refine Bb<|a8 ?_
  refine Al fun _ bm=>wp 4 J<|bB b fun ab bn b=>A7 J call142 (OO q d j (y.ro p) g n (ac.ro p) f s t (aa.own_ro (i:=1) J) _ bn) J ?_
  rintro _ b5 ⟨u,bo,v,bp,w,bq,rfl,ao,br⟩
  refine ⟨_,rfl,?_⟩
  have bs:=tm p ao
  have x:=aa.join ao br p.size
  refine BG (i:=3) (vs:=[u,v,iv ab.2.2.1,w]) (cs':=[u,v,iv ab.2.2.1,w]) Bs J J J J bs x J J ⟨(x.own_ro (i:=0) J).one,(x.own_ro (i:=1) J).one,rfl,(x.own_ro (i:=2) J).one,trivial⟩ J fun b6 _ bt ap=>An 1 J<|bm<|Aw ?_
  obtain rfl:=Option.some.inj b
  exact JU (vs:=[.agg #[u,v,iv ab.2.2.1,w],.bool true]) hQ J ⟨HL (i:=3) Bs J ap J J J,Kr J,trivial⟩ ⟨u,bo,v,bp,w,bq,rfl,bt,ap.sel [0,1,2] J⟩
theorem M4(f:Af)(c:Akg×Akg×Int×Akg×Akh×Akj×(List Int)×(List Int)×Int)(x:Addr)(t:Ac)(al:RO At f t c.1)(u:Ac)(am:RO At f u c.2.1)(y:Ac)(a6:RO BN f y c.2.2.2.1)(z:Ac)(a7:RO A4 f z c.2.2.2.2.1)(aa:Ac)(a8:RO Cg f aa c.2.2.2.2.2.1)(ab:Ac)(a9:RO As f ab c.2.2.2.2.2.2.1)(ac:Ac)(ba:RO As f ac c.2.2.2.2.2.2.2.1)(v:EAt (·<f.heap.size) f x [t,u,iv c.2.2.1,y,z,aa,ab,ac,iv c.2.2.2.2.2.2.2.2])(r:(Akg×Akg×Int×List Int)×Bool)(j:Fp c=some r) :
  A2 100 [.pointer (some x)] f fun e w'=>∃(q0:Ac)(G0:Ap)(q1:Ac)(G1:Ap)(q2:Ac)(G2:Ap),e=.returned (.tuple #[.agg #[q0,q1,iv r.1.2.2.1,q2],.bool r.2])∧Bl f w'∧Sp f w' [Ab At G0 q0 r.1.1,Ab At G1 q1 r.1.2.1,Ab As G2 q2 r.1.2.2.2]:=by
 refine cm func100 ntmps100 J fun Q hQ a hB hS=>?_
 unfold Fp at j
 refine Al fun _ av=>EE Bs J hB hS fun b2 w3 _ aw ax=>An 1 J<|av<|Ao fun _ ay=>AQ B1 [b2] aw ax fun w8 _ g k=>?_
 have d:=KeepX.refl w8 [b2]
 refine Ay 0 J a d<|Ad 1 J a d<|B0 J J<|Ad 2 J a d<|CI (o:=1) W2 J J<|Ad 3 J a d<|BR Cs J (EAt.addk (v.kx g (fun b hb=>(((k.get (i:=0) J).2.1 b hb).1))) 1) J<|Ay 4 J a d<|Ad 5 J a d<|B0 J J<|Ad 6 J a d<|CI (o:=0) J4 J J<|Ad 7 J a d<|BR Cs J (EAt.addk (v.kx g (fun b hb=>(((k.get (i:=0) J).2.1 b hb).1))) 0) J<|Ay 8 J a d<|Ad 9 J a d<|B0 J J<|Ad 10 J a d<|CI (o:=2) W1 J J<|Ad 11 J a d<|BR A9 J (EAt.addk (v.kx g (fun b hb=>(((k.get (i:=0) J).2.1 b hb).1))) 2) J<|A1 12 J<|bB j fun l az j=>A7 J call147 (QN w8 c.2.1 u (am.ro g) c.1 t (al.ro g) c.2.2.1 _ az) J ?_
 rintro _ bc ⟨m,a0,n,a1,p,a2,rfl,w,a3⟩
 refine ⟨_,rfl,?_⟩
 have a4:=tm g w
 have q:=k.join w a3 g.size
 have s:=d.ext w
 refine Ai<|Ar s<|Ad 13 J a s<|Ba J J J<|Ad 14 J a s<|Ba J J J<|A1 15 J<|BG (i:=3) (vs:=[m,n,iv l.1.2.2.1,p]) (cs':=[m,n,iv l.1.2.2.1,p]) Bs J J J J a4 q J J ⟨(q.own_ro (i:=0) J).one,(q.own_ro (i:=1) J).one,rfl,(q.own_ro (i:=2) J).one,trivial⟩ J fun bd ai a5 aj=>?_
 have ak:=s.wr' ai.1 ai.2.1 (fun _ _ h=>h)
 refine Ai<|Ar ak<|Ad 16 J a ak<|AD J J<|Bc<|ay<|Aw ?_
 obtain rfl:=Option.some.inj j
 exact JU (vs:=[.agg #[m,n,iv l.1.2.2.1,p],.bool l.2]) hQ J ⟨HL (i:=3) Bs J aj J J J,Kr J,trivial⟩ ⟨m,a0,n,a1,p,a2,rfl,a5,aj.sel [0,1,2] J⟩
theorem OU(b:Af)(c:Int)(r:Bool)(a:HP c=some r) :
  A2 149 [iv c] b fun e w'=>e=.returned (.bool r)∧Bl b w':=by
 refine cm func149 ntmps149 J fun Q d k f _=>?_
 unfold HP at a
 refine Am 1 J<|Al fun _ g=>wp 1 J<|bB a fun l h a=>A7 J call77 (Cr b c 0 80 _ h) J ?_
 rintro _ m ⟨rfl,i⟩
 refine ⟨_,rfl,?_⟩
 have j:=tm f i
 refine An 1 J<|g<|Aw<|rt d J J<|by cases a; exact ⟨rfl,j⟩
theorem WR(d:Af)(f:Akg×Akg×Int×List Int)(i:Ac)(s:RO At d i f.1)(j:Ac)(t:RO At d j f.2.1)(k:Ac)(u:RO As d k f.2.2.2)(l:Int)(r:Bool)(b:Mx f l=some r) :
  A2 197 [.agg #[i,j,iv f.2.2.1,k],iv l] d fun e w'=>e=.returned (.bool r)∧Bl d w':=by
 refine cm func197 ntmps197 J fun Q v hP w x=>?_
 unfold Mx at b
 refine Al fun _ y=>CV J w x fun b2 z _ g n=>An 1 J<|y<|Ao fun K7 ab=>?_
 obtain ⟨ac,ad,b⟩:=Cb b
 have o:∀(m:Bool)(h:Af)(_:ac m=some r)(_:Bl d h)(_:Sp d h []),∀ a,St 11 [(4,.bool m)] a→K7 a h:=by
  intro m h b ae ao
  subst ad
  refine ab<|Aw<|rt v J J<|by cases b; exact ⟨rfl,ae⟩
 refine Aq<|AU 0 Bs J n J J<|bB b fun af ag b=>Bn J call144 g n (OP z f i (s.ro g) j (t.ro g) k (u.ro g) _ ag) J fun ah _ p q=>wp 1 J ?_
 rcases bE af with c|c
 replace b:=Bw c b
 refine wn J c<|wp 1 J<|wn J c<|bB b fun ai aj b=>Bn J call149 p q (OU ah l _ aj) J fun ap _ ak al=>A8 J J c J<|An 1 J ?_
 exact jx (o ai _ b ak (al.sel [] J)) J
 replace b:=BI c b
 refine wo J c<|wo J c<|Ak J J c J<|An 1 J ?_
 exact jx (o false _ b p (q.sel [] J)) J
theorem Sk(g:Af)(d f:Aki)(r:Int×Int×Int×Int)(h:LA d f=some r) :
  A2 268 [.agg #[iv d.1.1,iv d.1.2,iv d.2.1.1,iv d.2.1.2,iv d.2.2],.agg #[iv f.1.1,iv f.1.2,iv f.2.1.1,iv f.2.1.2,iv f.2.2]] g fun e w'=>e=.returned (.tuple #[iv r.1,iv r.2.1,iv r.2.2.1,iv r.2.2.2])∧Bl g w':=by
 refine cm func268 ntmps268 J fun Q i a j k=>?_
 unfold LA at h
 refine Al fun _ l=>CV J j k fun u v _ m n=>CV J m n fun w x _ o p=>An 4 J<|l<|Ao fun _ q=>AQ B1 [] o p fun s _ t c=>?_
 have b:=KeepX.refl s []
 refine Ad 0 J a b<|C7 Gm J<|Ad 1 J a b<|C7 CY J<|Ad 2 J a b<|CN 1 A9 J c J (by simp)<|Ad 3 J a b<|C7 Gm J<|Ad 4 J a b<|C7 CY J<|Ad 5 J a b<|CN 0 A9 J c J (by simp)<|Ad 6 J a b<|H6 J J J<|Ad 7 J a b<|C7 Gm J<|Ad 8 J a b<|C7 CX J<|Ad 9 J a b<|CN 1 A9 J c J (by simp)<|Ad 10 J a b<|C7 Gm J<|Ad 11 J a b<|C7 CX J<|Ad 12 J a b<|CN 0 A9 J c J (by simp)<|Ad 13 J a b<|H6 J J J<|Ad 14 J a b<|C7 He J<|Ad 15 J a b<|C7 CY J<|Ad 16 J a b<|CN 1 A9 J c J (by simp)<|Ad 17 J a b<|C7 He J<|Ad 18 J a b<|C7 CY J<|Ad 19 J a b<|CN 0 A9 J c J (by simp)<|Ad 20 J a b<|H6 J J J<|Ad 21 J a b<|C7 He J<|Ad 22 J a b<|C7 CX J<|Ad 23 J a b<|CN 1 A9 J c J (by simp)<|Ad 24 J a b<|C7 He J<|Ad 25 J a b<|C7 CX J<|Ad 26 J a b<|CN 0 A9 J c J (by simp)<|Ad 27 J a b<|H6 J J J<|Ad 28 J a b<|AD J J<|Ad 29 J a b<|AD J J<|Ad 30 J a b<|AD J J<|Ad 31 J a b<|AD J J<|Bc<|q<|Aw<|rt i J J<|by cases h; exact ⟨rfl,t⟩
theorem WV(h:Af)(f g:Aki)(r:Int×Int)(c:Mz f g=some r) :
  A2 269 [.agg #[iv f.1.1,iv f.1.2,iv f.2.1.1,iv f.2.1.2,iv f.2.2],.agg #[iv g.1.1,iv g.1.2,iv g.2.1.1,iv g.2.1.2,iv g.2.2]] h fun e w'=>e=.returned (.tuple #[iv r.1,iv r.2])∧Bl h w':=by
 refine cm func269 ntmps269 J fun Q l hP q s=>?_
 unfold Mz at c
 refine Al fun _ t=>CV J q s fun b2 w3 _ u v=>CV J u v fun b7 w _ x j=>An 2 J<|t<|Al fun _ y=>AU 1 C8 J j J J<|AU 0 C8 J j J J<|bB c fun b z c=>Bn J call268 x j (Sk w f g _ z) J fun aj _ m n=>An 9 J<|y<|Am 8 J<|Am 17 J<|Ao fun _ aa=>Ao fun ab ac=>?_
 obtain ⟨ad,ae,c⟩:=Cb c
 have o:∀(k:Bool)(i:Af)(_:ad k=some r)(_:Bl h i)(_:Sp h i []),∀ a,St 52 [(12,iv (Ah (0-(Ah ((Ah (b.1*(Ah (b.2.2.1-b.1))))+(Ah (b.2.1*(Ah (b.2.2.2-b.2.1))))))))),(13,iv (Ah ((Ah ((Ah (b.2.2.1-b.1))*(Ah (b.2.2.1-b.1))))+(Ah ((Ah (b.2.2.2-b.2.1))*(Ah (b.2.2.2-b.2.1))))))),(49,.bool k)] a→ab a i:=by
  intro k i c p ak
  subst ae
  refine ac<|A3 J c (fun _ c=>?_)<|fun _ c=>?_
  refine Am 2 J ?_
  refine Aw<|rt l J J<|by cases c; exact ⟨rfl,p⟩
  refine Au<|aa ?_
  refine Am 4 J<|Aw<|rt l J J<|by cases c; exact ⟨rfl,p⟩
 refine Aq<|wp 3 J ?_
 rcases bE (decide ((Ah (0-(Ah ((Ah (b.1*(Ah (b.2.2.1-b.1))))+(Ah (b.2.1*(Ah (b.2.2.2-b.2.1))))))))≤0)) with d|d
 replace c:=Bw d c
 refine wo J d<|wo J d<|wo J d<|A8 J J d J<|Ai ?_
 exact jx (o true _ c m (n.sel [] J)) J
 replace c:=BI d c
 refine wn J d<|wp 1 J<|wn J d<|wp 1 J<|wn J d<|wp 1 J<|Ak J J d J<|Ai ?_
 exact jx (o (decide ((Ah ((Ah ((Ah (b.2.2.1-b.1))*(Ah (b.2.2.1-b.1))))+(Ah ((Ah (b.2.2.2-b.2.1))*(Ah (b.2.2.2-b.2.1))))))≤(Ah (0-(Ah ((Ah (b.1*(Ah (b.2.2.1-b.1))))+(Ah (b.2.1*(Ah (b.2.2.2-b.2.1)))))))))) _ c m (n.sel [] J)) J
theorem OL(b:Af)(c d r:Int)(a:HY c d=some r) :
  A2 246 [iv c,iv d] b fun e w'=>e=.returned (iv r)∧Bl b w':=by
 refine cm func246 ntmps246 J fun Q f i g _=>?_
 unfold HY at a
 refine Am 1 J<|Ao fun _ h=>Am 3 J<|A3 J a (fun _ a=>?_)<|fun _ a=>?_
 refine Am 2 J ?_
 refine Aw<|rt f J J<|by cases a; exact ⟨rfl,g⟩
 refine Au<|h ?_
 refine Am 2 J<|Aw<|rt f J J<|by cases a; exact ⟨rfl,g⟩
theorem Zx(c:Af)(a r:Int)(b:NF a=some r) :
  A2 271 [iv a] c fun e w'=>e=.returned (iv r)∧Bl c w':=by
 refine cm func271 ntmps271 J fun Q d k f _=>?_
 unfold NF at b
 refine Am 1 J<|Al fun _ g=>wp 3 J<|bB b fun l h b=>A7 J call246 (OL c a (Ah (0-a)) _ h) J ?_
 rintro _ m ⟨rfl,i⟩
 refine ⟨_,rfl,?_⟩
 have j:=tm f i
 refine An 1 J<|g<|Aw<|rt d J J<|by cases b; exact ⟨rfl,j⟩
theorem Se(j:Af)(f g:Int)(r:Int×Int)(b:Ke f g=some r) :
  A2 250 [iv f,iv g] j fun e w'=>e=.returned (.tuple #[iv r.1,iv r.2])∧Bl j w':=by
 refine cm func250 ntmps250 J fun Q v c w x=>?_
 unfold Ke at b
 refine Am 2 J<|Al fun _ y=>wp 1 J<|bB b fun z aa b=>Bn J call271 w x (Zx j f _ aa) J fun w4 _ ab ac=>An 3 J<|y<|Ao fun _ ad=>A0<|AN (fun m a q=>∃(h i:Int),St 25 [(0,iv f),(1,iv g),(6,iv h),(7,iv i)] a∧Bl j q∧Sp j q []∧Hh f g m h i=some r) FU ?_ ?_
 exact fun a ha=>⟨z,g,ha.sb J,ab,ac.sel [] J,b⟩
 rintro l a q ⟨h,i,ha,s,t,b⟩ al ae
 refine BC ?_ ha
 cases l with
 | zero=>exact Be b
 | succ l =>
  obtain ⟨am,u⟩:∃ k,k=Hh f g l:=⟨_,rfl⟩
  rw [Hh,← u] at b
  refine Ao fun _ af=>Am 2 J<|A3 J b (fun _ b=>?_)<|fun _ b=>?_
  refine Au<|af ?_
  refine A0<|Al fun _ ag=>wp 2 J ?_
  have n:i≠0:=fun n=>Be (Bw n b)
  replace b:=Md n b
  refine QR J J J n<|An 1 J<|ag<|Am 2 J<|Aq<|An 2 J ?_
  rw [u] at b
  exact fun a ha=>ae a _ l (AB l) ⟨i,Int.tmod h i,ha.sb J,s,t.sel [] J,b⟩
  refine Bb<|ad ?_
  refine Ao fun _ ah=>AQ B1 [] s t fun ai _ aj _=>?_
  have d:=KeepX.refl ai []
  refine Ay 0 J c d<|Ay 1 J c d ?_
  have o:h≠0:=fun o=>Be (Bw o b)
  replace b:=Md o b
  refine Ad 2 J c d<|Nx J J J o<|Ay 3 J c d<|Ay 4 J c d ?_
  have p:h≠0:=fun p=>Be (Bw p b)
  replace b:=Md p b
  refine Ad 5 J c d<|Nx J J J p<|Ad 6 J c d<|AD J J<|Ad 7 J c d<|AD J J<|Bc<|ah<|Aw<|rt v J J<|by cases b; exact ⟨rfl,aj⟩
theorem WU(g:Af)(c d:Aki)(r:Int×Int)(b:Le c d=some r) :
  A2 245 [.agg #[iv c.1.1,iv c.1.2,iv c.2.1.1,iv c.2.1.2,iv c.2.2],.agg #[iv d.1.1,iv d.1.2,iv d.2.1.1,iv d.2.1.2,iv d.2.2]] g fun e w'=>e=.returned (.tuple #[iv r.1,iv r.2])∧Bl g w':=by
 refine cm func245 ntmps245 J fun Q h hP l m=>?_
 unfold Le at b
 refine Al fun _ n=>CV J l m fun b2 w3 _ o p=>CV J o p fun b7 q _ s f=>An 2 J<|n<|Al fun _ t=>AU 1 C8 J f J J<|AU 0 C8 J f J J<|bB b fun a u b=>Bn J call268 s f (Sk q c d _ u) J fun v _ w i=>An 9 J<|t<|Ao fun _ x=>Al fun _ y=>AU 1 C8 J i J J<|AU 0 C8 J i J J<|bB b fun z aa b=>A7 J call269 (WV v c d _ aa) J ?_
 rintro _ j ⟨rfl,ab⟩
 refine ⟨_,rfl,?_⟩
 have k:=tm w ab
 refine An 5 J<|y<|Am 2 J<|A3 J b (fun _ b=>?_)<|fun _ b=>?_
 refine Am 8 J ?_
 refine Al fun _ ac=>wp 4 J<|bB b fun ao ad b=>A7 J call250 (Se j (Ah ((Ah ((Ah (a.1*a.2.2.2))-(Ah (a.2.1*a.2.2.1))))*(Ah ((Ah (a.1*a.2.2.2))-(Ah (a.2.1*a.2.2.1)))))) z.2 _ ad) J ?_
 rintro _ ap ⟨rfl,ae⟩
 refine ⟨_,rfl,?_⟩
 have af:=tm k ae
 refine An 4 J<|ac<|Aw<|rt h J J<|by cases b; exact ⟨rfl,af⟩
 refine Au<|x ?_
 refine Al fun _ ag=>wp 14 J<|bB b fun aq ah b=>A7 J call225 (Hw j (Ah ((Ah (a.1*a.1))+(Ah (a.2.1*a.2.1)))) (Ah ((Ah (a.2.2.1*a.2.2.1))+(Ah (a.2.2.2*a.2.2.2)))) _ ah) J ?_
 rintro _ ar ⟨rfl,ai⟩
 refine ⟨_,rfl,?_⟩
 have aj:=tm k ai
 refine An 2 J<|ag<|Aw<|rt h J J<|by cases b; exact ⟨rfl,aj⟩
theorem XP(d:Af)(a b:Aki)(f:Int)(r:Bool)(c:L8 a b f=some r) :
  A2 227 [.agg #[iv a.1.1,iv a.1.2,iv a.2.1.1,iv a.2.1.2,iv a.2.2],.agg #[iv b.1.1,iv b.1.2,iv b.2.1.1,iv b.2.1.2,iv b.2.2],iv f] d fun e w'=>e=.returned (.bool r)∧Bl d w':=by
 refine cm func227 ntmps227 J fun Q h u i j=>?_
 unfold L8 at c
 refine Al fun _ k=>CV J i j fun v w _ l m=>CV J l m fun x n _ o g=>An 1 J<|k<|Al fun _ p=>AU 1 C8 J g J J<|AU 0 C8 J g J J<|bB c fun y q c=>A7 J call245 (WU n a b _ q) J ?_
 rintro _ z ⟨rfl,s⟩
 refine ⟨_,rfl,?_⟩
 have t:=tm o s
 refine An 5 J<|p<|Am 8 J<|Aw<|rt h J J<|by cases c; exact ⟨rfl,t⟩
theorem WQ(f:Af)(p:Akg×Akg×Int×List Int)(ae:Ac)(a5:RO At f ae p.1)(af:Ac)(a6:RO At f af p.2.1)(ag:Ac)(a7:RO As f ag p.2.2.2)(g:Int)(r:Akl)(b:Lc p g=some r) :
  A2 198 [.agg #[ae,af,iv p.2.2.1,ag],iv g] f fun e w'=>∃(q0:Ac)(G0:Ap),e=.returned q0∧Bl f w'∧Sp f w' [Ab Ct G0 q0 r]:=by
 refine cm func198 ntmps198 J fun Q hQ n hB hS=>?_
 unfold Lc at b
 refine Al fun _ bc=>CV J hB hS fun b2 w3 _ w ap=>An 1 J<|bc<|Al fun _ be=>AU 0 Bs J ap J J<|bB b fun u8 bf b=>Ds J call196 w ap (M3 w3 p ae (a5.ro w) af (a6.ro w) ag (a7.ro w) _ bf) J fun h ah cr _ _ bg aq=>An 1 J<|be<|Am 1 J<|Ao fun _ bh=>Al fun _ bi=>wp 1 J<|BO (aq.own_ro (i:=0) J) underlying184 J<|An 1 J<|bi<|A0<|AN (fun m a ai=>∃(x:Akl)(c:Int)(q:Ac)(y:Ap),St 43 [(1,iv g),(5,h),(6,q),(12,h),(13,iv (List.length u8:Int)),(14,iv c)] a∧Bl f ai∧Sp f ai [Ab CF ah h u8,Ab Ct y q x]∧FR u8 g m x c=some r) FU ?_ ?_
 have bj:=aq.push0 (r:=Ab Ct [] (.slice none 0 0) []) J fun _=>.inl ⟨rfl,rfl,rfl⟩
 exact fun a ha=>⟨[],0,.slice none 0 0,[],ha.sb J,bg,bj.sel [1,0] J,b⟩
 rintro s a ai ⟨x,c,q,y,ha,ar,aj,b⟩ cs bk
 refine BC ?_ ha
 cases s with
 | zero=>exact Be b
 | succ s =>
  obtain ⟨au,av⟩:∃ k,k=FR u8 g s:=⟨_,rfl⟩
  rw [FR,← av] at b
  refine Am 1 J<|Ao fun _ bl=>A3 J b (fun _ b=>?_)<|fun _ b=>?_
  refine Au<|bl ?_
  refine Ao fun _ bm=>A0<|Al fun _ bn=>wp 1 J<|bB b fun d bo b=>Co (e:=CF) (i:=0) underlying184 J J J aj J bo ?_
  rintro ct _ rfl bp cu
  refine BZ C8 J bp J<|EE C8 J ar aj fun z cv _ bq br=>wp 1 J<|GC 0 C8 J J bq br J J J fun cw _ bs bt=>Ai<|bn<|Am 3 J<|A0<|AN (fun m a ak=>∃(t:Akl)(j:Int)(u:Ac)(aa:Ap),St 43 [(1,iv g),(5,h),(6,u),(7,iv c),(8,.pointer (some ⟨z,0,none⟩)),(9,iv j),(12,h),(13,iv (List.length u8:Int)),(14,iv c)] a∧Bl f ak∧Sp f ak [Ab CF ah h u8,Ab Ct aa u t,Av z 187 [iv d.1.1,iv d.1.2,iv d.2.1.1,iv d.2.1.2,iv d.2.2]]∧FQ u8 d g c au m t j=some r) FU ?_ ?_
  exact fun a ha=>⟨x,Ah (c+1),q,y,ha.sb J,bs,bt.sel [1,2,0] J,b⟩
  rintro v a ak ⟨t,j,u,aa,ha,aw,al,b⟩ cx bu
  refine BC ?_ ha
  cases v with
  | zero=>exact Be b
  | succ v =>
   obtain ⟨cy,ax⟩:∃ k,k=FQ u8 d g c au v:=⟨_,rfl⟩
   rw [FQ,← ax] at b
   refine Ao fun _ bv=>Al fun _ bw=>wp 2 J<|BO (al.own_ro (i:=0) J) underlying184 J<|An 1 J<|bw<|A3 J b (fun _ b=>?_)<|fun _ b=>?_
   refine Au<|bv ?_
   refine Ao fun bx bz=>?_
   obtain ⟨b0,b1,b⟩:=Cb b
   have ay:∀(ab:Akl)(ac:Ac)(am:Ap)(ad:Af)(_:b0 ab=some r)(_:Bl f ad)(_:Sp f ad [Ab CF ah h u8,Ab Ct am ac ab,Av z 187 [iv d.1.1,iv d.1.2,iv d.2.1.1,iv d.2.1.2,iv d.2.2]]),∀ a,St 43 [(1,iv g),(5,h),(6,ac),(7,iv c),(8,.pointer (some ⟨z,0,none⟩)),(9,iv j),(12,h),(13,iv (List.length u8:Int)),(14,iv c)] a→bx a ad:=by
    intro ab ac am ad b b3 b4
    subst b1
    refine bz<|Aq<|An 3 J ?_
    rw [ax] at b
    exact fun a ha=>bu a _ v (AB v) ⟨ab,Ah (j+1),ac,am,ha.sb J,b3,b4.sel [0,1,2] J,b⟩
   refine A0<|Ao fun _ b5=>AQ B1 [] aw al fun az _ b6 an=>?_
   have o:=KeepX.refl az []
   refine Ad 0 J n o<|CN 2 C8 J an J (by simp)<|Ay 1 J n o<|Ay 2 J n o<|bB b fun b7 b8 b=>Ad 3 J n o<|Bx (e:=CF) (i:=0) underlying184 J J J an J b8 ?_
   rintro cz _ rfl b9 c0
   refine Ad 4 J n o<|BR C8 J (b9.kx0) J<|Ay 5 J n o<|A1 6 J<|bB b fun c1 ca b=>Bn J call227 b6 an (XP az d b7 g _ ca) J fun c2 cb a0 a1=>?_
   have a2:=o.ext cb
   refine Ai<|Ar a2<|Ad 7 J n a2<|LZ J J<|Bc<|b5<|A3 J b (fun _ b=>?_)<|fun _ b=>?_
   refine Aq ?_
   refine wp 3 J<|AZ (vs:=[iv c,iv j]) (l:=[c,j]) Cl underlying36 J J J J J J a0 a1 fun a3 cc c3 _ cd a4=>?_
   have ce:=a4.sel [0,1,2,3] J
   have cf:=ce.head (r':=RP Ct cc [a3] [c,j]) (rfl) fun _ h0=>⟨_,rfl,h0⟩
   refine Pn (e:=Ct) (vs:=[a3]) underlying155 J J (Ch (a4.own_ro (i:=0) J).one) J cd cf fun c4 c5 c6 _ _ ch ci=>bB b fun cj ck b=>Mq (e:=Ct) underlying155 J J J ch (ci.sel [2,0,1,3] J) ck fun cl cn c7 _ co cp=>An 1 J ?_
   exact jx (ay cj cl cn _ b co (cp.sel [1,0,2] J)) J
   refine Au ?_
   exact jx (ay t u aa _ b a0 (a1.sel [0,1,2] J)) J
   refine Bb<|bm ?_
   refine Aq<|An 2 J ?_
   rw [av] at b
   exact fun a ha=>bk a _ s (AB s) ⟨t,Ah (c+1),u,aa,ha.sb J,aw,al.sel [0,1] J,b⟩
  refine Bb<|bh ?_
  refine Am 2 J<|Aw<|rt hQ J J<|by cases b; exact ⟨q,y,rfl,ar,aj.sel [1] J⟩
theorem RS(c:Af)(b:Akg×Akg×Int×List Int)(f:Ac)(l:RO At c f b.1)(g:Ac)(m:RO At c g b.2.1)(h:Ac)(n:RO As c h b.2.2.2)(i:Int)(r:Akl×Bool)(a:HD b i=some r) :
  A2 146 [.agg #[f,g,iv b.2.2.1,h],iv i] c fun e w'=>∃(o:Ac)(s:Ap),e=.returned (.tuple #[o,.bool r.2])∧Bl c w'∧Sp c w' [Ab Ct s o r.1]:=by
 refine cm func146 ntmps146 J fun Q p hP t u=>?_
 unfold HD at a
 refine Al fun _ v=>CV J t u fun b2 w _ j q=>An 2 J<|v<|Ao fun _ x=>Al fun _ y=>AU 0 Bs J q J J<|wp 1 J<|bB a fun u9 z a=>Bn J call197 j q (WR w b f (l.ro j) g (m.ro j) h (n.ro j) i _ z) J fun aa _ d k=>An 1 J<|y<|A3 J a (fun _ a=>?_)<|fun _ a=>?_
 refine Am 2 J ?_
 refine Aw ?_
 have ab:=k.push0 (r:=Ab Ct [] (.slice none 0 0) []) J fun _=>.inl ⟨rfl,rfl,rfl⟩
 refine rt p J J<|by cases a; exact ⟨.slice none 0 0,[],rfl,d,ab.sel [0] J⟩
 refine Au<|x ?_
 refine Al fun _ ac=>AU 0 Bs J k J J<|wp 1 J<|bB a fun al ad a=>Ds J call198 d k (WQ aa b f (l.ro d) g (m.ro d) h (n.ro d) i _ ad) J fun ae af am _ _ ag ah=>An 2 J<|ac<|Aw<|rt p J J<|by cases a; exact ⟨ae,af,rfl,ag,ah.sel [0] J⟩
theorem Qa(d:Af)(f:Akg×Akg×Int×Akg×Akh×Akj×(List Int)×(List Int)×Int)(p0:Addr)(ae:Ac)(bc:RO At d ae f.1)(af:Ac)(bd:RO At d af f.2.1)(ag:Ac)(be:RO BN d ag f.2.2.2.1)(ah:Ac)(bf:RO A4 d ah f.2.2.2.2.1)(ai:Ac)(bg:RO Cg d ai f.2.2.2.2.2.1)(aj:Ac)(bh:RO As d aj f.2.2.2.2.2.2.1)(ak:Ac)(bi:RO As d ak f.2.2.2.2.2.2.2.1)(bj:EAt (·<d.heap.size) d p0 [ae,af,iv f.2.2.1,ag,ah,ai,aj,ak,iv f.2.2.2.2.2.2.2.2])(x1:Int)(r:List Ag)(c:Ia f x1=some r) :
  A2 99 [.pointer (some p0),iv x1] d fun e w'=>e=.returned (.string (AL r))∧Bl d w':=by
 refine cm func99 ntmps99 J fun Q hQ g h hS=>?_
 unfold Ia at c
 refine Am 1 J<|Al fun _ bl=>wp 1 J<|bB c fun v bm c=>A7 J call100 (M4 d f p0 ae (bc.ro h) af (bd.ro h) ag (be.ro h) ah (bf.ro h) ai (bg.ro h) aj (bh.ro h) ak (bi.ro h) (bj.ro h) _ bm) J ?_
 rintro _ c4 ⟨v4,F5,v6,F7,v8,F9,rfl,ax,bn⟩
 refine ⟨_,rfl,?_⟩
 have bo:=tm h ax
 have bp:=hS.join ax bn h.size
 refine wp 3 J<|EE Bs J bo bp fun c8 c9 _ bq w=>BG (i:=0) (vs:=[v4,v6,iv v.1.2.2.1,v8]) (cs':=[v4,v6,iv v.1.2.2.1,v8]) Bs J J J J bq w J J ⟨(w.own_ro (i:=1) J).one,(w.own_ro (i:=2) J).one,rfl,(w.own_ro (i:=3) J).one,trivial⟩ J fun br _ bs q=>An 1 J<|bl<|Al fun _ bt=>AU 0 Bs J q J J<|wp 1 J<|bB c fun l bu c=>Ds J call146 bs q (RS br v.1 v4 (q.own_ro (i:=1) J) v6 (q.own_ro (i:=2) J) v8 (q.own_ro (i:=3) J) x1 _ bu) J fun p x da _ _ ay az=>An 5 J<|bt<|Ao fun _ bv=>Ao fun bw bx=>?_
 obtain ⟨bz,b0,c⟩:=Cb c
 have a0:∀(aq:Bool)(y:Af)(_:bz aq=some r)(_:Bl d y)(_:Sp d y [Ab Ct x p l.1]),∀ a,St 56 [(7,p),(28,.bool aq)] a→bw a y:=by
  intro aq y c a1 a2
  subst b0
  refine bx<|A3 J c (fun _ c=>?_)<|fun _ c=>?_
  refine Am 1 J ?_
  refine Aw<|rt hQ J J<|by cases c; exact ⟨rfl,a1⟩
  refine Au<|bv ?_
  refine Am 1 J<|Ao fun _ b1=>Al fun _ b2=>wp 1 J<|BO (a2.own_ro (i:=0) J) underlying155 J<|An 1 J<|b2<|A0<|AN (fun m a ar=>∃(z:List Ag)(s:Int),St 56 [(9,.string (AL z)),(29,p),(30,iv (List.length l.1:Int)),(31,iv s)] a∧Bl d ar∧Sp d ar [Ab Ct x p l.1]∧Dd l m z s=some r) FU ?_ ?_
  exact fun a ha=>⟨[],0,ha.sb J,a1,a2.sel [0] J,c⟩
  rintro t a ar ⟨z,s,ha,aa,au,c⟩ db b3
  refine BC ?_ ha
  cases t with
  | zero=>exact Be c
  | succ t =>
   obtain ⟨dc,a3⟩:∃ k,k=Dd l t:=⟨_,rfl⟩
   rw [Dd,← a3] at c
   refine Am 1 J<|Ao fun _ b4=>A3 J c (fun _ c=>?_)<|fun _ c=>?_
   refine Au<|b4 ?_
   refine Ao fun _ b5=>A0<|Al fun _ b6=>wp 1 J<|bB c fun b7 b8 c=>I3 (e:=Ct) (i:=0) underlying155 J J J au J b8 ?_
   rintro dd _ ⟨a4,rfl,a5⟩ b9 de
   refine BZ FA J b9 J<|An 2 J<|b6<|Ao fun ca cb=>?_
   obtain ⟨cc,cd,c⟩:=Cb c
   have a6:∀(av:List Ag)(u:Af)(o:rdS As (· ∈ x) u a4 b7)(_:cc av=some r)(_:Bl d u)(_:Sp d u [Ab Ct x p l.1]),∀ a,St 56 [(9,.string (AL av)),(11,a4),(29,p),(30,iv (List.length l.1:Int)),(31,iv s)] a→ca a u:=by
    intro av u o c ce a7
    subst cd
    refine cb<|AQ B1 [] ce a7 fun a8 cf cg ab=>?_
    have o:=o.keep (fun b hb=>cf.block b (((a7.get (i:=0) J).2.1 b hb).2))
    have n:=KeepX.refl a8 []
    refine Ay 0 J g n<|Ay 1 J g n<|bB c fun ch ci c=>Ad 2 J g n<|B7 (e:=As) underlying36 J J J (o.mono (fun b hb=>((ab.get (i:=0) J).2.1 b hb).2)) ci ?_
    rintro df _ rfl cj
    refine Ad 3 J g n<|BR A9 J (cj.kx0) J<|Ay 6 J g n<|bB c fun ck cl c=>Ad 7 J g n<|B7 (e:=As) underlying36 J J J (o.mono (fun b hb=>((ab.get (i:=0) J).2.1 b hb).2)) cl ?_
    rintro dg _ rfl cn
    refine Ad 8 J g n<|BR A9 J (cn.kx0) J<|A1 4 J<|bB c fun dh co c=>Bn J call69 cg ab (Fc a8 ch _ co) J fun cp a9 cq ba=>?_
    have cr:=o.keep (fun b hb=>a9.block b (((ab.get (i:=0) J).2.1 b hb).2))
    have aw:=n.ext a9
    refine Ai<|Ar aw<|bB c fun di cs c=>Ad 5 J g aw<|FH J J J cs<|A1 9 J<|bB c fun dj ct c=>Bn J call69 cq ba (Fc cp ck _ ct) J fun dk bb cu cv=>?_
    have cw:=cr.keep (fun b hb=>bb.block b (((ba.get (i:=0) J).2.1 b hb).2))
    have ac:=aw.ext bb
    refine Ai<|Ar ac<|bB c fun dl cx c=>Ad 10 J g ac<|FH J J J cx<|bB c fun cy cz c=>Ad 11 J g ac<|FH J J J cz<|Ad 12 J g ac<|AD J J<|Bc ?_
    have o:=cw
    refine b5<|Aq<|An 2 J ?_
    rw [a3] at c
    exact fun a ha=>b3 a _ t (AB t) ⟨cy,Ah (s+1),ha.sb J,cu,cv.sel [0] J,c⟩
   refine Am 2 J<|A3 J c (fun _ c=>?_)<|fun _ c=>?_
   refine Aq ?_
   refine wp 1 J<|bB c fun c0 c1 c=>BA J J J c1<|An 1 J ?_
   exact jx (a6 c0 _ a5 c aa (au.sel [0] J)) J
   refine Au ?_
   exact jx (a6 z _ a5 c aa (au.sel [0] J)) J
   refine Bb<|b1 ?_
   refine Ao fun _ c2=>Al fun _ c3=>wp 1 J<|AR J J J<|Ai<|c3<|A3 J c (fun _ c=>?_)<|fun _ c=>?_
   refine Am 1 J ?_
   refine Aw<|rt hQ J J<|by cases c; exact ⟨rfl,aa⟩
   refine Au<|c2 ?_
   refine Am 2 J<|Aw<|rt hQ J J<|by cases c; exact ⟨rfl,aa⟩
 refine Aq<|wp 3 J ?_
 rcases bE (!v.2) with j|j
 replace c:=Bw j c
 refine wo J j<|wo J j<|A8 J J j J<|Ai ?_
 exact jx (a0 true _ c ay (az.sel [0] J)) J
 replace c:=BI j c
 refine wn J j<|wp 1 J<|wn J j<|wp 1 J<|Ak J J j J<|Ai ?_
 exact jx (a0 (!l.2) _ c ay (az.sel [0] J)) J
theorem XJ(g:Af)(f:Akg×Akg×Int×List Int)(k:Ac)(q:RO At g k f.1)(l:Ac)(t:RO At g l f.2.1)(m:Ac)(u:RO As g m f.2.2.2)(r:Bool)(b:MR f=some r) :
  A2 148 [.agg #[k,l,iv f.2.2.1,m]] g fun e w'=>e=.returned (.bool r)∧Bl g w':=by
 refine cm func148 ntmps148 J fun Q v hP w x=>?_
 unfold MR at b
 refine Al fun _ y=>CV J w x fun b2 z _ i s=>An 1 J<|y<|Ao fun K7 ab=>?_
 obtain ⟨ac,ad,b⟩:=Cb b
 have n:∀(o:Bool)(j:Af)(_:ac o=some r)(_:Bl g j)(_:Sp g j []),∀ a,St 16 [(2,.bool o)] a→K7 a j:=by
  intro o j b ae aj
  subst ad
  refine ab<|Aw<|rt v J J<|by cases b; exact ⟨rfl,ae⟩
 refine Aq<|AU 0 Bs J s J J<|bB b fun af ag b=>Bn J call144 i s (OP z f k (q.ro i) l (t.ro i) m (u.ro i) _ ag) J fun ak _ p h=>wp 1 J ?_
 rcases bE af with d|d
 replace b:=Bw d b
 refine wn J d<|Bp Me J<|wn J d<|AU 0 A9 J h J J<|wn J d<|wp 1 J<|A8 J J d J<|wp 1 J ?_
 rcases bE (decide (f.2.2.1≤16)) with c|c
 replace b:=Bw c b
 refine wn J c<|Bp EX J<|wn J c<|AU 0 Cs J h J J<|wn J c<|BO q underlying26 J<|wn J c<|wp 1 J<|A8 J J c J<|An 1 J ?_
 exact jx (n (decide ((List.length f.1:Int)≤6)) _ b p (h.sel [] J)) J
 replace b:=BI c b
 refine wo J c<|wo J c<|wo J c<|wo J c<|Ak J J c J<|An 1 J ?_
 exact jx (n false _ b p (h.sel [] J)) J
 replace b:=BI d b
 refine wo J d<|wo J d<|wo J d<|Ak J J d J<|wp 1 J<|wo J J<|wo J J<|wo J J<|wo J J<|Ak J J J J<|An 1 J ?_
 exact jx (n false _ b p (h.sel [] J)) J
theorem ZP(f:Af)(d:Aki)(g:Int)(r:Int×Int)(h:MJ d g=some r) :
  A2 270 [.agg #[iv d.1.1,iv d.1.2,iv d.2.1.1,iv d.2.1.2,iv d.2.2],iv g] f fun e w'=>e=.returned (.tuple #[iv r.1,iv r.2])∧Bl f w':=by
 refine cm func270 ntmps270 J fun Q i a j k=>?_
 unfold MJ at h
 refine Al fun _ l=>CV J j k fun s t _ m n=>An 2 J<|l<|Ao fun _ o=>AQ B1 [] m n fun p _ q c=>?_
 have b:=KeepX.refl p []
 refine Ad 0 J a b<|C7 Gm J<|Ad 1 J a b<|C7 CY J<|Ad 2 J a b<|CN 0 A9 J c J (by simp)<|Ad 3 J a b<|C7 IV J<|Ad 4 J a b<|CN 0 A9 J c J (by simp)<|Ad 5 J a b<|Ks J J J<|Ad 6 J a b<|C7 He J<|Ad 7 J a b<|C7 CY J<|Ad 8 J a b<|CN 0 A9 J c J (by simp)<|Ad 9 J a b<|C7 Gm J<|Ad 10 J a b<|C7 CY J<|Ad 11 J a b<|CN 0 A9 J c J (by simp)<|Ad 12 J a b<|H6 J J J<|Ay 13 J a b<|Ad 14 J a b<|Ks J J J<|Ad 15 J a b<|Fj J J J<|Ad 16 J a b<|C7 Gm J<|Ad 17 J a b<|C7 CX J<|Ad 18 J a b<|CN 0 A9 J c J (by simp)<|Ad 19 J a b<|C7 IV J<|Ad 20 J a b<|CN 0 A9 J c J (by simp)<|Ad 21 J a b<|Ks J J J<|Ad 22 J a b<|C7 He J<|Ad 23 J a b<|C7 CX J<|Ad 24 J a b<|CN 0 A9 J c J (by simp)<|Ad 25 J a b<|C7 Gm J<|Ad 26 J a b<|C7 CX J<|Ad 27 J a b<|CN 0 A9 J c J (by simp)<|Ad 28 J a b<|H6 J J J<|Ay 29 J a b<|Ad 30 J a b<|Ks J J J<|Ad 31 J a b<|Fj J J J<|Ad 32 J a b<|AD J J<|Ad 33 J a b<|AD J J<|Bc<|o<|Aw<|rt i J J<|by cases h; exact ⟨rfl,q⟩
theorem Oz(i:Af)(b:Aki)(g h:Int)(r:Int×Int)(c:Jy b g h=some r) :
  A2 247 [.agg #[iv b.1.1,iv b.1.2,iv b.2.1.1,iv b.2.1.2,iv b.2.2],iv g,iv h] i fun e w'=>e=.returned (.tuple #[iv r.1,iv r.2])∧Bl i w':=by
 refine cm func247 ntmps247 J fun Q q a s t=>?_
 unfold Jy at c
 refine Al fun _ u=>CV J s t fun b2 w3 _ v w=>An 2 J<|u<|Ao fun _ x=>AQ B1 [] v w fun j _ y k=>?_
 have d:=KeepX.refl j []
 refine Ad 0 J a d<|CN 0 C8 J k J (by simp)<|Ad 1 J a d<|C7 IV J<|Ad 2 J a d<|CN 0 A9 J k J (by simp)<|Ay 3 J a d<|Ay 4 J a d<|Ad 5 J a d<|H6 J J J<|A1 6 J<|bB c fun z aa c=>A7 J call225 (Hw j b.2.2 (Ah (h-g)) _ aa) J ?_
 rintro _ ab ⟨rfl,l⟩
 refine ⟨_,rfl,?_⟩
 have ac:=tm y l
 have m:=d.ext l
 refine Ai<|Ar m<|A1 7 J<|bB c fun ad ae c=>A7 J call246 (OL ab 0 z _ ae) J ?_
 rintro _ af ⟨rfl,n⟩
 refine ⟨_,rfl,?_⟩
 have ag:=tm ac n
 have o:=m.ext n
 refine Ai<|Ar o<|A1 8 J<|bB c fun al ah c=>A7 J call270 (ZP af b ad _ ah) J ?_
 rintro _ am ⟨rfl,p⟩
 refine ⟨_,rfl,?_⟩
 have ai:=tm ag p
 have f:=o.ext p
 refine Ai<|Ar f<|Ad 9 J a f<|Ba J J J<|Ad 10 J a f<|Ba J J J<|Ad 11 J a f<|AD J J<|Ad 12 J a f<|AD J J<|Bc<|x<|Aw<|rt q J J<|by cases c; exact ⟨rfl,ai⟩
theorem XI(j:Af)(c d f g:Int)(r:Int×Int)(b:L5 c d f g=some r) :
  A2 248 [iv c,iv d,iv f,iv g] j fun e w'=>e=.returned (.tuple #[iv r.1,iv r.2])∧Bl j w':=by
 refine cm func248 ntmps248 J fun Q l hP m n=>?_
 unfold L5 at b
 refine Am 2 J<|Am 8 J<|Am 17 J<|Ao fun _ q=>Ao fun s t=>?_
 obtain ⟨u,v,b⟩:=Cb b
 have o:∀(k:Bool)(i:Af)(_:u k=some r)(_:Bl j i)(_:Sp j i []),∀ a,St 69 [(0,iv c),(1,iv d),(2,iv f),(3,iv g),(13,iv (Ah ((Ah ((Ah (f-c))*(Ah (f-c))))+(Ah ((Ah (g-d))*(Ah (g-d))))))),(42,.bool k)] a→s a i:=by
  intro k i b p ab
  subst v
  refine t<|A3 J b (fun _ b=>?_)<|fun _ b=>?_
  refine Am 8 J ?_
  refine Am 6 J<|Aw<|rt l J J<|by cases b; exact ⟨rfl,p⟩
  refine Au<|q ?_
  refine Al fun _ w=>wp 14 J<|bB b fun ac x b=>A7 J call225 (Hw i (Ah ((Ah (c*c))+(Ah (d*d)))) (Ah ((Ah (f*f))+(Ah (g*g)))) _ x) J ?_
  rintro _ ad ⟨rfl,y⟩
  refine ⟨_,rfl,?_⟩
  have z:=tm p y
  refine An 2 J<|w<|Aw<|rt l J J<|by cases b; exact ⟨rfl,z⟩
 refine Aq<|wp 3 J ?_
 rcases bE (decide (0<(Ah (0-(Ah ((Ah (c*(Ah (f-c))))+(Ah (d*(Ah (g-d)))))))))) with h|h
 replace b:=Bw h b
 refine wn J h<|wp 1 J<|wn J h<|wp 1 J<|wn J h<|wp 1 J<|A8 J J h J<|Ai ?_
 exact jx (o (decide ((Ah (0-(Ah ((Ah (c*(Ah (f-c))))+(Ah (d*(Ah (g-d))))))))<(Ah ((Ah ((Ah (f-c))*(Ah (f-c))))+(Ah ((Ah (g-d))*(Ah (g-d)))))))) _ b m (n.sel [] J)) J
 replace b:=BI h b
 refine wo J h<|wo J h<|wo J h<|Ak J J h J<|Ai ?_
 exact jx (o false _ b m (n.sel [] J)) J
theorem XQ(o:Af)(p g q h:Int)(r:Bool)(b:L9 p g q h=some r) :
  A2 249 [iv p,iv g,iv q,iv h] o fun e w'=>e=.returned (.bool r)∧Bl o w':=by
 refine cm func249 ntmps249 J fun Q s a v w=>?_
 unfold L9 at b
 refine Am 1 J<|Ao fun _ x=>Ao fun _ y=>AQ B1 [] v w fun z _ t u=>?_
 have f:=KeepX.refl z []
 refine Ay 0 J a f<|Ay 1 J a f ?_
 have i:g≠0:=fun i=>Be (Bw i b)
 replace b:=Md i b
 refine Ad 2 J a f<|Nx J J J i<|Ay 3 J a f<|Ay 4 J a f ?_
 have j:h≠0:=fun j=>Be (Bw j b)
 replace b:=Md j b
 refine Ad 5 J a f<|Nx J J J j<|Ad 6 J a f<|Acw J J J<|Bc<|y<|A3 J b (fun _ b=>?_)<|fun _ b=>?_
 refine Ao fun _ aa=>?_
 refine AQ B1 [] t u fun ab _ ac _=>?_
 have d:=KeepX.refl ab []
 refine Ay 0 J a d<|Ay 1 J a d ?_
 have k:g≠0:=fun k=>Be (Bw k b)
 replace b:=Md k b
 refine Ad 2 J a d<|Nx J J J k<|Ay 3 J a d<|Ay 4 J a d ?_
 have l:h≠0:=fun l=>Be (Bw l b)
 replace b:=Md l b
 refine Ad 5 J a d<|Nx J J J l<|Ad 6 J a d<|MB J J J<|Ad 7 J a d<|AD J J<|Bc<|aa<|Aw<|rt s J J<|by cases b; exact ⟨rfl,ac⟩
 refine Au<|x ?_
 refine Ao fun _ ad=>AQ B1 [] t u fun ae _ af _=>?_
 have c:=KeepX.refl ae []
 refine Ay 0 J a c<|Ay 1 J a c ?_
 have m:g≠0:=fun m=>Be (Bw m b)
 replace b:=Md m b
 refine Ad 2 J a c<|Vo J J J m<|Ay 3 J a c<|Ad 4 J a c<|Ks J J J<|Ay 5 J a c<|Ay 6 J a c ?_
 have n:h≠0:=fun n=>Be (Bw n b)
 replace b:=Md n b
 refine Ad 7 J a c<|Vo J J J n<|Ay 8 J a c<|Ad 9 J a c<|Ks J J J<|Ad 10 J a c<|MB J J J<|Ad 11 J a c<|AD J J<|Bc<|ad<|Aw<|rt s J J<|by cases b; exact ⟨rfl,af⟩
theorem WI(j:Af)(c d:Aki)(g h:Int)(r:Int×Int)(b:J6 c d g h=some r) :
  A2 228 [.agg #[iv c.1.1,iv c.1.2,iv c.2.1.1,iv c.2.1.2,iv c.2.2],.agg #[iv d.1.1,iv d.1.2,iv d.2.1.1,iv d.2.1.2,iv d.2.2],iv g,iv h] j fun e w'=>e=.returned (.tuple #[iv r.1,iv r.2])∧Bl j w':=by
 refine cm func228 ntmps228 J fun Q hQ n hB hS=>?_
 unfold J6 at b
 refine Al fun _ a0=>CV J hB hS fun p w3 _ a1 a2=>CV J a1 a2 fun q w8 _ a3 a4=>An 2 J<|a0<|Am 2 J<|Ao fun _ a5=>Am 1 J<|A0<|AN (fun m a aa=>∃(l o i:Int),St 101 [(2,iv g),(3,iv h),(4,.pointer (some ⟨p,0,none⟩)),(5,.pointer (some ⟨q,0,none⟩)),(10,iv l),(11,iv o),(12,iv i)] a∧Bl j aa∧Sp j aa [Av p 187 [iv c.1.1,iv c.1.2,iv c.2.1.1,iv c.2.1.2,iv c.2.2],Av q 187 [iv d.1.1,iv d.1.2,iv d.2.1.1,iv d.2.1.2,iv d.2.2]]∧FK g h c d m l o i=some r) FU ?_ ?_
 exact fun a ha=>⟨-1,1,0,ha.sb J,a3,a4.sel [1,0] J,b⟩
 rintro u a aa ⟨l,o,i,ha,a6,a7,b⟩ cl a8
 refine BC ?_ ha
 cases u with
 | zero=>exact Be b
 | succ u =>
  obtain ⟨cn,ad⟩:∃ k,k=FK g h c d u:=⟨_,rfl⟩
  rw [FK,← ad] at b
  refine Ao fun _ a9=>Ao fun _ ba=>AQ B1 [] a6 a7 fun ae _ bb af=>?_
  have s:=KeepX.refl ae []
  refine Ay 0 J n s<|Ad 1 J n s<|C7 IV J<|Ad 2 J n s<|CN 0 A9 J af J (by simp)<|Ay 3 J n s<|Ay 4 J n s<|A1 5 J<|bB b fun co bc b=>Bn J call246 bb af (OL ae g h _ bc) J fun ag bd ah v=>?_
  have ab:=s.ext bd
  refine Ai<|Ar ab<|Ad 6 J n ab<|Fj J J J<|Ad 7 J n ab<|MB J J J<|Bc<|ba<|A3 J b (fun _ b=>?_)<|fun _ b=>?_
  refine Au<|a9 ?_
  refine Ao fun be bf=>?_
  obtain ⟨bg,bh,b⟩:=Np b
  have ai:∀(w x:Int)(y:Af)(_:bg w x=some r)(_:Bl j y)(_:Sp j y [Av p 187 [iv c.1.1,iv c.1.2,iv c.2.1.1,iv c.2.1.2,iv c.2.2],Av q 187 [iv d.1.1,iv d.1.2,iv d.2.1.1,iv d.2.1.2,iv d.2.2]]),∀ a,St 101 [(2,iv g),(3,iv h),(4,.pointer (some ⟨p,0,none⟩)),(5,.pointer (some ⟨q,0,none⟩)),(10,iv w),(11,iv x),(12,iv i)] a→be a y:=by
   intro w x y b bi bj
   subst bh
   refine bf<|Aq<|An 3 J ?_
   rw [ad] at b
   exact fun a ha=>a8 a _ u (AB u) ⟨w,x,Ah (i+1),ha.sb J,bi,bj.sel [0,1] J,b⟩
  refine A0<|Al fun _ bk=>AU 0 C8 J v J J<|wp 2 J<|bB b fun aj bl b=>Bn J call247 ah v (Oz ag c g i _ bl) J fun bm _ bn ak=>An 5 J<|bk<|Al fun _ bo=>AU 1 C8 J ak J J<|wp 2 J<|bB b fun al bp b=>Bn J call247 bn ak (Oz bm d h i _ bp) J fun bq _ br am=>An 5 J<|bo<|Al fun _ bs=>AU 0 C8 J am J J<|wp 3 J<|bB b fun an bt b=>Bn J call247 br am (Oz bq c g (Ah (i+1)) _ bt) J fun bu _ bv ao=>An 5 J<|bs<|Al fun _ bw=>AU 1 C8 J ao J J<|wp 3 J<|bB b fun ap bx b=>Bn J call247 bv ao (Oz bu d h (Ah (i+1)) _ bx) J fun bz _ b0 b1=>An 5 J<|bw<|Al fun _ b3=>wp 12 J<|bB b fun t b4 b=>Bn J call248 b0 b1 (XI bz (Ah (aj.1-al.1)) (Ah (aj.2-al.2)) (Ah (an.1-ap.1)) (Ah (an.2-ap.2)) _ b4) J fun b5 _ aq ar=>An 5 J<|b3<|Ao fun b6 b8=>?_
  obtain ⟨b9,ca,b⟩:=Cb b
  have au:∀(ac:Bool)(z:Af)(_:b9 ac=some r)(_:Bl j z)(_:Sp j z [Av p 187 [iv c.1.1,iv c.1.2,iv c.2.1.1,iv c.2.1.2,iv c.2.2],Av q 187 [iv d.1.1,iv d.1.2,iv d.2.1.1,iv d.2.1.2,iv d.2.2]]),∀ a,St 101 [(2,iv g),(3,iv h),(4,.pointer (some ⟨p,0,none⟩)),(5,.pointer (some ⟨q,0,none⟩)),(10,iv l),(11,iv o),(12,iv i),(21,iv t.1),(22,iv t.2),(87,.bool ac)] a→b6 a z:=by
   intro ac z b av aw
   subst ca
   refine b8<|A3 J b (fun _ b=>?_)<|fun _ b=>?_
   refine Am 2 J ?_
   refine Aq<|An 2 J ?_
   exact jx (ai (t.1) (t.2) _ b av (aw.sel [0,1] J)) J
   refine Au ?_
   exact jx (ai l o _ b av (aw.sel [0,1] J)) J
  refine Aq<|wp 3 J ?_
  rcases bE (decide (l<0)) with f|f
  replace b:=Bw f b
  refine wo J f<|wo J f<|wo J f<|wo J f<|wo J f<|A8 J J f J<|Ai ?_
  exact jx (au true _ b aq (ar.sel [0,1] J)) J
  replace b:=BI f b
  refine wn J f<|wp 1 J<|wn J f<|wp 1 J<|wn J f<|wp 1 J<|wn J f<|wp 1 J<|wn J f<|bB b fun cb cc b=>Bn J call249 aq ar (XQ b5 t.1 t.2 l o _ cc) J fun cp _ cd ce=>Ak J J f J<|Ai ?_
  exact jx (au cb _ b cd (ce.sel [0,1] J)) J
  refine Bb<|a5 ?_
  refine Al fun _ cf=>wp 2 J<|Bp IV J<|AU 0 A9 J v J J<|wp 1 J<|Bp IV J<|AU 0 A9 J v J J<|wp 1 J<|bB b fun cq cg b=>A7 J call250 (Se ag l (Ah ((Ah (o*c.2.2))*c.2.2)) _ cg) J ?_
  rintro _ cr ⟨rfl,ch⟩
  refine ⟨_,rfl,?_⟩
  have ci:=tm ah ch
  refine An 4 J<|cf<|Aw<|rt hQ J J<|by cases b; exact ⟨rfl,ci⟩
theorem Sd(h:Af)(a b:Aki)(f g i:Int)(r:Bool)(c:Kd a b f g i=some r) :
  A2 199 [.agg #[iv a.1.1,iv a.1.2,iv a.2.1.1,iv a.2.1.2,iv a.2.2],.agg #[iv b.1.1,iv b.1.2,iv b.2.1.1,iv b.2.1.2,iv b.2.2],iv f,iv g,iv i] h fun e w'=>e=.returned (.bool r)∧Bl h w':=by
 refine cm func199 ntmps199 J fun Q k z l m=>?_
 unfold Kd at c
 refine Al fun _ n=>CV J l m fun b2 w3 _ o p=>CV J o p fun b7 q _ s j=>An 1 J<|n<|Al fun _ t=>AU 1 C8 J j J J<|AU 0 C8 J j J J<|wp 2 J<|bB c fun u v c=>A7 J call228 (WI q a b f g _ v) J ?_
 rintro _ ad ⟨rfl,w⟩
 refine ⟨_,rfl,?_⟩
 have x:=tm s w
 refine An 5 J<|t<|Al fun _ y=>wp 2 J ?_
 have d:u.2≠0:=fun d=>Be (Bw d c)
 replace c:=Md d c
 refine O0 J J J d<|An 5 J<|y<|Aw<|rt k J J<|by cases c; exact ⟨rfl,x⟩
theorem Rs(g:Af)(p:Akg×Akg×Int×List Int)(ag:Ac)(a9:RO At g ag p.1)(ah:Ac)(ba:RO At g ah p.2.1)(ai:Ac)(bb:RO As g ai p.2.2.2)(q:List Int)(s:Ac)(ar:RO As g s q)(j:Int)(r:Akl)(b:J7 p q j=some r) :
  A2 150 [.agg #[ag,ah,iv p.2.2.1,ai],s,iv j] g fun e w'=>∃(q0:Ac)(G0:Ap),e=.returned q0∧Bl g w'∧Sp g w' [Ab Ct G0 q0 r]:=by
 refine cm func150 ntmps150 J fun Q hQ c hB hS=>?_
 unfold J7 at b
 refine Al fun _ bg=>CV J hB hS fun b2 w3 _ y av=>An 1 J<|bg<|Al fun _ bi=>AU 0 Bs J av J J<|bB b fun u8 bj b=>Ds J call196 y av (M3 w3 p ag (a9.ro y) ah (ba.ro y) ai (bb.ro y) _ bj) J fun n aj c0 _ _ bk aw=>An 1 J<|bi<|Am 1 J<|Ao fun _ bl=>Al fun _ bm=>wp 1 J<|BO (aw.own_ro (i:=0) J) underlying184 J<|An 1 J<|bm<|A0<|AN (fun m a ak=>∃(z:Akl)(f:Int)(t:Ac)(aa:Ap),St 53 [(1,s),(2,iv j),(7,n),(8,t),(14,n),(15,iv (List.length u8:Int)),(16,iv f)] a∧Bl g ak∧Sp g ak [Ab CF aj n u8,Ab Ct aa t z]∧FM u8 q j m z f=some r) FU ?_ ?_
 have bn:=aw.push0 (r:=Ab Ct [] (.slice none 0 0) []) J fun _=>.inl ⟨rfl,rfl,rfl⟩
 exact fun a ha=>⟨[],0,.slice none 0 0,[],ha.sb J,bk,bn.sel [1,0] J,b⟩
 rintro u a ak ⟨z,f,t,aa,ha,ax,al,b⟩ c1 bo
 refine BC ?_ ha
 cases u with
 | zero=>exact Be b
 | succ u =>
  obtain ⟨ay,az⟩:∃ k,k=FM u8 q j u:=⟨_,rfl⟩
  rw [FM,← az] at b
  refine Am 1 J<|Ao fun _ bp=>A3 J b (fun _ b=>?_)<|fun _ b=>?_
  refine Au<|bp ?_
  refine Ao fun _ bq=>A0<|Al fun _ br=>wp 1 J<|bB b fun h bs b=>Co (e:=CF) (i:=0) underlying184 J J J al J bs ?_
  rintro c2 _ rfl bt c3
  refine BZ C8 J bt J<|EE C8 J ax al fun ab c4 _ bu bv=>wp 1 J<|GC 0 C8 J J bu bv J J J fun c5 _ bw bx=>Ai<|br<|Am 3 J<|A0<|AN (fun m a am=>∃(v:Akl)(o:Int)(w:Ac)(ac:Ap),St 53 [(1,s),(2,iv j),(7,n),(8,w),(9,iv f),(10,.pointer (some ⟨ab,0,none⟩)),(11,iv o),(14,n),(15,iv (List.length u8:Int)),(16,iv f)] a∧Bl g am∧Sp g am [Ab CF aj n u8,Ab Ct ac w v,Av ab 187 [iv h.1.1,iv h.1.2,iv h.2.1.1,iv h.2.1.2,iv h.2.2]]∧FL u8 q f h j ay m v o=some r) FU ?_ ?_
  exact fun a ha=>⟨z,Ah (f+1),t,aa,ha.sb J,bw,bx.sel [1,2,0] J,b⟩
  rintro x a am ⟨v,o,w,ac,ha,a0,an,b⟩ c6 bz
  refine BC ?_ ha
  cases x with
  | zero=>exact Be b
  | succ x =>
   obtain ⟨c7,a1⟩:∃ k,k=FL u8 q f h j ay x:=⟨_,rfl⟩
   rw [FL,← a1] at b
   refine Ao fun _ b0=>Al fun _ b1=>wp 2 J<|BO (an.own_ro (i:=0) J) underlying184 J<|An 1 J<|b1<|A3 J b (fun _ b=>?_)<|fun _ b=>?_
   refine Au<|b0 ?_
   refine Ao fun b3 b4=>?_
   obtain ⟨b5,b6,b⟩:=Cb b
   have a2:∀(ad:Akl)(ae:Ac)(ao:Ap)(af:Af)(_:b5 ad=some r)(_:Bl g af)(_:Sp g af [Ab CF aj n u8,Ab Ct ao ae ad,Av ab 187 [iv h.1.1,iv h.1.2,iv h.2.1.1,iv h.2.1.2,iv h.2.2]]),∀ a,St 53 [(1,s),(2,iv j),(7,n),(8,ae),(9,iv f),(10,.pointer (some ⟨ab,0,none⟩)),(11,iv o),(14,n),(15,iv (List.length u8:Int)),(16,iv f)] a→b3 a af:=by
    intro ad ae ao af b b7 b8
    subst b6
    refine b4<|Aq<|An 3 J ?_
    rw [a1] at b
    exact fun a ha=>bz a _ x (AB x) ⟨ad,Ah (o+1),ae,ao,ha.sb J,b7,b8.sel [0,1,2] J,b⟩
   refine A0<|Ao fun _ b9=>AQ B1 [] a0 an fun a3 _ ap aq=>?_
   have d:=KeepX.refl a3 []
   refine Ad 0 J c d<|CN 2 C8 J aq J (by simp)<|Ay 1 J c d<|Ay 2 J c d<|bB b fun ca cb b=>Ad 3 J c d<|Bx (e:=CF) (i:=0) underlying184 J J J aq J cb ?_
   rintro c8 _ rfl cc c9
   refine Ad 4 J c d<|BR C8 J (cc.kx0) J<|Ay 5 J c d<|Ay 6 J c d<|bB b fun cd ce b=>Ad 7 J c d<|B7 (e:=As) underlying36 J J J ar ce ?_
   rintro da _ rfl cf
   refine Ad 8 J c d<|BR A9 J (cf.kx ap (by simp)) J<|Ay 9 J c d<|Ay 10 J c d<|bB b fun cg ch b=>Ad 11 J c d<|B7 (e:=As) underlying36 J J J ar ch ?_
   rintro db _ rfl ci
   refine Ad 12 J c d<|BR A9 J (ci.kx ap (by simp)) J<|Ay 13 J c d<|A1 14 J<|bB b fun dc cj b=>Bn J call199 ap aq (Sd a3 h ca cd cg j _ cj) J fun dd ck a4 a5=>?_
   have a6:=d.ext ck
   refine Ai<|Ar a6<|Ad 15 J c a6<|LZ J J<|Bc<|b9<|A3 J b (fun _ b=>?_)<|fun _ b=>?_
   refine Aq ?_
   refine wp 3 J<|AZ (vs:=[iv f,iv o]) (l:=[f,o]) Cl underlying36 J J J J J J a4 a5 fun a7 cl de _ cn a8=>?_
   have co:=a8.sel [0,1,2,3] J
   have cp:=co.head (r':=RP Ct cl [a7] [f,o]) (rfl) fun _ h0=>⟨_,rfl,h0⟩
   refine Pn (e:=Ct) (vs:=[a7]) underlying155 J J (Ch (a8.own_ro (i:=0) J).one) J cn cp fun df dg dh _ _ cr cs=>bB b fun ct cu b=>Mq (e:=Ct) underlying155 J J J cr (cs.sel [2,0,1,3] J) cu fun cv cw di _ cx cy=>An 1 J ?_
   exact jx (a2 ct cv cw _ b cx (cy.sel [1,0,2] J)) J
   refine Au ?_
   exact jx (a2 v w ac _ b a4 (a5.sel [0,1,2] J)) J
   refine Bb<|bq ?_
   refine Aq<|An 2 J ?_
   rw [az] at b
   exact fun a ha=>bo a _ u (AB u) ⟨v,Ah (f+1),w,ac,ha.sb J,a0,an.sel [0,1] J,b⟩
  refine Bb<|bl ?_
  refine Am 2 J<|Aw<|rt hQ J J<|by cases b; exact ⟨t,aa,rfl,ax,al.sel [1] J⟩
theorem XO(m:Af)(g:Akg×Akg×Int×List Int)(y:Ac)(av:RO At m y g.1)(z:Ac)(aw:RO At m z g.2.1)(aa:Ac)(ab:RO As m aa g.2.2.2)(x1 x2:Int)(r:Akg×Akg×Int×List Int)(c:L7 g x1 x2=some r) :
  A2 200 [.agg #[y,z,iv g.2.2.1,aa],iv x1,iv x2] m fun e w'=>∃(q0:Ac)(G0:Ap)(q1:Ac)(G1:Ap)(q2:Ac)(G2:Ap),e=.returned (.agg #[q0,q1,iv r.2.2.1,q2])∧Bl m w'∧Sp m w' [Ab At G0 q0 r.1,Ab At G1 q1 r.2.1,Ab As G2 q2 r.2.2.2]:=by
 refine cm func200 ntmps200 J fun Q hQ a hB hS=>?_
 unfold L7 at c
 refine Al fun _ a3=>CV J hB hS fun b2 w3 _ a4 a5=>EE Bs J a4 a5 fun b7 w8 _ s t=>Ai<|a3<|Al fun _ a7=>Bp EX J<|AU 1 Cs J t J J<|Bp Mf J<|AU 1 Cs J t J J<|Bp Me J<|AU 1 A9 J t J J<|Bp Hf J<|AU 1 FA J t J J<|bB c fun u a8 c=>A7 J call142 (OO w8 g.1 y (av.ro s) g.2.1 z (aw.ro s) g.2.2.1 g.2.2.2 aa (ab.ro s) _ a8) J ?_
 rintro _ b1 ⟨n,a9,p,ba,q,v,rfl,ai,bb⟩
 refine ⟨_,rfl,?_⟩
 have bc:=tm s ai
 have bd:=t.join ai bb s.size
 refine EE Bs J bc bd fun aj b3 _ be x=>BG (i:=0) (vs:=[n,p,iv u.2.2.1,q]) (cs':=[n,p,iv u.2.2.1,q]) Bs J J J J be x J J ⟨(x.own_ro (i:=1) J).one,(x.own_ro (i:=2) J).one,rfl,(x.own_ro (i:=3) J).one,trivial⟩ J fun b4 _ bf bg=>Ai<|a7<|Ao fun _ bh=>AQ B1 v bf bg fun bi _ ak k=>?_
 have d:=KeepX.refl bi v
 refine Ad 0 J a d<|C7 Hf J<|Ad 1 J a d<|CN 0 FA J k J (k.disj (i:=0) (j:=3) J J J aj (by simp [Av]))<|Ay 2 J a d<|Ad 3 J a d<|C7 Hf J<|Ad 4 J a d<|CN 5 FA J k J (k.disj (i:=5) (j:=3) J J J b2 (by simp [Av]))<|Ay 5 J a d<|bB c fun al bj c=>Ad 6 J a d<|B7 (e:=As) underlying36 J J J ab bj ?_
 rintro b5 _ rfl bk
 refine Ad 7 J a d<|BR A9 J (bk.kx ak (fun b hb=>(((k.get (i:=3) J).2.1 b hb).1))) J<|bB c fun b6 am c=>Ad 8 J a d<|Bx (e:=As) (i:=3) underlying36 J J J k J am ?_
 rintro b8 _ rfl b9 bl
 refine A1 9 J<|Cf (i:=3) (o:=0) (vs:=[iv al]) (u':=al) Cl A9 J J J J bl am ak k J J ⟨rfl,trivial⟩ J fun ca an bm bn=>?_
 have bo:=d.wr' an.1 an.2.1 (fun _ _ h=>h)
 refine Ai<|Ar bo<|Bc<|bh<|Ao fun _ bp=>AQ B1 v bm bn fun bq _ ao l=>?_
 have f:=KeepX.refl bq v
 refine Ad 0 J a f<|C7 Hf J<|Ad 1 J a f<|CN 0 FA J l J (l.disj (i:=0) (j:=3) J J J aj (by simp [Av]))<|Ay 2 J a f<|Ad 3 J a f<|C7 Hf J<|Ad 4 J a f<|CN 5 FA J l J (l.disj (i:=5) (j:=3) J J J b2 (by simp [Av]))<|Ay 5 J a f<|bB c fun ap br c=>Ad 6 J a f<|B7 (e:=As) underlying36 J J J ab br ?_
 rintro cb _ rfl bs
 refine Ad 7 J a f<|BR A9 J (bs.kx ao (fun b hb=>(((l.get (i:=3) J).2.1 b hb).1))) J<|bB c fun cc aq c=>Ad 8 J a f<|Bx (e:=As) (i:=3) underlying36 J J J l J aq ?_
 rintro cd _ rfl ce bt
 refine A1 9 J<|Cf (i:=3) (o:=0) (vs:=[iv ap]) (u':=ap) Cl A9 J J J J bt aq ao l J J ⟨rfl,trivial⟩ J fun cf ar bu w=>?_
 have bv:=f.wr' ar.1 ar.2.1 (fun _ _ h=>h)
 refine Ai<|Ar bv<|Bc<|bp<|Al fun _ bw=>AU 0 Bs J w J J<|BG (i:=4) (vs:=[n,p,iv u.2.2.1,q]) (cs':=[n,p,iv u.2.2.1,q]) Bs J J J J bu w J J ⟨(w.own_ro (i:=1) J).one,(w.own_ro (i:=2) J).one,rfl,(w.own_ro (i:=3) J).one,trivial⟩ J fun cg _ bx au=>Ai<|bw<|Aw ?_
 obtain rfl:=Option.some.inj c
 exact JU (vs:=[.agg #[n,p,iv u.2.2.1,q]]) hQ J ⟨HL (i:=4) Bs J au J J J,trivial⟩ ⟨n,a9,p,ba,q,v,rfl,bx,au.sel [1,2,3] J⟩
theorem XH(f:Af)(c:Akg×Akg×Int×List Int)(j:Ac)(u:RO At f j c.1)(l:Ac)(ak:RO At f l c.2.1)(n:Ac)(al:RO As f n c.2.2.2)(g:Int)(r:Int×Int)(b:L4 c g=some r) :
  A2 151 [.agg #[j,l,iv c.2.2.1,n],iv g] f fun e w'=>e=.returned (.tuple #[iv r.1,iv r.2])∧Bl f w':=by
 refine cm func151 ntmps151 J fun Q z hP hB hS=>?_
 unfold L4 at b
 refine Al fun _ ao=>CV J hB hS fun v w3 _ ap aa=>An 2 J<|ao<|Al fun _ aq=>Bp EX J<|AU 0 Cs J aa J J<|BO u underlying26 J<|bB b fun u8 ar b=>Pm (e:=As) underlying36 J J ar ap aa fun o ab bh _ au ac=>An 1 J<|aq<|Ao fun _ av=>Al fun _ aw=>Bp EX J<|AU 1 Cs J ac J J<|BO u underlying26 J<|An 1 J<|aw<|A0<|AN (fun m a y=>∃(d:Int),St 40 [(1,iv g),(2,.pointer (some ⟨v,0,none⟩)),(6,o),(15,iv (List.length c.1:Int)),(16,iv d)] a∧Bl f y∧Sp f y [Av v 128 [j,l,iv c.2.2.1,n],Ab As ab o u8]∧EF c u8 g m d=some r) FU ?_ ?_
 exact fun a ha=>⟨0,ha.sb J,au,ac.sel [1,0] J,b⟩
 rintro p a y ⟨d,ha,ad,ax,b⟩ bi ay
 refine BC ?_ ha
 cases p with
 | zero=>exact Be b
 | succ p =>
  obtain ⟨ae,af⟩:∃ k,k=EF c u8 g p:=⟨_,rfl⟩
  rw [EF,← af] at b
  refine Am 1 J<|Ao fun _ az=>A3 J b (fun _ b=>?_)<|fun _ b=>?_
  refine Au<|az ?_
  refine Ao fun _ a0=>A0<|Am 2 J<|Am 3 J<|A0<|AN (fun m a w=>∃(q:Int),St 40 [(1,iv g),(2,.pointer (some ⟨v,0,none⟩)),(6,o),(7,iv d),(8,iv q),(15,iv (List.length c.1:Int)),(16,iv d)] a∧Bl f w∧Sp f w [Av v 128 [j,l,iv c.2.2.1,n],Ab As ab o u8]∧Gq c d u8 g ae m q=some r) FU ?_ ?_
  exact fun a ha=>⟨Ah (d+1),ha.sb J,ad,ax.sel [0,1] J,b⟩
  rintro s a w ⟨q,ha,h,x,b⟩ bj a1
  refine BC ?_ ha
  cases s with
  | zero=>exact Be b
  | succ s =>
   obtain ⟨bk,ag⟩:∃ k,k=Gq c d u8 g ae s:=⟨_,rfl⟩
   rw [Gq,← ag] at b
   refine Ao fun _ a2=>Al fun _ a3=>wp 1 J<|Bp EX J<|AU 0 Cs J x J J<|BO u underlying26 J<|An 1 J<|a3<|A3 J b (fun _ b=>?_)<|fun _ b=>?_
   refine Au<|a2 ?_
   refine Ao fun _ a4=>A0<|Al fun _ a5=>AU 0 Bs J x J J<|wp 2 J<|bB b fun a6 a7 b=>A7 J call200 (XO w c j (u.ro h) l (ak.ro h) n (al.ro h) d q _ a7) J ?_
   rintro _ a8 ⟨a9,bl,ba,bm,bb,bn,rfl,ah,bc⟩
   refine ⟨_,rfl,?_⟩
   have bd:=tm h ah
   have t:=x.join ah bc h.size
   refine wp 2 J<|bB b fun bo be b=>Ds J call150 bd t (Rs a8 a6 a9 (t.own_ro (i:=0) J) ba (t.own_ro (i:=1) J) bb (t.own_ro (i:=2) J) u8 o (t.own_ro (i:=4) J) g _ be) J fun bp bq br _ _ ai aj=>BO (aj.own_ro (i:=0) J) underlying155 J<|An 1 J<|a5<|A3 J b (fun _ b=>?_)<|fun _ b=>?_
   refine Am 4 J ?_
   refine Aw<|rt z J J<|by cases b; exact ⟨rfl,ai⟩
   refine Au<|a4 ?_
   refine Aq<|An 3 J ?_
   rw [ag] at b
   exact fun a ha=>a1 a _ s (AB s) ⟨Ah (q+1),ha.sb J,ai,aj.sel [4,5] J,b⟩
   refine Bb<|a0 ?_
   refine Aq<|An 2 J ?_
   rw [af] at b
   exact fun a ha=>ay a _ p (AB p) ⟨Ah (d+1),ha.sb J,h,x.sel [0,1] J,b⟩
  refine Bb<|av ?_
  refine Am 2 J<|Aw<|rt z J J<|by cases b; exact ⟨rfl,ad⟩
theorem Rq(c:Af)(d:(List Aki)×Int×List Int)(f:Nat)(k:Ap)(o p m n:Int)(ax:Sep 0 c [A6 Cp 198 k f d])(r:Bool×((List Aki)×Int×List Int))(b:Ho d o p m n=some r) :
  A2 229 [.pointer (some ⟨f,0,none⟩),iv o,iv p,iv m,iv n] c fun e w'=>∃(H_0:Ap),e=.returned (.bool r.1)∧Below 0 (wE c) w'∧Sep 0 w' [A5 c (AP [A6 Cp 198 k f d]),A6 Cp 198 H_0 f r.2]:=by
 refine Ek func229 J ntmps229 J J fun Q hQ h=>?_
 have hB:Bl (wE c) c:=Dp c
 have hS:Sp (wE c) c [A5 c (AP [A6 Cp 198 k f d]),A6 Cp 198 k f d]:=ax.rest
 unfold Ho at b
 refine Am 1 J<|Ao fun K2 a1=>?_
 obtain ⟨a2,a3,b⟩:=Cb b
 have ae:∀(q:(List Aki)×Int×List Int)(af:Ap)(t:Af)(_:a2 q=some r)(_:Bl (wE c) t)(_:Sp (wE c) t [A5 c (AP [A6 Cp 198 k f d]),A6 Cp 198 af f q]),∀ a,St 71 [(0,.pointer (some ⟨f,0,none⟩)),(1,iv o),(2,iv p),(3,iv m),(4,iv n)] a→K2 a t:=by
  intro q af t b a4 a5
  subst a3
  refine a1<|Al fun _ a6=>wp 5 J<|B4 J J<|Bp UA J ?_
  have ag:=HZ b
  replace b:=Bw ag b
  refine Jd underlying196 Tryz.sizeOf194 ag J J J ?_
  have ah:=HZ b
  replace b:=Bw ah b
  refine Jd underlying194 Tryz.sizeOf193 ah J J J ?_
  have ai:=HZ b
  replace b:=Bw ai b
  refine Jd underlying193 Tryz.sizeOf192 ai J J J ?_
  have aj:=HZ b
  replace b:=Bw aj b
  refine Jd underlying192 Tryz.sizeOf3 aj J J J ?_
  obtain ⟨a7,cd,a8,ak⟩:=PF (a5.sel [1,0] J)
  refine bB b fun ce a9 b=>lda 0 (pre:=[a7,iv q.2.1]) (arr:=(Ok q.2.2)) (j:=o.toNat*150+p.toNat*25+m.toNat*5+n.toNat*1) A9 J J ak J (Aii a9) (by simp only [List.length_nil,List.length_cons]; omega)<|An 2 J<|a6<|Aw ?_
  obtain ⟨ba,bb⟩:∃ F,Sp (wE c) t [A6 Cp 198 F f q,A5 c (AP [A6 Cp 198 k f d])]:=⟨_,Jv a8 (ak.sel [0,1,2] J)⟩
  refine rt hQ J J<|by cases b; exact ⟨ba,rfl,a4,bb.sel [1,0] J⟩
 refine Al fun _ bc=>wp 5 J<|B4 J J<|Bp UA J ?_
 have v:=HZ b
 replace b:=Bw v b
 refine Jd underlying196 Tryz.sizeOf194 v J J J ?_
 have w:=HZ b
 replace b:=Bw w b
 refine Jd underlying194 Tryz.sizeOf193 w J J J ?_
 have x:=HZ b
 replace b:=Bw x b
 refine Jd underlying193 Tryz.sizeOf192 x J J J ?_
 have y:=HZ b
 replace b:=Bw y b
 refine Jd underlying192 Tryz.sizeOf3 y J J J ?_
 obtain ⟨bd,cf,al,z⟩:=PF (hS.sel [1,0] J)
 refine bB b fun cg be b=>lda 0 (pre:=[bd,iv d.2.1]) (arr:=(Ok d.2.2)) (j:=o.toNat*150+p.toNat*25+m.toNat*5+n.toNat*1) A9 J J z J (Aii be) (by simp only [List.length_nil,List.length_cons]; omega)<|An 1 J<|bc<|A3 J b (fun _ b=>?_)<|fun _ b=>?_
 refine Am 1 J ?_
 refine Ao fun bf bg=>?_
 obtain ⟨ch,bh⟩:∃ F,Sp (wE c) c [A6 Cp 198 F f d,A5 c (AP [A6 Cp 198 k f d])]:=⟨_,Jv al (z.sel [0,1,2] J)⟩
 obtain ⟨bi,bj,b⟩:=Np b
 have am:∀(l:(List Aki)×Int×List Int)(aa:Int)(an:Ap)(u:Af)(_:bi l aa=some r)(_:Bl (wE c) u)(_:Sp (wE c) u [A5 c (AP [A6 Cp 198 k f d]),A6 Cp 198 an f l]),∀ a,St 71 [(0,.pointer (some ⟨f,0,none⟩)),(1,iv o),(2,iv p),(3,iv m),(4,iv n),(11,iv aa)] a→bf a u:=by
  intro l aa an u b bk bl
  subst bj
  refine bg<|Aq<|wp 6 J<|B4 J J<|Bp UA J<|Jd underlying196 Tryz.sizeOf194 v J J J<|Jd underlying194 Tryz.sizeOf193 w J J J<|Jd underlying193 Tryz.sizeOf192 x J J J<|Jd underlying192 Tryz.sizeOf3 y J J J ?_
  obtain ⟨bm,ci,bn,bo⟩:=PF (bl.sel [1,0] J)
  refine bB b fun ao ab b=>sta 0 (pre:=[bm,iv l.2.1]) (arr:=(Ok l.2.2)) (j:=o.toNat*150+p.toNat*25+m.toNat*5+n.toNat*1) A9 J J J bk bo J (Aeh ab) (by simp only [List.length_nil,List.length_cons]; omega) fun bp _ bq ap=>?_
  rw [Aht ab] at ap
  refine Ai ?_
  obtain ⟨br,bs⟩:∃ F,Sp (wE c) bp [A6 Cp 198 F f (l.1,l.2.1,ao),A5 c (AP [A6 Cp 198 k f d])]:=⟨_,Jv (Uw ab bn) (ap.sel [0,1,2] J)⟩
  exact jx (ae ((l.1,l.2.1,ao)) br _ b bq (bs.sel [1,0] J)) J
 refine Ao fun _ bt=>?_
 obtain ⟨ac,cj,aq,bu⟩:=PF (bh.sel [0,1] J)
 refine AQ B1 [] hB bu fun ar _ bv s=>?_
 have g:=KeepX.refl ar []
 refine Ay 0 J h g<|Ad 1 J h g<|B0 J J<|Ad 2 J h g<|C7 UB J<|Ad 3 J h g<|Y9 0 (pre:=[ac,iv d.2.1]) Ym J J s J J (by simp)<|Ay 4 J h g<|bB b fun bw bx b=>Ad 5 J h g<|Bx (e:=CF) (i:=1) underlying184 J J J s J bx ?_
 rintro ck _ rfl bz cl
 refine Ad 6 J h g<|BR C8 J (bz.kx0) J<|Ay 7 J h g<|Ad 8 J h g<|B0 J J<|Ad 9 J h g<|C7 UB J<|Ad 10 J h g<|Y9 0 (pre:=[ac,iv d.2.1]) Ym J J s J J (by simp)<|Ay 11 J h g<|bB b fun b1 b2 b=>Ad 12 J h g<|Bx (e:=CF) (i:=1) underlying184 J J J s J b2 ?_
 rintro cm _ rfl b3 cn
 refine Ad 13 J h g<|BR C8 J (b3.kx0) J<|Ay 14 J h g<|Ay 15 J h g<|Ay 16 J h g<|Ad 17 J h g<|B0 J J<|Ad 18 J h g<|C7 Afi J<|Ad 19 J h g<|Y9 0 (pre:=[ac,iv d.2.1]) A9 J J s J J (by simp)<|A1 20 J<|bB b fun co b4 b=>Bn J call199 bv s (Sd ar bw b1 m n d.2.1 _ b4) J fun au b5 av aw=>?_
 have b6:=g.ext b5
 refine Ai<|Ar b6<|Bc<|bt<|A3 J b (fun _ b=>?_)<|fun _ b=>?_
 refine Aq ?_
 refine An 1 J ?_
 obtain ⟨b7,b8⟩:∃ F,Sp (wE c) au [A6 Cp 198 F f d,A5 c (AP [A6 Cp 198 k f d])]:=⟨_,Jv aq (aw.sel [0,1,2] J)⟩
 exact jx (am d 1 b7 _ b av (b8.sel [1,0] J)) J
 refine Au ?_
 obtain ⟨b9,ca⟩:∃ F,Sp (wE c) au [A6 Cp 198 F f d,A5 c (AP [A6 Cp 198 k f d])]:=⟨_,Jv aq (aw.sel [0,1,2] J)⟩
 exact jx (am d 2 b9 _ b av (ca.sel [1,0] J)) J
 refine Au ?_
 obtain ⟨cb,cc⟩:∃ F,Sp (wE c) c [A6 Cp 198 F f d,A5 c (AP [A6 Cp 198 k f d])]:=⟨_,Jv al (z.sel [0,1,2] J)⟩
 exact jx (ae d cb _ b hB (cc.sel [1,0] J)) J
theorem QP:∀(m:Nat)(d:Af)(j:(List Aki)×Int×List Int)(f:Nat)(o:Ap)(c:List Int)(g:Ac)(h:Ap)(p:Int)(al:Sep 0 d [A6 Cp 198 o f j,Ab As h g c])(r:(List Int)×((List Aki)×Int×List Int))(b:Dr m j c p=some r),
  A2 201 [.pointer (some ⟨f,0,none⟩),g,iv p] d fun e w'=>∃(q0:Ac)(G0 H_0:Ap),e=.returned q0∧Below 0 (wE d) w'∧Sep 0 w' [A5 d (AP [A6 Cp 198 o f j,Ab As h g c]),A6 Cp 198 H_0 f r.2,Ab As G0 q0 r.1]:=by
 intro m
 induction m with
 | zero =>
  intro d j f o c g h p al r b
  exact Be b
 | succ m ih =>
  intro d j f o c g h p al r b
  replace b:GG (Dr m) j c p=some r:=b
  obtain ⟨rec,hrec⟩:∃ k,k=Dr m:=⟨_,rfl⟩
  rw [← hrec] at b ih
  refine Ek func201 J ntmps201 J J fun Q hQ hP=>?_
  have hB:Bl (wE d) d:=Dp d
  have hS:Sp (wE d) d [A5 d (AP [A6 Cp 198 o f j,Ab As h g c]),A6 Cp 198 o f j,Ab As h g c]:=al.rest
  unfold GG at b
  refine Am 1 J<|Al fun _ bi=>wp 1 J<|BO (hS.own_ro (i:=2) J) underlying36 J<|An 1 J<|bi<|Ao fun _ bj=>Al fun _ bk=>wp 2 J<|B4 J J<|Bp UB J ?_
  obtain ⟨v5,F6,an,w⟩:=PF (hS.sel [1,0,2] J)
  refine ldr 0 (pre:=[v5,iv j.2.1]) Ym J w J J<|BO (w.own_ro (i:=1) J) underlying184 J<|An 1 J<|bk<|A3 J b (fun _ b=>?_)<|fun _ b=>?_
  refine Ao fun _ bm=>?_
  refine Am 2 J<|A3 J b (fun _ b=>?_)<|fun _ b=>?_
  refine Am 1 J ?_
  refine Aw ?_
  obtain ⟨bn,bo⟩:∃ F,Sp (wE d) d [A6 Cp 198 F f j,A5 d (AP [A6 Cp 198 o f j,Ab As h g c]),Ab As h g c]:=⟨_,Jv an (w.sel [0,1,2,3] J)⟩
  have bp:=bo.push0 (r:=Ab As [] (.slice none 0 0) []) J fun _=>.inl ⟨rfl,rfl,rfl⟩
  refine rt hQ J J<|by cases b; exact ⟨.slice none 0 0,[],bn,rfl,hB,bp.sel [2,1,0] J⟩
  refine Au<|bm ?_
  refine Am 2 J<|Aw ?_
  obtain ⟨bq,br⟩:∃ F,Sp (wE d) d [A6 Cp 198 F f j,A5 d (AP [A6 Cp 198 o f j,Ab As h g c]),Ab As h g c]:=⟨_,Jv an (w.sel [0,1,2,3] J)⟩
  refine rt hQ J J<|by cases b; exact ⟨g,h,bq,rfl,hB,br.sel [1,0,2] J⟩
  refine Au<|bj ?_
  refine Ao fun _ bs=>Am 1 J<|A0 ?_
  obtain ⟨bt,bu⟩:∃ F,Sp (wE d) d [A6 Cp 198 F f j,A5 d (AP [A6 Cp 198 o f j,Ab As h g c]),Ab As h g c]:=⟨_,Jv an (w.sel [0,1,2,3] J)⟩
  refine AN (fun m a ac=>∃(ad:(List Aki)×Int×List Int)(q:Int)(ae:Ap),St 64 [(0,.pointer (some ⟨f,0,none⟩)),(1,g),(2,iv p),(7,iv (List.length c:Int)),(8,iv q)] a∧Bl (wE d) ac∧Sp (wE d) ac [A5 d (AP [A6 Cp 198 o f j,Ab As h g c]),A6 Cp 198 ae f ad,Ab As h g c]∧Db p c rec m ad q=some r) FU ?_ ?_
  exact fun a ha=>⟨j,0,bt,ha.sb J,hB,bu.sel [1,0,2] J,b⟩
  rintro x a ac ⟨ad,q,ae,ha,bv,bw,b⟩ c9 bx
  refine BC ?_ ha
  cases x with
  | zero=>exact Be b
  | succ x =>
   obtain ⟨da,a4⟩:∃ k,k=Db p c rec x:=⟨_,rfl⟩
   rw [Db,← a4] at b
   refine Ao fun _ bz=>Al fun _ b1=>wp 2 J<|bB b fun db b2 b=>Bn J call225 bv bw (Hw ac p 4 _ b2) J fun dc _ a5 ao=>An 1 J<|b1<|A3 J b (fun _ b=>?_)<|fun _ b=>?_
   refine Au<|bz ?_
   refine Ao fun b3 b4=>?_
   obtain ⟨ap,b5,b⟩:=Cb b
   have a6:∀(af:(List Aki)×Int×List Int)(aq:Ap)(ag:Af)(_:ap af=some r)(_:Bl (wE d) ag)(_:Sp (wE d) ag [A5 d (AP [A6 Cp 198 o f j,Ab As h g c]),A6 Cp 198 aq f af,Ab As h g c]),∀ a,St 64 [(0,.pointer (some ⟨f,0,none⟩)),(1,g),(2,iv p),(7,iv (List.length c:Int)),(8,iv q)] a→b3 a ag:=by
    intro af aq ag b b6 b7
    subst b5
    refine b4<|Aq<|An 3 J ?_
    rw [a4] at b
    exact fun a ha=>bx a _ x (AB x) ⟨af,Ah (q+1),aq,ha.sb J,b6,b7.sel [0,1,2] J,b⟩
   refine A0<|Am 1 J<|Ao fun _ b8=>Al fun _ b9=>wp 1 J<|BO (ao.own_ro (i:=2) J) underlying36 J<|An 1 J<|b9<|A0<|AN (fun m a y=>∃(s:(List Aki)×Int×List Int)(ah:Bool)(v:Int)(t:Ap),St 64 [(0,.pointer (some ⟨f,0,none⟩)),(1,g),(2,iv p),(7,iv (List.length c:Int)),(8,iv q),(9,.bool ah),(31,g),(32,iv (List.length c:Int)),(33,iv v)] a∧Bl (wE d) y∧Sp (wE d) y [A5 d (AP [A6 Cp 198 o f j,Ab As h g c]),A6 Cp 198 t f s,Ab As h g c]∧Da c q ap rec p m s ah v=some r) FU ?_ ?_
   exact fun a ha=>⟨ad,true,0,ae,ha.sb J,a5,ao.sel [0,1,2] J,b⟩
   rintro z a y ⟨s,ah,v,t,ha,aa,u,b⟩ dd ca
   refine BC ?_ ha
   cases z with
   | zero=>exact Be b
   | succ z =>
    obtain ⟨de,a7⟩:∃ k,k=Da c q ap rec p z:=⟨_,rfl⟩
    rw [Da,← a7] at b
    refine Am 1 J<|Ao fun _ cb=>A3 J b (fun _ b=>?_)<|fun _ b=>?_
    refine Au<|cb ?_
    refine Ao fun cc cd=>?_
    obtain ⟨ce,cf,b⟩:=Np b
    have a8:∀(ai:(List Aki)×Int×List Int)(aj:Bool)(ar:Ap)(ak:Af)(_:ce ai aj=some r)(_:Bl (wE d) ak)(_:Sp (wE d) ak [A5 d (AP [A6 Cp 198 o f j,Ab As h g c]),A6 Cp 198 ar f ai,Ab As h g c]),∀ a,St 64 [(0,.pointer (some ⟨f,0,none⟩)),(1,g),(2,iv p),(7,iv (List.length c:Int)),(8,iv q),(9,.bool aj),(31,g),(32,iv (List.length c:Int)),(33,iv v)] a→cc a ak:=by
     intro ai aj ar ak b cg ch
     subst cf
     refine cd<|Aq<|An 2 J ?_
     rw [a7] at b
     exact fun a ha=>ca a _ z (AB z) ⟨ai,aj,Ah (v+1),ar,ha.sb J,cg,ch.sel [0,1,2] J,b⟩
    refine A0<|Al fun _ ci=>wp 1 J<|bB b fun cj ck b=>Co (e:=As) (i:=2) underlying36 J J J u J ck ?_
    rintro df _ rfl cl dg
    refine BZ A9 J cl J<|An 2 J<|ci<|Aq<|wp 2 J ?_
    rcases bE ah with n|n
    replace b:=Bw n b
    refine wn J n<|wp 1 J<|wn J n<|wp 1 J<|wn J n<|wp 1 J<|wn J n<|wp 1 J<|wn J n<|wp 1 J<|wn J n<|bB b fun au cm b=>A7 J call229 (Rq y s f t v (List.length c:Int) cj q (u.sel [1] J).base0 _ cm) J ?_
    rintro _ cn ⟨a9,rfl,co,ba⟩
    refine ⟨_,rfl,?_⟩
    have cp:=u.takeB [1] J (M:=[A6 Cp 198 t f s]) J aa co ba
    have cq:Sp (wE d) cn [A6 Cp 198 a9 f au.2,A5 d (AP [A6 Cp 198 o f j,Ab As h g c]),Ab As h g c]:=u.take [1] [0,2] J (M:=[A6 Cp 198 t f s]) J ba aa.size
    refine A8 J J n J<|An 1 J ?_
    exact jx (a8 (au.2) (au.1) a9 _ b cp (cq.sel [1,0,2] J)) J
    replace b:=BI n b
    refine wo J n<|wo J n<|wo J n<|wo J n<|wo J n<|wo J n<|Ak J J n J<|An 1 J ?_
    exact jx (a8 s false t _ b aa (u.sel [0,1,2] J)) J
    refine Bb<|b8 ?_
    refine Ao fun _ cr=>Am 2 J<|A3 J b (fun _ b=>?_)<|fun _ b=>?_
    refine Bb ?_
    exact jx (a6 s t _ b aa (u.sel [0,1,2] J)) J
    refine Au<|cr ?_
    refine Al fun _ cs=>wp 2 J<|bB b fun dh ct b=>Ds J call52 aa u (PU y c g (u.own_ro (i:=2) J) _ ct) J fun di dj dk _ _ cu cv=>wp 1 J<|AZ (vs:=[iv q]) (l:=[q]) Cl underlying36 J J J J J J cu cv fun cw cx cy _ cz bb=>bB b fun av c0 b=>AE (i:=1) (S:=(·<cy.heap.size)) Cl underlying36 J J J cz bb J (bb.own_ro (i:=0) J) c0 fun aw ax c1 _ bc ay=>wp 3 J<|bB b fun az c2 b=>A7 J call201 (ih c1 s f t av aw ax (Ah (p-q)) (ay.sel [3,1] J).base0 _ c2) J ?_
    rintro _ c3 ⟨bd,be,a0,rfl,c4,bf⟩
    refine ⟨_,rfl,?_⟩
    have bg:=ay.takeB [3,1] J (M:=[A6 Cp 198 t f s,Ab As ax aw av]) J bc c4 bf
    have a1:Sp (wE d) c3 [A6 Cp 198 a0 f az.2,Ab As be bd az.1,Ab As cx cw [q],A5 d (AP [A6 Cp 198 o f j,Ab As h g c]),Ab As h g c]:=ay.take [3,1] [0,2,4] J (M:=[A6 Cp 198 t f s,Ab As ax aw av]) J bf bc.size
    refine An 1 J<|cs<|Al fun _ c5=>wp 1 J<|BO (a1.own_ro (i:=1) J) underlying36 J<|An 1 J<|c5<|A3 J b (fun _ b=>?_)<|fun _ b=>?_
    refine Am 2 J ?_
    refine Aw<|rt hQ J J<|by cases b; exact ⟨bd,be,a0,rfl,bg,a1.sel [3,0,1] J⟩
    refine Au ?_
    exact jx (a6 (az.2) a0 _ b bg (a1.sel [3,0,4] J)) J
   refine Bb<|bs ?_
   refine Am 1 J<|Aw ?_
   have c6:=ao.push0 (r:=Ab As [] (.slice none 0 0) []) J fun _=>.inl ⟨rfl,rfl,rfl⟩
   refine rt hQ J J<|by cases b; exact ⟨.slice none 0 0,[],ae,rfl,a5,c6.sel [1,2,0] J⟩
theorem Rr(a:Af)(c:(List Aki)×Int×List Int)(b:Nat)(g:Ap)(d:List Int)(f:Ac)(h:Ap)(i:Int)(k:Sep 0 a [A6 Cp 198 g b c,Ab As h f d])(r:(List Int)×((List Aki)×Int×List Int))(l:IP c d i=some r) :
  A2 201 [.pointer (some ⟨b,0,none⟩),f,iv i] a fun e w'=>∃(j:Ac)(m H_0:Ap),e=.returned j∧Below 0 (wE a) w'∧Sep 0 w' [A5 a (AP [A6 Cp 198 g b c,Ab As h f d]),A6 Cp 198 H_0 b r.2,Ab As m j r.1] :=
 QP FU a c b g d f h i k r l
theorem VP(d:Af)(c:Akg×Akg×Int×List Int)(h:Ac)(ab:RO At d h c.1)(j:Ac)(am:RO At d j c.2.1)(l:Ac)(an:RO As d l c.2.2.2)(f:Int)(r:Akn)(b:Kw c f=some r) :
  A2 152 [.agg #[h,j,iv c.2.2.1,l],iv f] d fun e w'=>∃(q0:Ac)(G0:Ap),e=.returned (.tuple #[q0,iv r.2])∧Bl d w'∧Sp d w' [Ab As G0 q0 r.1]:=by
 refine cm func152 ntmps152 J fun Q hQ hP hB hS=>?_
 unfold Kw at b
 refine Al fun _ ar=>CV J hB hS fun s w3 _ t ae=>An 2 J<|ar<|Al fun _ av=>AU 0 Bs J ae J J<|bB b fun u8 aw b=>Ds J call196 t ae (M3 w3 c h (ab.ro t) j (am.ro t) l (an.ro t) _ aw) J fun v bf bg _ _ ax af=>wp 1 J<|DS (zs:=([.slice none 0 0,iv 0]++((Ok (List.replicate 900 0))++[]))) (out:=([v,iv f]++((Ok (List.replicate 900 0))++[]))) (vs:=[v,iv f]) (css:=[[v],[iv f]]) Ahp Ah1 J J (by simp only [List.map_cons,List.map_nil,Ch ((af.own_ro (i:=0) J).one)] <;> rfl) (by kernel_rfl) (by kernel_rfl)<|CV J ax af fun g ay _ az a0=>An 1 J<|av<|Ao fun _ a1=>Am 1 J<|A0 ?_
 obtain ⟨a2,a3⟩:∃ F,Sp d ay [A6 Cp 198 F g (u8,f,List.replicate 900 0),Av s 128 [h,j,iv c.2.2.1,l]]:=⟨_,Jv (by rw [List.length_replicate]) (a0.sel [0,1,2] J)⟩
 refine AN (fun m a u=>∃(n:(List Aki)×Int×List Int)(o:Int)(p:Ap),St 30 [(2,.pointer (some ⟨s,0,none⟩)),(6,.pointer (some ⟨g,0,none⟩)),(7,iv o)] a∧Bl d u∧Sp d u [Av s 128 [h,j,iv c.2.2.1,l],A6 Cp 198 p g n]∧E5 c m n o=some r) FU ?_ ?_
 exact fun a ha=>⟨(u8,f,List.replicate 900 0),0,a2,ha.sb J,az,a3.sel [1,0] J,b⟩
 rintro q a u ⟨n,o,p,ha,w,x,b⟩ bh a4
 refine BC ?_ ha
 cases q with
 | zero=>exact Be b
 | succ q =>
  obtain ⟨bi,ag⟩:∃ k,k=E5 c q:=⟨_,rfl⟩
  rw [E5,← ag] at b
  refine Ao fun _ a5=>Al fun _ a6=>wp 1 J<|Bp EX J<|AU 0 Cs J x J J<|BO ab underlying26 J<|An 2 J<|a6<|A3 J b (fun _ b=>?_)<|fun _ b=>?_
  refine Au<|a5 ?_
  refine Ao fun _ a7=>A0<|Al fun _ a8=>wp 2 J ?_
  have y:=x.push0 (r:=Ab As [] (.slice none 0 0) []) J fun _=>.inl ⟨rfl,rfl,rfl⟩
  refine bB b fun z a9 b=>A7 J call201 (Rr u n g p [] (.slice none 0 0) [] o (y.sel [2,0] J).base0 _ a9) J ?_
  rintro _ ba ⟨ah,ai,aj,rfl,bb,ak⟩
  refine ⟨_,rfl,?_⟩
  have al:=y.takeB [2,0] J (M:=[A6 Cp 198 p g n,Ab As [] (.slice none 0 0) []]) J w bb ak
  have aa:Sp d ba [A6 Cp 198 aj g z.2,Ab As ai ah z.1,Av s 128 [h,j,iv c.2.2.1,l]]:=y.take [2,0] [1] J (M:=[A6 Cp 198 p g n,Ab As [] (.slice none 0 0) []]) J ak w.size
  refine An 1 J<|a8<|Al fun _ bc=>wp 1 J<|BO (aa.own_ro (i:=1) J) underlying36 J<|An 1 J<|bc<|A3 J b (fun _ b=>?_)<|fun _ b=>?_
  refine Am 4 J ?_
  refine Aw<|rt hQ J J<|by cases b; exact ⟨ah,ai,rfl,al,aa.sel [1] J⟩
  refine Au<|a7 ?_
  refine Aq<|An 3 J ?_
  rw [ag] at b
  exact fun a ha=>a4 a _ q (AB q) ⟨z.2,Ah (o+1),aj,ha.sb J,al,aa.sel [2,0] J,b⟩
  refine Bb<|a1 ?_
  refine Am 2 J<|Aw ?_
  have bd:=x.push0 (r:=Ab As [] (.slice none 0 0) []) J fun _=>.inl ⟨rfl,rfl,rfl⟩
  refine rt hQ J J<|by cases b; exact ⟨.slice none 0 0,[],rfl,w,bd.sel [0] J⟩
theorem TL(f:Af)(c:Akg×Akg×Int×List Int)(g:Ac)(o:RO At f g c.1)(h:Ac)(t:RO At f h c.2.1)(j:Ac)(u:RO As f j c.2.2.2)(k:Int)(r:Int×Bool)(b:Jg c k=some r) :
  A2 101 [.agg #[g,h,iv c.2.2.1,j],iv k] f fun e w'=>e=.returned (.tuple #[iv r.1,.bool r.2])∧Bl f w':=by
 refine cm func101 ntmps101 J fun Q p m hB hS=>?_
 unfold Jg at b
 refine Al fun _ ar=>CV J hB hS fun b2 w3 _ v ae=>An 2 J<|ar<|Ao fun _ av=>Ao fun K8 ax=>?_
 obtain ⟨ay,az,b⟩:=Cb b
 have af:∀(y:Bool)(w:Af)(_:ay y=some r)(_:Bl f w)(_:Sp f w [Av b2 128 [g,h,iv c.2.2.1,j]]),∀ a,St 44 [(1,iv k),(2,.pointer (some ⟨b2,0,none⟩)),(17,.bool y)] a→K8 a w:=by
  intro y w b ag a0
  subst az
  refine ax<|A3 J b (fun _ b=>?_)<|fun _ b=>?_
  refine Am 2 J ?_
  refine Aw<|rt p J J<|by cases b; exact ⟨rfl,ag⟩
  refine Au<|av ?_
  refine Ao fun _ a1=>Ao fun _ a2=>AQ B1 [] ag a0 fun ah _ ai z=>?_
  have n:=KeepX.refl ah []
  refine Ad 0 J m n<|CN 0 Bs J z J (by simp)<|Ad 1 J m n<|C7 EX J<|Ad 2 J m n<|CN 0 Cs J z J (by simp)<|Ad 3 J m n<|LF (e:=At) (l:=c.1) underlying26 J J o<|Ay 5 J m n<|A1 4 J<|bB b fun a3 a4 b=>Pm (e:=As) underlying36 J J a4 (Bk ah) (Sep.nil _ _) fun a5 bs a6 aa _ a7=>?_
  have x:=tm ai aa
  have aj:=z.join aa a7 ai.size
  have ak:=n.ext aa
  refine Ai<|Ar ak<|A1 6 J<|bB b fun a8 a9 b=>Ds J call150 x aj (Rs a6 c g (o.ro x) h (t.ro x) j (u.ro x) a3 a5 (aj.own_ro (i:=0) J) k _ a9) J fun bt bu ba bb _ q ab=>?_
  have ac:=ak.ext bb
  refine Ai<|Ar ac<|Ad 7 J m ac<|LF (e:=Ct) (l:=a8) underlying155 J J (ab.own_ro (i:=0) J)<|Ad 8 J m ac<|Rb J J J<|Bc<|a2<|A3 J b (fun _ b=>?_)<|fun _ b=>?_
  refine Am 2 J ?_
  refine Aw<|rt p J J<|by cases b; exact ⟨rfl,q⟩
  refine Au<|a1 ?_
  refine Ao fun _ bc=>Al fun _ bd=>AU 2 Bs J ab J J<|wp 1 J<|bB b fun bv be b=>Bn J call151 q ab (XH ba c g (o.ro q) h (t.ro q) j (u.ro q) k _ be) J fun bf _ s al=>An 5 J<|bd<|Am 2 J<|A3 J b (fun _ b=>?_)<|fun _ b=>?_
  refine Am 2 J ?_
  refine Aw<|rt p J J<|by cases b; exact ⟨rfl,s⟩
  refine Au<|bc ?_
  refine Ao fun _ bg=>Al fun _ bh=>AU 2 Bs J al J J<|wp 1 J<|bB b fun bw bi b=>Ds J call152 s al (VP bf c g (o.ro s) h (t.ro s) j (u.ro s) k _ bi) J fun bx bz b0 _ _ am bj=>An 5 J<|bh<|Al fun _ bk=>wp 1 J<|BO (bj.own_ro (i:=0) J) underlying36 J<|An 1 J<|bk<|A3 J b (fun _ b=>?_)<|fun _ b=>?_
  refine Am 2 J ?_
  refine Aw<|rt p J J<|by cases b; exact ⟨rfl,am⟩
  refine Au<|bg ?_
  refine Am 2 J<|Aw<|rt p J J<|by cases b; exact ⟨rfl,am⟩
 refine Aq<|AU 0 Bs J ae J J<|bB b fun bl bm b=>Bn J call148 v ae (XJ w3 c g (o.ro v) h (t.ro v) j (u.ro v) _ bm) J fun bn _ an ao=>wp 2 J ?_
 rcases bE (!bl) with d|d
 replace b:=Bw d b
 refine wo J d<|wo J d<|wo J d<|A8 J J d J<|Ai ?_
 exact jx (af true _ b an (ao.sel [0] J)) J
 replace b:=BI d b
 refine wn J d<|wp 1 J<|wn J d<|bB b fun bo bp b=>Bn J call149 an ao (OU bn k _ bp) J fun b1 _ bq br=>wn J d<|wp 1 J<|Ak J J d J<|Ai ?_
 exact jx (af (!bo) _ b bq (br.sel [0] J)) J
theorem WP(d:Af)(g:Akg)(h:Ac)(v:RO At d h g)(r:Int×Int×Int)(b:Lb g=some r) :
  A2 153 [h] d fun e w'=>e=.returned (.tuple #[iv r.1,iv r.2.1,iv r.2.2])∧Bl d w':=by
 refine cm func153 ntmps153 J fun Q hQ n hB hS=>?_
 unfold Lb at b
 refine Am 3 J<|Am 3 J<|Ao fun _ a2=>Al fun _ a3=>wp 1 J<|BO v underlying26 J<|An 1 J<|a3<|A0<|AN (fun m a w5=>∃(w x y c:Int),St 47 [(0,h),(5,iv w),(6,iv x),(7,iv y),(12,h),(13,iv (List.length g:Int)),(14,iv c)] a∧Bl d w5∧Sp d w5 []∧FP g m w x y c=some r) FU ?_ ?_
 exact fun a ha=>⟨0,0,-1,0,ha.sb J,hB,hS.sel [] J,b⟩
 rintro t a w5 ⟨w,x,y,c,ha,af,a4,b⟩ bz a5
 refine BC ?_ ha
 cases t with
 | zero=>exact Be b
 | succ t =>
  obtain ⟨ai,aj⟩:∃ k,k=FP g t:=⟨_,rfl⟩
  rw [FP,← aj] at b
  refine Am 1 J<|Ao fun _ a6=>A3 J b (fun _ b=>?_)<|fun _ b=>?_
  refine Au<|a6 ?_
  refine Ao fun _ a7=>A0<|Al fun _ a8=>wp 1 J<|bB b fun i a9 b=>BT (e:=At) underlying26 J J J v a9 ?_
  rintro b0 _ rfl ba
  refine BZ Bt J (ba.ro af) J<|EE Bt J af a4 fun o b1 _ bb bc=>wp 1 J<|GC 0 Bt J J bb bc J J J fun b2 _ bd be=>Ai<|a8<|Am 3 J<|A0<|AN (fun m a ag=>∃(p q j l:Int),St 47 [(0,h),(5,iv p),(6,iv q),(7,iv j),(8,iv c),(9,.pointer (some ⟨o,0,none⟩)),(10,iv l),(12,h),(13,iv (List.length g:Int)),(14,iv c)] a∧Bl d ag∧Sp d ag [Av o 79 [iv i.1,iv i.2]]∧DP g i c ai m p q j l=some r) FU ?_ ?_
  exact fun a ha=>⟨w,x,y,Ah (c+1),ha.sb J,bd,be.sel [0] J,b⟩
  rintro u a ag ⟨p,q,j,l,ha,ak,al,b⟩ b3 bf
  refine BC ?_ ha
  cases u with
  | zero=>exact Be b
  | succ u =>
   obtain ⟨b4,am⟩:∃ k,k=DP g i c ai u:=⟨_,rfl⟩
   rw [DP,← am] at b
   refine Ao fun _ bg=>Al fun _ bh=>wp 2 J<|BO v underlying26 J<|An 1 J<|bh<|A3 J b (fun _ b=>?_)<|fun _ b=>?_
   refine Au<|bg ?_
   refine Ao fun bi bj=>?_
   obtain ⟨bk,bl,b⟩:=jE3 b
   have an:∀(z aa ab:Int)(ac:Af)(_:bk z aa ab=some r)(_:Bl d ac)(_:Sp d ac [Av o 79 [iv i.1,iv i.2]]),∀ a,St 47 [(0,h),(5,iv z),(6,iv aa),(7,iv ab),(8,iv c),(9,.pointer (some ⟨o,0,none⟩)),(10,iv l),(12,h),(13,iv (List.length g:Int)),(14,iv c)] a→bi a ac:=by
    intro z aa ab ac b bm bn
    subst bl
    refine bj<|Aq<|An 3 J ?_
    rw [am] at b
    exact fun a ha=>bf a _ u (AB u) ⟨z,aa,ab,Ah (l+1),ha.sb J,bm,bn.sel [0] J,b⟩
   refine A0<|Ao fun _ bo=>AQ B1 [] ak al fun ao _ ap aq=>?_
   have s:=KeepX.refl ao []
   refine Ad 0 J n s<|CN 0 Bt J aq J (by simp)<|Ay 1 J n s<|Ay 2 J n s<|bB b fun bp bq b=>Ad 3 J n s<|B7 (e:=At) underlying26 J J J v bq ?_
   rintro b5 _ rfl br
   refine Ad 4 J n s<|BR Bt J (br.kx ap (by simp)) J<|A1 5 J<|bB b fun u64 bs b=>Bn J call194 ap aq (LV ao i bp _ bs) J fun b6 bt ar au=>?_
   have av:=s.ext bt
   refine Ai<|Ar av<|Ad 6 J n av<|AD J J<|Bc<|bo<|Ao fun bu bv=>?_
   obtain ⟨bw,bx,b⟩:=Cb b
   have aw:∀(ah:Bool)(ad:Af)(_:bw ah=some r)(_:Bl d ad)(_:Sp d ad [Av o 79 [iv i.1,iv i.2]]),∀ a,St 47 [(0,h),(5,iv p),(6,iv q),(7,iv j),(8,iv c),(9,.pointer (some ⟨o,0,none⟩)),(10,iv l),(11,iv u64),(12,h),(13,iv (List.length g:Int)),(14,iv c),(39,.bool ah)] a→bu a ad:=by
    intro ah ad b ax ay
    subst bx
    refine bv<|A3 J b (fun _ b=>?_)<|fun _ b=>?_
    refine Am 2 J ?_
    refine Am 2 J<|Aq<|An 2 J ?_
    exact jx (an c l u64 _ b ax (ay.sel [0] J)) J
    refine Au ?_
    exact jx (an p q j _ b ax (ay.sel [0] J)) J
   refine Aq<|wp 3 J ?_
   rcases bE (decide (j<0)) with f|f
   replace b:=Bw f b
   refine wo J f<|wo J f<|wo J f<|A8 J J f J<|Ai ?_
   exact jx (aw true _ b ar (au.sel [0] J)) J
   replace b:=BI f b
   refine wn J f<|wp 1 J<|wn J f<|wp 1 J<|wn J f<|wp 1 J<|Ak J J f J<|Ai ?_
   exact jx (aw (decide (u64<j)) _ b ar (au.sel [0] J)) J
   refine Bb<|a7 ?_
   refine Aq<|An 2 J ?_
   rw [aj] at b
   exact fun a ha=>a5 a _ t (AB t) ⟨p,q,j,Ah (c+1),ha.sb J,ak,al.sel [] J,b⟩
  refine Bb<|a2 ?_
  refine Am 6 J<|Aw<|rt hQ J J<|by cases b; exact ⟨rfl,af⟩
theorem Te(d:Af)(f:Akg)(g:Ac)(i:RO At d g f)(r:Int×Bool)(b:E7 f=some r) :
  A2 102 [g] d fun e w'=>e=.returned (.tuple #[iv r.1,.bool r.2])∧Bl d w':=by
 refine cm func102 ntmps102 J fun Q l hP m q=>?_
 unfold E7 at b
 refine Am 2 J<|Ao fun _ s=>Ao fun t u=>?_
 obtain ⟨v,w,b⟩:=Cb b
 have n:∀(j:Bool)(h:Af)(_:v j=some r)(_:Bl d h)(_:Sp d h []),∀ a,St 22 [(0,g),(14,.bool j)] a→t a h:=by
  intro j h b k ae
  subst w
  refine u<|A3 J b (fun _ b=>?_)<|fun _ b=>?_
  refine Am 2 J ?_
  refine Aw<|rt l J J<|by cases b; exact ⟨rfl,k⟩
  refine Au<|s ?_
  refine Al fun _ x=>wp 1 J<|bB b fun af y b=>A7 J call153 (WP h f g (i.ro k) _ y) J ?_
  rintro _ ag ⟨rfl,z⟩
  refine ⟨_,rfl,?_⟩
  have aa:=tm k z
  refine An 7 J<|x<|Am 3 J<|Aw<|rt l J J<|by cases b; exact ⟨rfl,aa⟩
 refine Aq<|wp 1 J<|bB b fun ab ac b=>Bn J call132 m q (Kn d f g (i.ro m) _ ac) J fun ah _ o p=>wp 2 J ?_
 rcases bE (!ab) with c|c
 replace b:=Bw c b
 refine wo J c<|wo J c<|wo J c<|A8 J J c J<|Ai ?_
 exact jx (n true _ b o (p.sel [] J)) J
 replace b:=BI c b
 refine wn J c<|wp 1 J<|wn J c<|BO i underlying26 J<|wn J c<|wp 1 J<|Ak J J c J<|Ai ?_
 exact jx (n (decide ((List.length f:Int)<2)) _ b o (p.sel [] J)) J
theorem VQ(c:Af)(d:Akg)(i:Ac)(n:RO BN c i d)(r:Int)(b:Kx d=some r) :
  A2 202 [i] c fun e w'=>e=.returned (iv r)∧Bl c w':=by
 refine cm func202 ntmps202 J fun Q q hP s t=>?_
 unfold Kx at b
 refine Am 1 J<|Am 1 J<|Ao fun _ u=>Al fun _ v=>wp 1 J<|BO n underlying31 J<|An 1 J<|v<|A0<|AN (fun m a j=>∃(g h:Int),St 18 [(3,iv g),(6,i),(7,iv (List.length d:Int)),(8,iv h)] a∧Bl c j∧Sp c j []∧Fk d m g h=some r) FU ?_ ?_
 exact fun a ha=>⟨0,0,ha.sb J,s,t.sel [] J,b⟩
 rintro f a j ⟨g,h,ha,l,w,b⟩ ai x
 refine BC ?_ ha
 cases f with
 | zero=>exact Be b
 | succ f =>
  obtain ⟨aj,o⟩:∃ k,k=Fk d f:=⟨_,rfl⟩
  rw [Fk,← o] at b
  refine Am 1 J<|Ao fun _ y=>A3 J b (fun _ b=>?_)<|fun _ b=>?_
  refine Au<|y ?_
  refine Ao fun _ z=>A0<|Al fun _ aa=>bB b fun ab ac b=>BT (e:=BN) underlying31 J J J n ac ?_
  rintro ak _ rfl ad
  refine BZ Hb J (ad.ro l) J<|EE Hb J l w fun al am _ ae af=>GC 0 Hb J J ae af J J J fun an _ ag p=>Ai<|aa<|Aq<|wp 1 J<|Bp LI J<|AU 0 A9 J p J J<|An 2 J<|z<|Aq<|An 2 J ?_
  rw [o] at b
  exact fun a ha=>x a _ f (AB f) ⟨Ah (g+ab.1),Ah (h+1),ha.sb J,ag,p.sel [] J,b⟩
  refine Bb<|u ?_
  refine Am 2 J<|Aw<|rt q J J<|by cases b; exact ⟨rfl,l⟩
theorem XK(d:Af)(f:Akg)(g:Ac)(l:RO BN d g f)(i:Int)(r:Bool)(b:MS f i=some r) :
  A2 154 [g,iv i] d fun e w'=>e=.returned (.bool r)∧Bl d w':=by
 refine cm func154 ntmps154 J fun Q p hP m q=>?_
 unfold MS at b
 refine Am 1 J<|Ao fun s t=>?_
 obtain ⟨u,v,b⟩:=Cb b
 have n:∀(j:Bool)(h:Af)(_:u j=some r)(_:Bl d h)(_:Sp d h []),∀ a,St 13 [(4,.bool j)] a→s a h:=by
  intro j h b w ak
  subst v
  refine t<|Aw<|rt p J J<|by cases b; exact ⟨rfl,w⟩
 refine Aq<|wp 1 J<|bB b fun x y b=>Bn J call93 m q (Sf d f g (l.ro m) _ y) J fun z _ k o=>wp 1 J ?_
 rcases bE x with c|c
 replace b:=Bw c b
 refine wn J c<|wp 1 J<|wn J c<|wp 1 J<|wn J c<|bB b fun aa ab b=>Bn J call202 k o (VQ z f g (l.ro k) _ ab) J fun ac _ ad ae=>wn J c<|bB b fun af ag b=>Bn J call77 ad ae (Cr ac i 0 aa _ ag) J fun al _ ah ai=>A8 J J c J<|An 1 J ?_
 exact jx (n af _ b ah (ai.sel [] J)) J
 replace b:=BI c b
 refine wo J c<|wo J c<|wo J c<|wo J c<|Ak J J c J<|An 1 J ?_
 exact jx (n false _ b k (o.sel [] J)) J
theorem Rt(d:Af)(f c r:Int)(a:Iq f c=some r) :
  A2 203 [iv f,iv c] d fun e w'=>e=.returned (iv r)∧Bl d w':=by
 refine cm func203 ntmps203 J fun Q g j h _=>?_
 unfold Iq at a
 refine Am 1 J<|Al fun _ i=>wp 3 J ?_
 have b:c≠0:=fun b=>Be (Bw b a)
 replace a:=Md b a
 refine O0 J J J b<|An 1 J<|i<|Aw<|rt g J J<|by cases a; exact ⟨rfl,h⟩
theorem XL(c:Af)(d:Akg)(n:Ac)(s:RO BN c n d)(o r:Int)(b:Gz d o=some r) :
  A2 155 [n,iv o] c fun e w'=>e=.returned (iv r)∧Bl c w':=by
 refine cm func155 ntmps155 J fun Q t hP y z=>?_
 unfold Gz at b
 refine Am 1 J<|Am 1 J<|Ao fun _ aa=>Al fun _ ab=>wp 1 J<|BO s underlying31 J<|An 1 J<|ab<|A0<|AN (fun m a p=>∃(f i j:Int),St 37 [(1,iv f),(5,iv i),(8,n),(9,iv (List.length d:Int)),(10,iv j)] a∧Bl c p∧Sp c p []∧Dy d m f i j=some r) FU ?_ ?_
 exact fun a ha=>⟨o,0,0,ha.sb J,y,z.sel [] J,b⟩
 rintro g a p ⟨f,i,j,ha,q,ac,b⟩ ay ad
 refine BC ?_ ha
 cases g with
 | zero=>exact Be b
 | succ g =>
  obtain ⟨az,u⟩:∃ k,k=Dy d g:=⟨_,rfl⟩
  rw [Dy,← u] at b
  refine Am 1 J<|Ao fun _ ae=>A3 J b (fun _ b=>?_)<|fun _ b=>?_
  refine Au<|ae ?_
  refine Ao fun _ af=>A0<|Al fun _ ag=>bB b fun l ah b=>BT (e:=BN) underlying31 J J J s ah ?_
  rintro a0 _ rfl ai
  refine BZ Hb J (ai.ro q) J<|EE Hb J q ac fun a1 a2 _ aj ak=>GC 0 Hb J J aj ak J J J fun v _ w h=>Ai<|ag<|Ao fun _ al=>Al fun _ am=>wp 1 J<|Bp LI J<|AU 0 A9 J h J J<|An 1 J<|am<|A3 J b (fun _ b=>?_)<|fun _ b=>?_
  refine Al fun _ an=>?_
  refine wp 2 J<|Bp Pw J<|AU 0 A9 J h J J<|bB b fun a3 ao b=>A7 J call203 (Rt v f l.2 _ ao) J ?_
  rintro _ a4 ⟨rfl,ap⟩
  refine ⟨_,rfl,?_⟩
  have aq:=tm w ap
  refine An 2 J<|an<|Aw<|rt t J J<|by cases b; exact ⟨rfl,aq⟩
  refine Au<|al ?_
  refine Al fun _ ar=>wp 1 J<|Bp LI J<|AU 0 A9 J h J J<|Bp Pw J<|AU 0 A9 J h J J<|bB b fun au av b=>Bn J call203 w h (Rt v l.1 l.2 _ av) J fun a5 _ aw x=>An 2 J<|ar<|Aq<|wp 1 J<|Bp LI J<|AU 0 A9 J x J J<|An 2 J<|af<|Aq<|An 2 J ?_
  rw [u] at b
  exact fun a ha=>ad a _ g (AB g) ⟨Ah (f-l.1),Ah (i+au),Ah (j+1),ha.sb J,aw,x.sel [] J,b⟩
  refine Bb<|aa ?_
  refine Am 2 J<|Aw<|rt t J J<|by cases b; exact ⟨rfl,q⟩
theorem XR(b:Af)(c:Akg)(d:Ac)(h:RO BN b d c)(f:Int)(r:Int×Bool)(a:LB c f=some r) :
  A2 103 [d,iv f] b fun e w'=>e=.returned (.tuple #[iv r.1,.bool r.2])∧Bl b w':=by
 refine cm func103 ntmps103 J fun Q i u j _=>?_
 unfold LB at a
 refine Am 2 J<|Ao fun _ k=>Al fun _ l=>wp 2 J<|bB a fun v m a=>A7 J call154 (XK b c d (h.ro j) f _ m) J ?_
 rintro _ n ⟨rfl,o⟩
 refine ⟨_,rfl,?_⟩
 have g:=tm j o
 refine An 1 J<|l<|A3 J a (fun _ a=>?_)<|fun _ a=>?_
 refine Am 2 J ?_
 refine Aw<|rt i J J<|by cases a; exact ⟨rfl,g⟩
 refine Au<|k ?_
 refine Al fun _ p=>wp 2 J<|bB a fun w q a=>A7 J call155 (XL n c d (h.ro g) f _ q) J ?_
 rintro _ x ⟨rfl,s⟩
 refine ⟨_,rfl,?_⟩
 have t:=tm g s
 refine An 2 J<|p<|Aw<|rt i J J<|by cases a; exact ⟨rfl,t⟩
theorem WS(b:Af)(c:Int)(r:Bool)(a:My c=some r) :
  A2 157 [iv c] b fun e w'=>e=.returned (.bool r)∧Bl b w':=by
 refine cm func157 ntmps157 J fun Q d k f _=>?_
 unfold My at a
 refine Am 1 J<|Al fun _ g=>wp 1 J<|bB a fun l h a=>A7 J call77 (Cr b c 0 999 _ h) J ?_
 rintro _ m ⟨rfl,i⟩
 refine ⟨_,rfl,?_⟩
 have j:=tm f i
 refine An 1 J<|g<|Aw<|rt d J J<|by cases a; exact ⟨rfl,j⟩
theorem Uo(q:Af)(u:Akh)(x:Ac)(ad:RO A4 q x u)(p n o r:Int)(b:LK u p n o=some r) :
  A2 158 [x,iv p,iv n,iv o] q fun e w'=>e=.returned (iv r)∧Bl q w':=by
 refine cm func158 ntmps158 J fun Q hQ hP hB hS=>?_
 unfold LK at b
 refine Am 1 J<|Ao fun _ aj=>Al fun _ ak=>wp 1 J<|BO ad underlying72 J<|An 1 J<|ak<|A0<|AN (fun m a w4=>∃(v:Int),St 47 [(1,iv p),(2,iv n),(3,iv o),(11,x),(12,iv (List.length u:Int)),(13,iv v)] a∧Bl q w4∧Sp q w4 []∧Hq u p n o m v=some r) FU ?_ ?_
 exact fun a ha=>⟨0,ha.sb J,hB,hS.sel [] J,b⟩
 rintro w a w4 ⟨v,ha,ab,al,b⟩ bi am
 refine BC ?_ ha
 cases w with
 | zero=>exact Be b
 | succ w =>
  obtain ⟨bj,af⟩:∃ k,k=Hq u p n o w:=⟨_,rfl⟩
  rw [Hq,← af] at b
  refine Am 1 J<|Ao fun _ an=>A3 J b (fun _ b=>?_)<|fun _ b=>?_
  refine Au<|an ?_
  refine Ao fun _ ao=>A0<|Al fun _ ap=>wp 1 J<|bB b fun l aq b=>BT (e:=A4) underlying72 J J J ad aq ?_
  rintro bk _ rfl ar
  refine BZ BJ J (ar.ro ab) J<|EE BJ J ab al fun bl bm _ au av=>wp 1 J<|GC 0 BJ J J au av J J J fun y _ s f=>Ai<|ap<|Ao fun aw ax=>?_
  obtain ⟨ay,az,b⟩:=Cb b
  have t:∀(ac:Bool)(z:Af)(_:ay ac=some r)(_:Bl q z)(_:Sp q z []),∀ a,St 47 [(1,iv p),(2,iv n),(3,iv o),(9,iv v),(11,x),(12,iv (List.length u:Int)),(13,iv v),(44,.bool ac)] a→aw a z:=by
   intro ac z b ag a0
   subst az
   refine ax<|A3 J b (fun _ b=>?_)<|fun _ b=>?_
   refine Am 2 J ?_
   refine Aw<|rt hQ J J<|by cases b; exact ⟨rfl,ag⟩
   refine Au<|ao ?_
   refine Aq<|An 2 J ?_
   rw [af] at b
   exact fun a ha=>am a _ w (AB w) ⟨Ah (v+1),ha.sb J,ag,a0.sel [] J,b⟩
  refine Aq<|wp 3 J ?_
  rcases bE (p==0) with h|h
  replace b:=Bw h b
  refine wo J h<|wo J h<|wo J h<|wo J h<|A8 J J h J<|wp 1 J<|wn J J<|wp 1 J<|wn J J<|wp 1 J<|wn J J<|wp 1 J ?_
  rcases bE (n==0) with i|i
  replace b:=Bw i b
  refine wo J i<|wo J i<|wo J i<|wo J i<|wn J J<|A8 J J i J<|A8 J J J J<|wp 1 J<|wn J J<|wp 1 J<|wn J J<|Bp Ee J<|wn J J<|AU 0 A9 J f J J<|wn J J<|Bp H8 J<|wn J J<|AU 0 A9 J f J J<|wn J J<|wp 1 J<|wn J J<|bB b fun a1 a2 b=>Bn J call77 s f (Cr y o l.2.2.1 (Ah (l.2.2.2-1)) _ a2) J fun bn _ a3 a4=>A8 J J J J<|Ai ?_
  exact jx (t a1 _ b a3 (a4.sel [] J)) J
  replace b:=BI i b
  refine wn J i<|Bp KK J<|wn J i<|AU 0 A9 J f J J<|wn J i<|wp 1 J<|wn J i<|wp 1 J<|wn J J<|Ak J J i J<|A8 J J J J<|wp 1 J ?_
  rcases bE (l.1==n) with c|c
  replace b:=Bw c b
  refine wn J c<|wp 1 J<|wn J c<|Bp Ee J<|wn J c<|AU 0 A9 J f J J<|wn J c<|Bp H8 J<|wn J c<|AU 0 A9 J f J J<|wn J c<|wp 1 J<|wn J c<|bB b fun a5 a6 b=>Bn J call77 s f (Cr y o l.2.2.1 (Ah (l.2.2.2-1)) _ a6) J fun bo _ a7 a8=>A8 J J c J<|Ai ?_
  exact jx (t a5 _ b a7 (a8.sel [] J)) J
  replace b:=BI c b
  refine wo J c<|wo J c<|wo J c<|wo J c<|wo J c<|wo J c<|wo J c<|Ak J J c J<|Ai ?_
  exact jx (t false _ b s (f.sel [] J)) J
  replace b:=BI h b
  refine wn J h<|Bp IW J<|wn J h<|AU 0 A9 J f J J<|wn J h<|wp 1 J<|wn J h<|wp 1 J<|Ak J J h J<|wp 1 J ?_
  rcases bE (l.2.1==p) with g|g
  replace b:=Bw g b
  refine wn J g<|wp 1 J<|wn J g<|wp 1 J<|wn J g<|wp 1 J ?_
  rcases bE (n==0) with j|j
  replace b:=Bw j b
  refine wo J j<|wo J j<|wo J j<|wo J j<|wn J g<|A8 J J j J<|A8 J J g J<|wp 1 J<|wn J J<|wp 1 J<|wn J J<|Bp Ee J<|wn J J<|AU 0 A9 J f J J<|wn J J<|Bp H8 J<|wn J J<|AU 0 A9 J f J J<|wn J J<|wp 1 J<|wn J J<|bB b fun a9 ba b=>Bn J call77 s f (Cr y o l.2.2.1 (Ah (l.2.2.2-1)) _ ba) J fun bp _ bb bc=>A8 J J J J<|Ai ?_
  exact jx (t a9 _ b bb (bc.sel [] J)) J
  replace b:=BI j b
  refine wn J j<|Bp KK J<|wn J j<|AU 0 A9 J f J J<|wn J j<|wp 1 J<|wn J j<|wp 1 J<|wn J g<|Ak J J j J<|A8 J J g J<|wp 1 J ?_
  rcases bE (l.1==n) with d|d
  replace b:=Bw d b
  refine wn J d<|wp 1 J<|wn J d<|Bp Ee J<|wn J d<|AU 0 A9 J f J J<|wn J d<|Bp H8 J<|wn J d<|AU 0 A9 J f J J<|wn J d<|wp 1 J<|wn J d<|bB b fun bd be b=>Bn J call77 s f (Cr y o l.2.2.1 (Ah (l.2.2.2-1)) _ be) J fun bq _ bf bg=>A8 J J d J<|Ai ?_
  exact jx (t bd _ b bf (bg.sel [] J)) J
  replace b:=BI d b
  refine wo J d<|wo J d<|wo J d<|wo J d<|wo J d<|wo J d<|wo J d<|Ak J J d J<|Ai ?_
  exact jx (t false _ b s (f.sel [] J)) J
  replace b:=BI g b
  refine wo J g<|wo J g<|wo J g<|D5 J J J<|D5 J J J<|D5 J J J<|D5 J J J<|wo J g<|Ak J J g J<|wp 1 J<|wo J J<|wo J J<|wo J J<|wo J J<|wo J J<|wo J J<|wo J J<|Ak J J J J<|Ai ?_
  exact jx (t false _ b s (f.sel [] J)) J
  refine Bb<|aj ?_
  refine Am 1 J<|Aw<|rt hQ J J<|by cases b; exact ⟨rfl,ab⟩
theorem UI(g:Af)(k:Akh)(h:Ac)(m:RO A4 g h k)(i j:Int)(r:Int×Bool)(b:JI k i j=some r) :
  A2 104 [h,iv i,iv j] g fun e w'=>e=.returned (.tuple #[iv r.1,.bool r.2])∧Bl g w':=by
 refine cm func104 ntmps104 J fun Q t hP u hS=>?_
 unfold JI at b
 refine Am 2 J<|Ao fun _ ac=>Ao fun K3 ae=>?_
 obtain ⟨k8,ag,b⟩:=Cb b
 have n:∀(p:Bool)(l:Af)(_:k8 p=some r)(_:Bl g l)(_:Sp g l []),∀ a,St 36 [(0,h),(1,iv i),(2,iv j),(27,.bool p)] a→K3 a l:=by
  intro p l b q a2
  subst ag
  refine ae<|A3 J b (fun _ b=>?_)<|fun _ b=>?_
  refine Am 2 J ?_
  refine Aw<|rt t J J<|by cases b; exact ⟨rfl,q⟩
  refine Au<|ac ?_
  refine Al fun _ ah=>wp 4 J<|bB b fun a3 ai b=>A7 J call158 (Uo l k h (m.ro q) i 0 j _ ai) J ?_
  rintro _ a4 ⟨rfl,aj⟩
  refine ⟨_,rfl,?_⟩
  have v:=tm q aj
  refine bB b fun a5 ak b=>BT (e:=A4) underlying72 J J J m ak ?_
  rintro a6 _ rfl al
  refine Lm (o:=0) KK J J<|BZ A9 J ((al.ro v).add 0) J<|An 2 J<|ah<|Aw<|rt t J J<|by cases b; exact ⟨rfl,v⟩
 refine Aq<|wp 1 J<|bB b fun am an b=>Bn J call137 u hS (Sj g k h (m.ro u) _ an) J fun ao _ w x=>wp 2 J ?_
 rcases bE (!am) with d|d
 replace b:=Bw d b
 refine wo J d<|wo J d<|wo J d<|A8 J J d J<|wp 1 J<|wo J J<|wo J J<|wo J J<|A8 J J J J<|wp 1 J<|wo J J<|wo J J<|wo J J<|wo J J<|wo J J<|A8 J J J J<|Ai ?_
 exact jx (n true _ b w (x.sel [] J)) J
 replace b:=BI d b
 refine wn J d<|wp 1 J<|wn J d<|bB b fun ap aq b=>Bn J call156 w x (Si ao i _ aq) J fun ar _ y z=>wn J d<|wp 1 J<|Ak J J d J<|wp 1 J ?_
 rcases bE (!ap) with f|f
 replace b:=Bw f b
 refine wo J f<|wo J f<|wo J f<|A8 J J f J<|wp 1 J<|wo J J<|wo J J<|wo J J<|wo J J<|wo J J<|A8 J J J J<|Ai ?_
 exact jx (n true _ b y (z.sel [] J)) J
 replace b:=BI f b
 refine wn J f<|wp 1 J<|wn J f<|bB b fun au av b=>Bn J call157 y z (WS ar j _ av) J fun aw _ s aa=>wn J f<|wp 1 J<|Ak J J f J<|wp 1 J ?_
 rcases bE (!au) with c|c
 replace b:=Bw c b
 refine wo J c<|wo J c<|wo J c<|wo J c<|wo J c<|A8 J J c J<|Ai ?_
 exact jx (n true _ b s (aa.sel [] J)) J
 replace b:=BI c b
 refine wn J c<|wp 1 J<|wn J c<|wp 1 J<|wn J c<|wp 1 J<|wn J c<|bB b fun ax ay b=>Bn J call158 s aa (Uo aw k h (m.ro s) i 0 j _ ay) J fun a7 _ az a0=>wn J c<|wp 1 J<|Ak J J c J<|Ai ?_
 exact jx (n (decide (ax<0)) _ b az (a0.sel [] J)) J
theorem Zt(d:Af)(f:Akj)(h:Ac)(k:RO Cg d h f)(i:Int)(r:Bool)(b:NC f i=some r) :
  A2 159 [h,iv i] d fun e w'=>e=.returned (.bool r)∧Bl d w':=by
 refine cm func159 ntmps159 J fun Q p hP l q=>?_
 unfold NC at b
 refine Am 1 J<|Ao fun s t=>?_
 obtain ⟨u,v,b⟩:=Cb b
 have m:∀(j:Bool)(g:Af)(_:u j=some r)(_:Bl d g)(_:Sp d g []),∀ a,St 14 [(4,.bool j)] a→s a g:=by
  intro j g b w af
  subst v
  refine t<|Aw<|rt p J J<|by cases b; exact ⟨rfl,w⟩
 refine Aq<|wp 1 J<|bB b fun x y b=>Bn J call138 l q (OJ d f h (k.ro l) _ y) J fun z _ n o=>wp 1 J ?_
 rcases bE x with c|c
 replace b:=Bw c b
 refine wn J c<|wp 1 J<|wn J c<|wp 1 J<|wn J c<|BO k underlying41 J<|wn J c<|wp 1 J<|wn J c<|bB b fun aa ab b=>Bn J call77 n o (Cr z i 0 (Ah ((List.length f:Int)-1)) _ ab) J fun ag _ ac ad=>A8 J J c J<|An 1 J ?_
 exact jx (m aa _ b ac (ad.sel [] J)) J
 replace b:=BI c b
 refine wo J c<|wo J c<|wo J c<|wo J c<|wo J c<|Ak J J c J<|An 1 J ?_
 exact jx (m false _ b n (o.sel [] J)) J
theorem Zs(c:Af)(g:Akj)(j:Ac)(z:RO Cg c j g)(n:Int)(r:List Int)(b:Mi g n=some r) :
  A2 204 [j,iv n] c fun e w'=>∃(t:Ac)(G0:Ap),e=.returned t∧Bl c w'∧Sp c w' [Ab As G0 t r]:=by
 refine cm func204 ntmps204 J fun Q hQ hP hB hS=>?_
 unfold Mi at b
 refine Am 1 J<|Am 1 J<|Ao fun _ ae=>A0<|AN (fun m a p=>∃(d:Int)(q:List Int)(h:Ac)(s:Ap),St 18 [(0,j),(1,iv d),(5,h)] a∧Bl c p∧Sp c p [Ab As s h q]∧Fg g m d q=some r) FU ?_ ?_
 have af:=hS.push0 (r:=Ab As [] (.slice none 0 0) []) J fun _=>.inl ⟨rfl,rfl,rfl⟩
 exact fun a ha=>⟨n,[],.slice none 0 0,[],ha.sb J,hB,af.sel [0] J,b⟩
 rintro f a p ⟨d,q,h,s,ha,u,v,b⟩ aw ag
 refine BC ?_ ha
 cases f with
 | zero=>exact Be b
 | succ f =>
  obtain ⟨ax,w⟩:∃ k,k=Fg g f:=⟨_,rfl⟩
  rw [Fg,← w] at b
  refine Ao fun _ ah=>Am 2 J<|A3 J b (fun _ b=>?_)<|fun _ b=>?_
  refine Au<|ah ?_
  refine Ao fun _ ai=>A0<|Aq<|wp 1 J<|AZ (vs:=[iv d]) (l:=[d]) Cl underlying36 J J J J J J u v fun ay az aj _ ak x=>wp 1 J<|bB b fun al am b=>AE (i:=0) (S:=(·<aj.heap.size)) Cl underlying36 J J J ak x J (x.own_ro (i:=1) J) am fun an ao a0 _ y ap=>An 1 J<|ai<|Aq<|wp 2 J<|bB b fun aq ar b=>BT (e:=Cg) underlying41 J J J z ar ?_
  rintro a1 _ rfl au
  refine Lm (o:=0) Pv J J<|BZ A9 J ((au.ro y).add 0) J<|An 1 J ?_
  rw [w] at b
  exact fun a ha=>ag a _ f (AB f) ⟨aq.1,al,an,ao,ha.sb J,y,ap.sel [0] J,b⟩
  refine Bb<|ae ?_
  refine Am 2 J<|Aw<|rt hQ J J<|by cases b; exact ⟨h,s,rfl,u,v.sel [0] J⟩
theorem WF(g:Af)(j:Akj)(q:Ac)(ac:RO Cg g q j)(n:Int)(r:List Int)(c:KX j n=some r) :
  A2 160 [q,iv n] g fun e w'=>∃(q0:Ac)(G0:Ap),e=.returned q0∧Bl g w'∧Sp g w' [Ab As G0 q0 r]:=by
 refine cm func160 ntmps160 J fun Q hQ f hB hS=>?_
 unfold KX at c
 refine Am 1 J<|Am 1 J<|Ao fun _ az=>A0<|AN (fun m a v=>∃(w:List Int)(x:Ac)(F9:Ap),St 36 [(0,q),(1,iv n),(5,x)] a∧Bl g v∧Sp g v [Ab As F9 x w]∧FJ j n m w=some r) FU ?_ ?_
 have a0:=hS.push0 (r:=Ab As [] (.slice none 0 0) []) J fun _=>.inl ⟨rfl,rfl,rfl⟩
 exact fun a ha=>⟨[],.slice none 0 0,[],ha.sb J,hB,a0.sel [0] J,c⟩
 rintro s a v ⟨w,x,F9,ha,ae,af,c⟩ bw a1
 refine BC ?_ ha
 cases s with
 | zero=>exact Be c
 | succ s =>
  obtain ⟨bx,al⟩:∃ k,k=FJ j n s:=⟨_,rfl⟩
  rw [FJ,← al] at c
  refine Ao fun _ a2=>Al fun _ a3=>wp 1 J<|BO (af.own_ro (i:=0) J) underlying36 J<|An 1 J<|a3<|A3 J c (fun _ c=>?_)<|fun _ c=>?_
  refine Au<|a2 ?_
  refine A0<|Aq<|wp 1 J<|AZ (vs:=[iv (-1)]) (l:=[-1]) Cl underlying36 J J J J J J ae af fun bz b0 a4 _ a5 am=>bB c fun a6 a7 c=>AE (i:=1) (S:=(·<a4.heap.size)) Cl underlying36 J J J a5 am J (am.own_ro (i:=0) J) a7 fun a8 a9 b1 _ ba bb=>An 1 J ?_
  rw [al] at c
  exact fun a ha=>a1 a _ s (AB s) ⟨a6,a8,a9,ha.sb J,ba,bb.sel [1] J,c⟩
  refine Bb<|az ?_
  refine Ao fun _ bc=>Al fun _ bd=>wp 2 J<|bB c fun y be c=>Ds J call204 ae af (Zs v j q (ac.ro ae) n _ be) J fun an bf b2 _ _ bg ao=>BO (ao.own_ro (i:=0) J) underlying36 J<|An 1 J<|bd<|A0<|AN (fun m a ag=>∃(z:List Int)(aa:Int)(t:Ac)(p:Ap),St 36 [(0,q),(5,t),(16,an),(17,iv (List.length y:Int)),(18,iv aa)] a∧Bl g ag∧Sp g ag [Ab As p t z,Ab As bf an y]∧FI y j m z aa=some r) FU ?_ ?_
  exact fun a ha=>⟨w,0,x,F9,ha.sb J,bg,ao.sel [1,0] J,c⟩
  rintro u a ag ⟨z,aa,t,p,ha,ap,ah,c⟩ b3 bh
  refine BC ?_ ha
  cases u with
  | zero=>exact Be c
  | succ u =>
   obtain ⟨b4,aq⟩:∃ k,k=FI y j u:=⟨_,rfl⟩
   rw [FI,← aq] at c
   refine Am 1 J<|Ao fun _ bi=>A3 J c (fun _ c=>?_)<|fun _ c=>?_
   refine Au<|bi ?_
   refine Ao fun _ bj=>A0<|Al fun _ bk=>bB c fun b5 bl c=>Co (e:=As) (i:=1) underlying36 J J J ah J bl ?_
   rintro b6 _ rfl bm b7
   refine BZ A9 J bm J<|An 1 J<|bk<|AQ B1 p ap ah fun bn _ ai ab=>?_
   have d:=KeepX.refl bn p
   refine Ay 0 J f d<|Ay 1 J f d<|Ay 2 J f d<|bB c fun u64 bo c=>Ad 3 J f d<|B7 (e:=Cg) underlying41 J J J ac bo ?_
   rintro b8 _ rfl bp
   refine Ad 4 J f d<|CI (o:=1) Pu J J<|Ad 5 J f d<|BR A9 J (EAt.addk (bp.kx ai (fun b hb=>(((ab.get (i:=0) J).2.1 b hb).1))) 1) J<|Ay 6 J f d<|Ay 7 J f d<|bB c fun aj bq c=>Ad 8 J f d<|B7 (e:=Cg) underlying41 J J J ac bq ?_
   rintro b9 _ rfl br
   refine Ad 9 J f d<|CI (o:=2) Pt J J<|Ad 10 J f d<|BR A9 J (EAt.addk (br.kx ai (fun b hb=>(((ab.get (i:=0) J).2.1 b hb).1))) 2) J<|bB c fun ca ar c=>Ad 11 J f d<|Bx (e:=As) (i:=0) underlying36 J J J ab J ar ?_
   rintro cb _ rfl cc bs
   refine A1 12 J<|Cf (i:=0) (o:=0) (vs:=[iv aj.2.2]) (u':=aj.2.2) Cl A9 J J J J bs ar ai ab J J ⟨rfl,trivial⟩ J fun cd au bt bu=>?_
   have bv:=d.wr' au.1 au.2.1 (fun _ _ h=>h)
   refine Ai<|Ar bv<|Bc<|bj<|Aq<|An 2 J ?_
   rw [aq] at c
   exact fun a ha=>bh a _ u (AB u) ⟨BL z u64.2.1 aj.2.2,Ah (aa+1),t,p,ha.sb J,bt,bu.sel [0,1] J,c⟩
   refine Bb<|bc ?_
   refine Am 2 J<|Aw<|rt hQ J J<|by cases c; exact ⟨t,p,rfl,ap,ah.sel [0] J⟩
theorem WW(b:Af)(c:Akj)(d:Ac)(h:RO Cg b d c)(f:Int)(r:(List Int)×Bool)(a:Lf c f=some r) :
  A2 105 [d,iv f] b fun e w'=>∃(i:Ac)(m:Ap),e=.returned (.tuple #[i,.bool r.2])∧Bl b w'∧Sp b w' [Ab As m i r.1]:=by
 refine cm func105 ntmps105 J fun Q j hP k n=>?_
 unfold Lf at a
 refine Am 2 J<|Ao fun _ o=>Al fun _ p=>wp 2 J<|bB a fun u4 q a=>Bn J call159 k n (Zt b c d (h.ro k) f _ q) J fun s _ g l=>An 1 J<|p<|A3 J a (fun _ a=>?_)<|fun _ a=>?_
 refine Am 2 J ?_
 refine Aw ?_
 have t:=l.push0 (r:=Ab As [] (.slice none 0 0) []) J fun _=>.inl ⟨rfl,rfl,rfl⟩
 refine rt j J J<|by cases a; exact ⟨.slice none 0 0,[],rfl,g,t.sel [0] J⟩
 refine Au<|o ?_
 refine Al fun _ u=>wp 2 J<|bB a fun ac v a=>Ds J call160 g l (WF s c d (h.ro g) f _ v) J fun w x ad _ _ y z=>An 2 J<|u<|Aw<|rt j J J<|by cases a; exact ⟨w,x,rfl,y,z.sel [0] J⟩
theorem WM(c:Af)(d:List Int)(g:Ac)(s:RO As c g d)(r:List Ag)(b:La d=some r) :
  A2 106 [g] c fun e w'=>e=.returned (.string (AL r))∧Bl c w':=by
 refine cm func106 ntmps106 J fun Q hQ hP hB hS=>?_
 unfold La at b
 refine Am 1 J<|Am 1 J<|Ao fun _ ad=>Al fun _ ae=>wp 1 J<|BO s underlying36 J<|An 1 J<|ae<|A0<|AN (fun m a p=>∃(j:List Ag)(f:Int),St 27 [(3,.string (AL j)),(6,g),(7,iv (List.length d:Int)),(8,iv f)] a∧Bl c p∧Sp c p []∧DO d m j f=some r) FU ?_ ?_
 exact fun a ha=>⟨[],0,ha.sb J,hB,hS.sel [] J,b⟩
 rintro h a p ⟨j,f,ha,l,t,b⟩ a6 af
 refine BC ?_ ha
 cases h with
 | zero=>exact Be b
 | succ h =>
  obtain ⟨a7,u⟩:∃ k,k=DO d h:=⟨_,rfl⟩
  rw [DO,← u] at b
  refine Am 1 J<|Ao fun _ ag=>A3 J b (fun _ b=>?_)<|fun _ b=>?_
  refine Au<|ag ?_
  refine Ao fun ah ai=>?_
  obtain ⟨aj,ak,b⟩:=Cb b
  have v:∀(n:List Ag)(o:Af)(_:aj n=some r)(_:Bl c o)(_:Sp c o []),∀ a,St 27 [(3,.string (AL n)),(6,g),(7,iv (List.length d:Int)),(8,iv f)] a→ah a o:=by
   intro n o b al am
   subst ak
   refine ai<|Aq<|An 2 J ?_
   rw [u] at b
   exact fun a ha=>af a _ h (AB h) ⟨n,Ah (f+1),ha.sb J,al,am.sel [] J,b⟩
  refine A0<|Al fun _ an=>wp 1 J<|bB b fun w ao b=>BT (e:=As) underlying36 J J J s ao ?_
  rintro a8 _ rfl ap
  refine BZ A9 J (ap.ro l) J<|An 2 J<|an<|Ao fun aq ar=>?_
  obtain ⟨au,av,b⟩:=Cb b
  have x:∀(q:List Ag)(i:Af)(_:au q=some r)(_:Bl c i)(_:Sp c i []),∀ a,St 27 [(3,.string (AL q)),(5,iv w),(6,g),(7,iv (List.length d:Int)),(8,iv f)] a→aq a i:=by
   intro q i b y z
   subst av
   refine ar<|Am 2 J<|A3 J b (fun _ b=>?_)<|fun _ b=>?_
   refine Aq ?_
   refine wp 1 J<|bB b fun aw ax b=>BA J J J ax<|An 1 J ?_
   exact jx (v aw _ b y (z.sel [] J)) J
   refine Aq ?_
   refine wp 2 J<|bB b fun a9 ay b=>Bn J call69 y z (Fc i w _ ay) J fun ba _ az a0=>bB b fun a1 a2 b=>BA J J J a2<|An 1 J ?_
   exact jx (v a1 _ b az (a0.sel [] J)) J
  refine Am 2 J<|A3 J b (fun _ b=>?_)<|fun _ b=>?_
  refine Aq ?_
  refine wp 1 J<|bB b fun a3 a4 b=>BA J J J a4<|An 1 J ?_
  exact jx (x a3 _ b l (t.sel [] J)) J
  refine Au ?_
  exact jx (x j _ b l (t.sel [] J)) J
  refine Bb<|ad ?_
  refine Am 2 J<|Aw<|rt hQ J J<|by cases b; exact ⟨rfl,l⟩
theorem Sc(c:Af)(b:Int)(r:List Ag)(a:Kc b=some r) :
  A2 161 [iv b] c fun e w'=>e=.returned (.string (AL r))∧Bl c w':=by
 refine cm func161 ntmps161 J fun Q d x f _=>?_
 unfold Kc at a
 refine Am 1 J<|Ao fun _ g=>Al fun _ h=>wp 1 J<|QR J J J (by decide)<|An 1 J<|h<|A3 J a (fun _ a=>?_)<|fun _ a=>?_
 refine Al fun _ i=>?_
 refine wp 1 J<|O0 J J J (by decide)<|bB a fun y j a=>A7 J call69 (Fc c (Ah (Int.tdiv b 8)) _ j) J ?_
 rintro _ z ⟨rfl,k⟩
 refine ⟨_,rfl,?_⟩
 have l:=tm f k
 refine An 1 J<|i<|Aw<|rt d J J<|by cases a; exact ⟨rfl,l⟩
 refine Au<|g ?_
 refine Al fun _ m=>wp 1 J<|O0 J J J (by decide)<|bB a fun aa n a=>A7 J call69 (Fc c (Ah (Int.tdiv b 8)) _ n) J ?_
 rintro _ o ⟨rfl,p⟩
 refine ⟨_,rfl,?_⟩
 have q:=tm f p
 refine bB a fun ab s a=>BA J J J s<|wp 1 J<|QR J J J (by decide)<|bB a fun ac t a=>A7 J call69 (Fc o (Int.tmod b 8) _ t) J ?_
 rintro _ ad ⟨rfl,u⟩
 refine ⟨_,rfl,?_⟩
 have v:=tm q u
 refine bB a fun ae w a=>BA J J J w<|An 1 J<|m<|Aw<|rt d J J<|by cases a; exact ⟨rfl,v⟩
theorem XF(h:Af)(c:Int×Int)(r:List Ag)(a:L2 c=some r) :
  A2 107 [.agg #[iv c.1,iv c.2]] h fun e w'=>e=.returned (.string (AL r))∧Bl h w':=by
 refine cm func107 ntmps107 J fun Q m b n o=>?_
 unfold L2 at a
 refine Al fun _ p=>CV J n o fun b2 w3 _ q s=>An 1 J<|p<|Ao fun _ t=>AQ B1 [] q s fun i _ u j=>?_
 have d:=KeepX.refl i []
 refine Ad 0 J b d<|C7 CY J<|Ad 1 J b d<|CN 0 A9 J j J (by simp)<|Ad 4 J b d<|C7 CX J<|Ad 5 J b d<|CN 0 A9 J j J (by simp)<|A1 2 J<|bB a fun ae v a=>A7 J call161 (Sc i c.1 _ v) J ?_
 rintro _ w ⟨rfl,k⟩
 refine ⟨_,rfl,?_⟩
 have x:=tm u k
 have f:=d.ext k
 refine Ai<|Ar f<|bB a fun af y a=>Ad 3 J b f<|FH J J J y<|A1 6 J<|bB a fun ag z a=>A7 J call161 (Sc w c.2 _ z) J ?_
 rintro _ ah ⟨rfl,l⟩
 refine ⟨_,rfl,?_⟩
 have aa:=tm x l
 have g:=f.ext l
 refine Ai<|Ar g<|bB a fun ai ab a=>Ad 7 J b g<|FH J J J ab<|Ad 8 J b g<|AD J J<|Bc<|t<|Aw<|rt m J J<|by cases a; exact ⟨rfl,aa⟩
theorem Zu(d:Af)(f g:Int×Int)(r:Bool)(b:ND f g=some r) :
  A2 162 [.agg #[iv f.1,iv f.2],.agg #[iv g.1,iv g.2]] d fun e w'=>e=.returned (.bool r)∧Bl d w':=by
 refine cm func162 ntmps162 J fun Q n hP o p=>?_
 unfold ND at b
 refine Al fun _ q=>CV J o p fun b2 w3 _ s t=>CV J s t fun b7 u _ v k=>An 1 J<|q<|Ao fun w x=>?_
 obtain ⟨y,z,b⟩:=Cb b
 have l:∀(i:Bool)(h:Af)(_:y i=some r)(_:Bl d h)(_:Sp d h []),∀ a,St 11 [(4,.bool i)] a→w a h:=by
  intro i h b aa am
  subst z
  refine x<|Aw<|rt n J J<|by cases b; exact ⟨rfl,aa⟩
 refine Aq<|AU 1 Bt J k J J<|bB b fun ab ac b=>Bn J call190 v k (OK u f _ ac) J fun ad _ m j=>wp 1 J ?_
 rcases bE ab with c|c
 replace b:=Bw c b
 refine wn J c<|AU 0 Bt J j J J<|wn J c<|bB b fun ae af b=>Bn J call190 m j (OK ad g _ af) J fun an _ ag ah=>A8 J J c J<|An 1 J ?_
 exact jx (l ae _ b ag (ah.sel [] J)) J
 replace b:=BI c b
 refine wo J c<|wo J c<|Ak J J c J<|An 1 J ?_
 exact jx (l false _ b m (j.sel [] J)) J
theorem XG(h:Af)(g r:Int)(b:L3 g=some r) :
  A2 205 [iv g] h fun e w'=>e=.returned (iv r)∧Bl h w':=by
 refine cm func205 ntmps205 J fun Q p w q s=>?_
 unfold L3 at b
 refine Am 1 J<|Am 2 J<|Ao fun _ t=>A0<|AN (fun m a i=>∃(d f:Int),St 25 [(0,iv g),(3,iv d),(4,iv f)] a∧Bl h i∧Sp h i []∧Fr g m d f=some r) FU ?_ ?_
 exact fun a ha=>⟨0,1000,ha.sb J,q,s.sel [] J,b⟩
 rintro c a i ⟨d,f,ha,j,n,b⟩ x o
 refine BC ?_ ha
 cases c with
 | zero=>exact Be b
 | succ c =>
  obtain ⟨y,l⟩:∃ k,k=Fr g c:=⟨_,rfl⟩
  rw [Fr,← l] at b
  refine Ao fun _ u=>Am 3 J<|A3 J b (fun _ b=>?_)<|fun _ b=>?_
  refine Au<|u ?_
  refine A0<|Al fun _ v=>wp 3 J<|O0 J J J (by decide)<|An 1 J<|v<|Am 8 J<|A3 J b (fun _ b=>?_)<|fun _ b=>?_
  refine Aq ?_
  refine An 2 J ?_
  rw [l] at b
  exact fun a ha=>o a _ c (AB c) ⟨d,Ah (Int.tdiv (Ah (d+f)) 2),ha.sb J,j,n.sel [] J,b⟩
  refine Aq ?_
  refine An 3 J ?_
  rw [l] at b
  exact fun a ha=>o a _ c (AB c) ⟨Ah ((Ah (Int.tdiv (Ah (d+f)) 2))+1),f,ha.sb J,j,n.sel [] J,b⟩
  refine Bb<|t ?_
  refine Am 2 J<|Aw<|rt p J J<|by cases b; exact ⟨rfl,j⟩
theorem WG(d:Af)(b c:Int×Int)(r:Int)(a:Mv b c=some r) :
  A2 163 [.agg #[iv b.1,iv b.2],.agg #[iv c.1,iv c.2]] d fun e w'=>e=.returned (iv r)∧Bl d w':=by
 refine cm func163 ntmps163 J fun Q g y h i=>?_
 unfold Mv at a
 refine Al fun _ j=>CV J h i fun z w3 _ k l=>CV J k l fun b7 m _ n f=>An 1 J<|j<|Al fun _ o=>AU 1 Bt J f J J<|AU 0 Bt J f J J<|bB a fun p q a=>A7 J call194 (LV m b c _ q) J ?_
 rintro _ s ⟨rfl,t⟩
 refine ⟨_,rfl,?_⟩
 have u:=tm n t
 refine bB a fun ac v a=>A7 J call205 (XG s p _ v) J ?_
 rintro _ ad ⟨rfl,w⟩
 refine ⟨_,rfl,?_⟩
 have x:=tm u w
 refine An 1 J<|o<|Aw<|rt g J J<|by cases a; exact ⟨rfl,x⟩
theorem UH(f:Af)(b c:Int×Int)(r:Int×Bool)(a:Is b c=some r) :
  A2 108 [.agg #[iv b.1,iv b.2],.agg #[iv c.1,iv c.2]] f fun e w'=>e=.returned (.tuple #[iv r.1,.bool r.2])∧Bl f w':=by
 refine cm func108 ntmps108 J fun Q g z j k=>?_
 unfold Is at a
 refine Al fun _ l=>CV J j k fun b2 w3 _ m n=>CV J m n fun b7 o _ p d=>An 2 J<|l<|Ao fun _ q=>Al fun _ s=>AU 1 Bt J d J J<|AU 0 Bt J d J J<|bB a fun ad t a=>Bn J call162 p d (Zu o b c _ t) J fun u _ h i=>An 1 J<|s<|A3 J a (fun _ a=>?_)<|fun _ a=>?_
 refine Am 2 J ?_
 refine Aw<|rt g J J<|by cases a; exact ⟨rfl,h⟩
 refine Au<|q ?_
 refine Al fun _ v=>AU 1 Bt J i J J<|AU 0 Bt J i J J<|bB a fun ae w a=>A7 J call163 (WG u b c _ w) J ?_
 rintro _ af ⟨rfl,x⟩
 refine ⟨_,rfl,?_⟩
 have y:=tm h x
 refine An 2 J<|v<|Aw<|rt g J J<|by cases a; exact ⟨rfl,y⟩
theorem Sr(j:Af)(g:Akg×Akg×Int×Akg×Akh×Akj×(List Int)×(List Int)×Int)(p0:Addr)(z:Ac)(v:RO At j z g.1)(ae:Ac)(ax:RO At j ae g.2.1)(ak:Ac)(bm:RO BN j ak g.2.2.2.1)(al:Ac)(bn:RO A4 j al g.2.2.2.2.1)(am:Ac)(bo:RO Cg j am g.2.2.2.2.2.1)(ay:Ac)(b7:RO As j ay g.2.2.2.2.2.2.1)(az:Ac)(b8:RO As j az g.2.2.2.2.2.2.2.1)(q:EAt (·<j.heap.size) j p0 [z,ae,iv g.2.2.1,ak,al,am,ay,az,iv g.2.2.2.2.2.2.2.2])(x1:List Ag)(x2:List Int)(a0:Ac)(s:RO As j a0 x2)(r:List Ag)(c:CG g x1 x2=some r) :
  A2 80 [.pointer (some p0),.string (AL x1),a0] j fun e w'=>e=.returned (.string (AL r))∧Bl j w':=by
 refine cm func80 ntmps80 J fun Q n d f hS=>?_
 unfold CG at c
 refine Am 1 J<|Ao fun _ dk=>Am 1 J<|A0<|Al fun _ dl=>AR J J J<|An 1 J<|dl<|A3 J c (fun _ c=>?_)<|fun _ c=>?_
 refine Ao fun K6 dn=>?_
 obtain ⟨dp,dq,c⟩:=jE5 c
 have b9:∀(a1 a2:Akg)(a3:Int)(a4:List Int)(bp:Bool)(a5:Ac)(ca:Ap)(a6:Ac)(cb:Ap)(a7:Ac)(cc:Ap)(bq:Nat)(w7:Af)(_:dp a1 a2 a3 a4 bp=some r)(_:Bl j w7)(_:Sp j w7 [Ab At ca a5 a1,Ab At cb a6 a2,Ab As cc a7 a4,Av bq 128 [a5,a6,iv a3,a7]]),∀ a,St 175 [(7,.pointer (some ⟨bq,0,none⟩)),(8,.bool bp)] a→K6 a w7:=by
  intro a1 a2 a3 a4 bp a5 ca a6 cb a7 cc bq w7 c cd a8
  subst dq
  refine dn<|Ao fun _ dr=>Am 2 J<|A3 J c (fun _ c=>?_)<|fun _ c=>?_
  refine Am 1 J ?_
  refine Aw<|rt n J J<|by cases c; exact ⟨rfl,cd⟩
  refine Au<|dr ?_
  refine Al fun _ ds=>AU 3 Bs J a8 J J<|bB c fun ce dt c=>A7 J call98 (UG w7 (a1,a2,a3,a4) a5 (a8.own_ro (i:=0) J) a6 (a8.own_ro (i:=1) J) a7 (a8.own_ro (i:=2) J) _ dt) J ?_
  rintro _ du ⟨rfl,dv⟩
  refine ⟨_,rfl,?_⟩
  have dw:=tm cd dv
  refine wp 2 J<|bB c fun hu dx c=>A7 J call97 (KE du ce.1 ce.2 _ dx) J ?_
  rintro _ hv ⟨rfl,dy⟩
  refine ⟨_,rfl,?_⟩
  have dz:=tm dw dy
  refine An 1 J<|ds<|Aw<|rt n J J<|by cases c; exact ⟨rfl,dz⟩
 refine AQ B1 [] f hS fun aa _ w cf=>?_
 have p:=KeepX.refl aa []
 refine Ay 0 J d p<|Ad 1 J d p<|B0 J J<|Ad 2 J d p<|CI (o:=1) W2 J J<|Ad 3 J d p<|BR Cs J (EAt.addk (q.kx w (by simp)) 1) J<|Ay 4 J d p<|Ad 5 J d p<|B0 J J<|Ad 6 J d p<|CI (o:=0) J4 J J<|Ad 7 J d p<|BR Cs J (EAt.addk (q.kx w (by simp)) 0) J<|Ay 8 J d p<|Ad 9 J d p<|B0 J J<|Ad 10 J d p<|CI (o:=2) W1 J J<|Ad 11 J d p<|BR A9 J (EAt.addk (q.kx w (by simp)) 2) J<|CA (is:=[12,16]) (by kernel_rfl) J<|Bj.2 ⟨⟨_,rfl,?_⟩,Bj.2 ⟨⟨_,rfl,?_⟩,fun _ h=>by cases h⟩⟩
 refine bB c fun ab d0 c=>?_
 refine A7 J call96 (ML aa g.2.1 ae (ax.ro w) g.1 z (v.ro w) g.2.2.1 _ d0) J ?_
 rintro _ d1 ⟨br,d2,bs,d3,bt,d4,rfl,a9,d5⟩
 refine ⟨_,rfl,?_⟩
 have cg:=tm w a9
 have d6:=cf.join a9 d5 w.size
 have aq:=p.ext a9
 have d7:=Az (Nat.le_refl aa.heap.size) a9.size
 refine Ai<|Ar aq<|Ay 13 J d aq<|Ad 14 J d aq<|Ba J J J<|Ad 15 J d aq<|Ba J J J<|A1 16 J<|EE Bs J (Bk d1) (Sep.nil _ _) fun ch hw bu _ ci=>?_
 have d8:=tm cg bu
 have ba:=d6.join bu ci cg.size
 have d9:∀ b ∈ [ch],aa.heap.size≤b:=fun b hb=>Az d7 ((ci.1 _ (List.mem_cons_self ..)).2.1 b hb).1
 have cj:=aq.ext bu
 refine Ai<|Ar cj<|A1 17 J<|BG (i:=0) (vs:=[br,bs,iv ab.1.2.2.1,bt]) (cs':=[br,bs,iv ab.1.2.2.1,bt]) Bs J J J J d8 ba J J ⟨(ba.own_ro (i:=1) J).one,(ba.own_ro (i:=2) J).one,rfl,(ba.own_ro (i:=3) J).one,trivial⟩ J fun hx ck ea eb=>?_
 have cl:=cj.wr' ck.1 ck.2.1 (fun b hlt hb=>absurd hlt (AM.2 (d9 b hb)))
 refine Ai<|Ar cl<|Ad 18 J d cl<|AD J J<|Bc ?_
 exact jx (b9 (ab.1.1) (ab.1.2.1) (ab.1.2.2.1) (ab.1.2.2.2) (ab.2) br d2 bs d3 bt d4 ch _ c ea (eb.sel [1,2,3,0] J)) J
 refine EE Bs J (Bk aa) (Sep.nil _ _) fun cn ec bv _ co=>?_
 have bb:=tm w bv
 have ed:=cf.join bv co w.size
 have ee:∀ b ∈ [cn],aa.heap.size≤b:=fun b hb=>Az (Nat.le_refl aa.heap.size) ((co.1 _ (List.mem_cons_self ..)).2.1 b hb).1
 have cp:=p.ext bv
 refine Ai<|Ar cp<|A1 12 J<|bB c fun ac ef c=>A7 J call96 (ML ec g.2.1 ae (ax.ro bb) g.1 z (v.ro bb) g.2.2.1 _ ef) J ?_
 rintro _ hy ⟨bw,eg,bx,eh,bz,ei,rfl,b0,ej⟩
 refine ⟨_,rfl,?_⟩
 have ek:=tm bb b0
 have bc:=ed.join b0 ej bb.size
 have ar:=cp.ext b0
 refine Ai<|Ar ar<|Ay 13 J d ar<|Ad 14 J d ar<|Ba J J J<|Ad 15 J d ar<|Ba J J J<|A1 17 J<|BG (i:=3) (vs:=[bw,bx,iv ac.1.2.2.1,bz]) (cs':=[bw,bx,iv ac.1.2.2.1,bz]) Bs J J J J ek bc J J ⟨(bc.own_ro (i:=0) J).one,(bc.own_ro (i:=1) J).one,rfl,(bc.own_ro (i:=2) J).one,trivial⟩ J fun hz cq el em=>?_
 have cr:=ar.wr' cq.1 cq.2.1 (fun b hlt hb=>absurd hlt (AM.2 (ee b hb)))
 refine Ai<|Ar cr<|Ad 18 J d cr<|AD J J<|Bc ?_
 exact jx (b9 (ac.1.1) (ac.1.2.1) (ac.1.2.2.1) (ac.1.2.2.2) (ac.2) bw eg bx eh bz ei cn _ c el (em.sel [0,1,2,3] J)) J
 refine Al fun _ en=>?_
 refine AR J J J<|An 1 J<|en<|A3 J c (fun _ c=>?_)<|fun _ c=>?_
 refine Al fun _ eo=>?_
 refine wp 2 J<|bB c fun ep eq c=>BT (e:=As) underlying36 J J J s eq ?_
 rintro h0 _ rfl er
 refine BZ A9 J (er.ro f) J<|bB c fun h1 es c=>A7 J call99 (Qa j g p0 z (v.ro f) ae (ax.ro f) ak (bm.ro f) al (bn.ro f) am (bo.ro f) ay (b7.ro f) az (b8.ro f) (q.ro f) ep _ es) J ?_
 rintro _ h2 ⟨rfl,et⟩
 refine ⟨_,rfl,?_⟩
 have eu:=tm f et
 refine An 1 J<|eo<|Aw<|rt n J J<|by cases c; exact ⟨rfl,eu⟩
 refine Al fun _ ev=>?_
 refine AR J J J<|An 1 J<|ev<|A3 J c (fun _ c=>?_)<|fun _ c=>?_
 refine Al fun _ ew=>?_
 refine wp 1 J<|bB c fun b1 ex c=>A7 J call100 (M4 j g p0 z (v.ro f) ae (ax.ro f) ak (bm.ro f) al (bn.ro f) am (bo.ro f) ay (b7.ro f) az (b8.ro f) (q.ro f) _ ex) J ?_
 rintro _ h3 ⟨b2,h4,b3,h5,b4,h6,rfl,cs,ey⟩
 refine ⟨_,rfl,?_⟩
 have ez:=tm f cs
 have e0:=hS.join cs ey f.size
 refine wp 3 J<|EE Bs J ez e0 fun h7 h8 _ e1 bd=>BG (i:=0) (vs:=[b2,b3,iv b1.1.2.2.1,b4]) (cs':=[b2,b3,iv b1.1.2.2.1,b4]) Bs J J J J e1 bd J J ⟨(bd.own_ro (i:=1) J).one,(bd.own_ro (i:=2) J).one,rfl,(bd.own_ro (i:=3) J).one,trivial⟩ J fun h9 _ ct e2=>An 1 J<|ew<|Ao fun _ e3=>Am 2 J<|A3 J c (fun _ c=>?_)<|fun _ c=>?_
 refine Am 1 J ?_
 refine Aw<|rt n J J<|by cases c; exact ⟨rfl,ct⟩
 refine Au<|e3 ?_
 refine Ao fun _ e4=>AQ B1 [] ct e2 fun cu _ cv be=>?_
 have au:=KeepX.refl cu []
 refine Ad 0 J d au<|CN 0 Bs J be J (by simp)<|Ay 1 J d au<|bB c fun e5 e6 c=>Ad 2 J d au<|B7 (e:=As) underlying36 J J J s e6 ?_
 rintro ia _ rfl e7
 refine Ad 3 J d au<|BR A9 J (e7.kx cv (by simp)) J<|A1 4 J<|bB c fun cw e8 c=>A7 J call101 (TL cu b1.1 b2 (be.own_ro (i:=1) J) b3 (be.own_ro (i:=2) J) b4 (be.own_ro (i:=3) J) e5 _ e8) J ?_
 rintro _ e9 ⟨rfl,cx⟩
 refine ⟨_,rfl,?_⟩
 have fa:=tm cv cx
 have bf:=au.ext cx
 refine Ai<|Ar bf<|Ad 5 J d bf<|Ba J J J<|Ad 6 J d bf<|Ba J J J<|A1 7 J<|bB c fun ib fb c=>A7 J call97 (KE e9 cw.1 cw.2 _ fb) J ?_
 rintro _ ic ⟨rfl,cy⟩
 refine ⟨_,rfl,?_⟩
 have fc:=tm fa cy
 have cz:=bf.ext cy
 refine Ai<|Ar cz<|Ad 8 J d cz<|AD J J<|Bc<|e4<|Aw<|rt n J J<|by cases c; exact ⟨rfl,fc⟩
 refine Al fun _ fd=>?_
 refine AR J J J<|An 1 J<|fd<|A3 J c (fun _ c=>?_)<|fun _ c=>?_
 refine Al fun _ fe=>?_
 refine wp 1 J<|B4 J J<|Lm (o:=0) J4 J J<|BZ Cs J ((q.ro f).add 0) J<|bB c fun c0 ff c=>A7 J call102 (Te j g.1 z (v.ro f) _ ff) J ?_
 rintro _ fg ⟨rfl,fh⟩
 refine ⟨_,rfl,?_⟩
 have fi:=tm f fh
 refine wp 2 J<|bB c fun ie fj c=>A7 J call97 (KE fg c0.1 c0.2 _ fj) J ?_
 rintro _ ig ⟨rfl,fk⟩
 refine ⟨_,rfl,?_⟩
 have fl:=tm fi fk
 refine An 1 J<|fe<|Aw<|rt n J J<|by cases c; exact ⟨rfl,fl⟩
 refine Al fun _ fm=>?_
 refine AR J J J<|An 1 J<|fm<|A3 J c (fun _ c=>?_)<|fun _ c=>?_
 refine Ao fun _ fn=>?_
 refine AQ B1 [] f hS fun c1 _ bg _=>?_
 have x:=KeepX.refl c1 []
 refine Ay 0 J d x<|Ad 1 J d x<|B0 J J<|Ad 2 J d x<|CI (o:=3) TD J J<|Ad 3 J d x<|BR Qi J (EAt.addk (q.kx bg (by simp)) 3) J<|Ay 4 J d x<|bB c fun fo fp c=>Ad 5 J d x<|B7 (e:=As) underlying36 J J J s fp ?_
 rintro ih _ rfl fq
 refine Ad 6 J d x<|BR A9 J (fq.kx bg (by simp)) J<|A1 7 J<|bB c fun c2 fr c=>A7 J call103 (XR c1 g.2.2.2.1 ak (bm.ro bg) fo _ fr) J ?_
 rintro _ fs ⟨rfl,c3⟩
 refine ⟨_,rfl,?_⟩
 have ft:=tm bg c3
 have bh:=x.ext c3
 refine Ai<|Ar bh<|Ad 8 J d bh<|Ba J J J<|Ad 9 J d bh<|Ba J J J<|A1 10 J<|bB c fun ii fu c=>A7 J call97 (KE fs c2.1 c2.2 _ fu) J ?_
 rintro _ ij ⟨rfl,c4⟩
 refine ⟨_,rfl,?_⟩
 have fv:=tm ft c4
 have c5:=bh.ext c4
 refine Ai<|Ar c5<|Ad 11 J d c5<|AD J J<|Bc<|fn<|Aw<|rt n J J<|by cases c; exact ⟨rfl,fv⟩
 refine Al fun _ fw=>?_
 refine AR J J J<|An 1 J<|fw<|A3 J c (fun _ c=>?_)<|fun _ c=>?_
 refine Ao fun _ fx=>?_
 refine AQ B1 [] f hS fun c6 _ av _=>?_
 have t:=KeepX.refl c6 []
 refine Ay 0 J d t<|Ad 1 J d t<|B0 J J<|Ad 2 J d t<|CI (o:=4) W0 J J<|Ad 3 J d t<|BR Tx J (EAt.addk (q.kx av (by simp)) 4) J<|Ay 4 J d t<|bB c fun fy fz c=>Ad 5 J d t<|B7 (e:=As) underlying36 J J J s fz ?_
 rintro ik _ rfl f0
 refine Ad 6 J d t<|BR A9 J (f0.kx av (by simp)) J<|Ay 7 J d t<|bB c fun f1 f2 c=>Ad 8 J d t<|B7 (e:=As) underlying36 J J J s f2 ?_
 rintro il _ rfl f3
 refine Ad 9 J d t<|BR A9 J (f3.kx av (by simp)) J<|A1 10 J<|bB c fun f4 f5 c=>A7 J call104 (UI c6 g.2.2.2.2.1 al (bn.ro av) fy f1 _ f5) J ?_
 rintro _ f6 ⟨rfl,c7⟩
 refine ⟨_,rfl,?_⟩
 have c8:=tm av c7
 have ag:=t.ext c7
 refine Ai<|Ar ag<|Ay 11 J d ag<|Ad 12 J d ag<|Ba J J J<|Ad 13 J d ag<|Ba J J J<|Ad 14 J d ag<|AD J J<|Ad 15 J d ag<|AD J J<|Bc<|fx<|Ao fun _ f7=>Am 2 J<|A3 J c (fun _ c=>?_)<|fun _ c=>?_
 refine Am 1 J ?_
 refine Aw<|rt n J J<|by cases c; exact ⟨rfl,c8⟩
 refine Au<|f7 ?_
 refine Al fun _ f8=>wp 1 J<|bB c fun im f9 c=>A7 J call69 (Fc f6 f4.1 _ f9) J ?_
 rintro _ io ⟨rfl,ga⟩
 refine ⟨_,rfl,?_⟩
 have gb:=tm c8 ga
 refine An 1 J<|f8<|Aw<|rt n J J<|by cases c; exact ⟨rfl,gb⟩
 refine Al fun _ gc=>?_
 refine AR J J J<|An 1 J<|gc<|A3 J c (fun _ c=>?_)<|fun _ c=>?_
 refine Ao fun _ gd=>?_
 refine AQ B1 [] f hS fun c9 _ bi ge=>?_
 have y:=KeepX.refl c9 []
 refine Ay 0 J d y<|Ad 1 J d y<|B0 J J<|Ad 2 J d y<|CI (o:=5) TC J J<|Ad 3 J d y<|BR Qh J (EAt.addk (q.kx bi (by simp)) 5) J<|Ay 4 J d y<|bB c fun gf gg c=>Ad 5 J d y<|B7 (e:=As) underlying36 J J J s gg ?_
 rintro ip _ rfl gh
 refine Ad 6 J d y<|BR A9 J (gh.kx bi (by simp)) J<|A1 7 J<|bB c fun gi gj c=>Ds J call105 bi ge (WW c9 g.2.2.2.2.2.1 am (bo.ro bi) gf _ gj) J fun gk iq gl gm _ da gn=>?_
 have ah:=y.ext gm
 refine Ai<|Ar ah<|Ay 8 J d ah<|Ad 9 J d ah<|Ba J J J<|Ad 10 J d ah<|Ba J J J<|Ad 11 J d ah<|AD J J<|Ad 12 J d ah<|AD J J<|Bc<|gd<|Ao fun _ go=>Am 2 J<|A3 J c (fun _ c=>?_)<|fun _ c=>?_
 refine Am 1 J ?_
 refine Aw<|rt n J J<|by cases c; exact ⟨rfl,da⟩
 refine Au<|go ?_
 refine Al fun _ gp=>wp 1 J<|bB c fun ir gq c=>A7 J call106 (WM gl gi.1 gk (gn.own_ro (i:=0) J) _ gq) J ?_
 rintro _ it ⟨rfl,gr⟩
 refine ⟨_,rfl,?_⟩
 have gs:=tm da gr
 refine An 1 J<|gp<|Aw<|rt n J J<|by cases c; exact ⟨rfl,gs⟩
 refine Au<|dk ?_
 refine Ao fun _ gt=>Al fun _ gu=>wp 1 J<|BO s underlying36 J<|An 1 J<|gu<|A0<|AN (fun m a b5=>∃(bj:Int),St 175 [(0,.pointer (some p0)),(1,.string (AL x1)),(2,a0),(127,a0),(128,iv (List.length x2:Int)),(129,iv bj)] a∧Bl j b5∧Sp j b5 []∧CM x2 g x1 m bj=some r) FU ?_ ?_
 exact fun a ha=>⟨0,ha.sb J,f,hS.sel [] J,c⟩
 rintro aw a b5 ⟨bj,ha,ai,b6,c⟩ iu gv
 refine BC ?_ ha
 cases aw with
 | zero=>exact Be c
 | succ aw =>
  obtain ⟨iw,db⟩:∃ k,k=CM x2 g x1 aw:=⟨_,rfl⟩
  rw [CM,← db] at c
  refine Am 1 J<|Ao fun _ gw=>A3 J c (fun _ c=>?_)<|fun _ c=>?_
  refine Au<|gw ?_
  refine Ao fun _ gx=>A0<|Al fun _ gy=>bB c fun ix gz c=>BT (e:=As) underlying36 J J J s gz ?_
  rintro iy _ rfl g0
  refine BZ A9 J (g0.ro ai) J<|An 1 J<|gy<|Al fun _ g1=>wp 2 J<|B4 J J<|Lm (o:=0) J4 J J<|BZ Cs J ((q.ro ai).add 0) J<|BO v underlying26 J<|An 1 J<|g1<|A3 J c (fun _ c=>?_)<|fun _ c=>?_
  refine Am 1 J ?_
  refine Aw<|rt n J J<|by cases c; exact ⟨rfl,ai⟩
  refine Au<|gx ?_
  refine Aq<|An 2 J ?_
  rw [db] at c
  exact fun a ha=>gv a _ aw (AB aw) ⟨Ah (bj+1),ha.sb J,ai,b6.sel [] J,c⟩
  refine Bb<|gt ?_
  refine Ao fun _ g2=>Al fun _ g3=>wp 1 J<|AR J J J<|Ai<|g3<|A3 J c (fun _ c=>?_)<|fun _ c=>?_
  refine Ao fun _ g4=>?_
  refine AQ B1 [] ai b6 fun dc _ bk _=>?_
  have u:=KeepX.refl dc []
  refine Ay 0 J d u<|Ad 1 J d u<|B0 J J<|Ad 2 J d u<|CI (o:=0) J4 J J<|Ad 3 J d u<|BR Cs J (EAt.addk (q.kx bk (by simp)) 0) J<|Ay 4 J d u<|bB c fun iz g5 c=>Ad 5 J d u<|B7 (e:=As) underlying36 J J J s g5 ?_
  rintro i0 _ rfl g6
  refine Ad 6 J d u<|BR A9 J (g6.kx bk (by simp)) J<|bB c fun g7 g8 c=>Ad 7 J d u<|B7 (e:=At) underlying26 J J J v g8 ?_
  rintro i1 _ rfl g9
  refine Ad 8 J d u<|BR Bt J (g9.kx bk (by simp)) J<|A1 9 J<|bB c fun i2 hc c=>A7 J call107 (XF dc g7 _ hc) J ?_
  rintro _ i3 ⟨rfl,dd⟩
  refine ⟨_,rfl,?_⟩
  have hd:=tm bk dd
  have de:=u.ext dd
  refine Ai<|Ar de<|Ad 10 J d de<|AD J J<|Bc<|g4<|Aw<|rt n J J<|by cases c; exact ⟨rfl,hd⟩
  refine Au<|g2 ?_
  refine Ao fun _ he=>AQ B1 [] ai b6 fun df _ ad _=>?_
  have l:=KeepX.refl df []
  refine Ay 0 J d l<|Ad 1 J d l<|B0 J J<|Ad 2 J d l<|CI (o:=0) J4 J J<|Ad 3 J d l<|BR Cs J (EAt.addk (q.kx ad (by simp)) 0) J<|Ay 4 J d l<|bB c fun i4 hf c=>Ad 5 J d l<|B7 (e:=As) underlying36 J J J s hf ?_
  rintro i5 _ rfl hg
  refine Ad 6 J d l<|BR A9 J (hg.kx ad (by simp)) J<|bB c fun hh hi c=>Ad 7 J d l<|B7 (e:=At) underlying26 J J J v hi ?_
  rintro i6 _ rfl hj
  refine Ad 8 J d l<|BR Bt J (hj.kx ad (by simp)) J<|Ay 9 J d l<|Ad 10 J d l<|B0 J J<|Ad 11 J d l<|CI (o:=0) J4 J J<|Ad 12 J d l<|BR Cs J (EAt.addk (q.kx ad (by simp)) 0) J<|Ay 13 J d l<|bB c fun i7 hk c=>Ad 14 J d l<|B7 (e:=As) underlying36 J J J s hk ?_
  rintro i8 _ rfl hl
  refine Ad 15 J d l<|BR A9 J (hl.kx ad (by simp)) J<|bB c fun hm hn c=>Ad 16 J d l<|B7 (e:=At) underlying26 J J J v hn ?_
  rintro i9 _ rfl ho
  refine Ad 17 J d l<|BR Bt J (ho.kx ad (by simp)) J<|A1 18 J<|bB c fun dg hp c=>A7 J call108 (UH df hh hm _ hp) J ?_
  rintro _ hq ⟨rfl,dh⟩
  refine ⟨_,rfl,?_⟩
  have hr:=tm ad dh
  have bl:=l.ext dh
  refine Ai<|Ar bl<|Ad 19 J d bl<|Ba J J J<|Ad 20 J d bl<|Ba J J J<|A1 21 J<|bB c fun ja hs c=>A7 J call97 (KE hq dg.1 dg.2 _ hs) J ?_
  rintro _ jb ⟨rfl,di⟩
  refine ⟨_,rfl,?_⟩
  have ht:=tm hr di
  have dj:=bl.ext di
  refine Ai<|Ar dj<|Ad 22 J d dj<|AD J J<|Bc<|he<|Aw<|rt n J J<|by cases c; exact ⟨rfl,ht⟩
theorem RQ(d:Af)(g:Akg×Akg×Int×Akg×Akh×Akj×(List Int)×(List Int)×Int)(f:Nat)(n:Ap)(x1:List Ag)(a4:Sep 0 d [A6 B9 74 n f g])(r:(List Ag)×(Akg×Akg×Int×Akg×Akh×Akj×(List Int)×(List Int)×Int))(c:E6 g x1=some r) :
  A2 64 [.pointer (some ⟨f,0,none⟩),.string (AL x1)] d fun e w'=>∃(H_0:Ap),e=.returned (.string (AL r.1))∧Below 0 (wE d) w'∧Sep 0 w' [A5 d (AP [A6 B9 74 n f g]),A6 B9 74 H_0 f r.2]:=by
 refine Ek func64 J ntmps64 J J fun Q hQ hP=>?_
 have hB:Bl (wE d) d:=Dp d
 have hS:Sp (wE d) d [A5 d (AP [A6 B9 74 n f g]),A6 B9 74 n f g]:=a4.rest
 unfold E6 at c
 refine Am 1 J<|Al fun _ a7=>wp 1 J<|bB c fun y a8 c=>Ds J call73 hB hS (Ru d x1 32 _ a8) J fun z F5 w6 _ _ ba ag=>An 1 J<|a7<|Ao fun _ bb=>Al fun _ bc=>wp 1 J<|BO (ag.own_ro (i:=0) J) underlying61 J<|wp 2 J<|bB c fun bd be c=>I3 (e:=BK) (i:=0) underlying61 J J J ag J be ?_
 rintro dl _ rfl am dm
 refine BZ MT J am J<|bB c fun dn bf c=>Bn J call75 ba ag (WO w6 bd _ bf) J fun dp bg au ah=>?_
 have am:=am.keepS (fun b hb=>bg.block b (((ag.get (i:=0) J).2.1 b hb).2)) (fun _ h=>h)
 refine An 1 J<|bc<|A3 J c (fun _ c=>?_)<|fun _ c=>?_
 refine Am 1 J ?_
 refine Aw<|rt hQ J J<|by cases c; exact ⟨n,rfl,au,ah.sel [1,2] J⟩
 refine Au<|bb ?_
 refine Am 1 J<|Ao fun _ bh=>Al fun _ bi=>wp 1 J<|bB c fun ai bj c=>Mp (e:=BK) underlying61 J J (ah.ok (i:=0) J:ownS BK _ _ _ _).rd bj (.inr ⟨_,_,rfl,rfl⟩) (.inl ⟨rfl,rfl⟩) fun av aw _=>BO (aw.mono (fun b hb=>((ah.get (i:=0) J).2.1 b hb).2)) underlying61 J<|An 1 J<|bi<|A0<|AN (fun m a ad=>∃(t:List Int)(aj:Int)(q:Ac)(x:Ap),St 62 [(0,.pointer (some ⟨f,0,none⟩)),(5,z),(6,q),(21,av),(22,iv (List.length ai:Int)),(23,iv aj)] a∧Bl (wE d) ad∧Sp (wE d) ad [A5 d (AP [A6 B9 74 n f g]),A6 B9 74 n f g,Ab BK F5 z y,Ab As x q t]∧(rdS BK (· ∈ F5) ad av ai)∧Cd ai g y m t aj=some r) FU ?_ ?_
 have bk:=ah.push0 (r:=Ab As [] (.slice none 0 0) []) J fun _=>.inl ⟨rfl,rfl,rfl⟩
 exact fun a ha=>⟨[],0,.slice none 0 0,[],ha.sb J,au,bk.sel [2,3,1,0] J,aw,c⟩
 rintro ae a ad ⟨t,aj,q,x,ha,u,o,s,c⟩ dq bl
 refine BC ?_ ha
 cases ae with
 | zero=>exact Be c
 | succ ae =>
  obtain ⟨dr,ax⟩:∃ k,k=Cd ai g y ae:=⟨_,rfl⟩
  rw [Cd,← ax] at c
  refine Am 1 J<|Ao fun _ bm=>A3 J c (fun _ c=>?_)<|fun _ c=>?_
  refine Au<|bm ?_
  refine Ao fun _ bn=>A0<|Al fun _ bo=>bB c fun bp bq c=>BT (e:=BK) underlying61 J J J (s.mono (fun b hb=>((o.get (i:=2) J).2.1 b hb).2)) bq ?_
  rintro ds _ rfl br
  refine BZ MT J br J<|An 1 J<|bo<|Al fun _ bs=>wp 1 J<|bB c fun an bt c=>Bn J call76 u o (XM ad bp _ bt) J fun bu bv bw ay=>?_
  have s:=s.keep (fun b hb=>bv.block b (((o.get (i:=2) J).2.1 b hb).2))
  refine An 1 J<|bs<|Ao fun _ bx=>Al fun _ bz=>wp 1 J<|bB c fun dt b1 c=>Bn J call77 bw ay (Cr bu an 0 99999 _ b1) J fun du b2 az ao=>?_
  have s:=s.keep (fun b hb=>b2.block b (((ay.get (i:=2) J).2.1 b hb).2))
  refine An 1 J<|bz<|A3 J c (fun _ c=>?_)<|fun _ c=>?_
  refine Am 1 J ?_
  refine Aw<|rt hQ J J<|by cases c; exact ⟨n,rfl,az,ao.sel [0,1] J⟩
  refine Au<|bx ?_
  refine Aq<|wp 2 J<|AZ (vs:=[iv an]) (l:=[an]) Cl underlying36 J J J J J J az ao fun dv dw b3 b4 b5 ak=>?_
  have s:=s.keep (fun b hb=>b4.block b (((ao.get (i:=2) J).2.1 b hb).2))
  refine bB c fun b6 b7 c=>AE (i:=4) (S:=(·<b3.heap.size)) Cl underlying36 J J J b5 ak J (ak.own_ro (i:=0) J) b7 fun b8 b9 dx ca cb cc=>?_
  have s:=s.keep (fun b hb=>ca.2.1 b (((ak.get (i:=3) J).2.1 b hb).2) (ak.disj (i:=3) (j:=4) J J J b hb))
  refine An 1 J<|bn<|Aq<|An 2 J ?_
  rw [ax] at c
  exact fun a ha=>bl a _ ae (AB ae) ⟨b6,Ah (aj+1),b8,b9,ha.sb J,cb,cc.sel [1,2,3,4] J,s,c⟩
  refine Bb<|bh ?_
  refine Ao fun _ cd=>Al fun _ ce=>wp 1 J<|bB c fun v cf c=>I3 (e:=BK) (i:=2) underlying61 J J J o J cf ?_
  rintro dy _ rfl cg dz
  refine BZ MT J cg J<|Ai<|ce<|A0<|Ao fun ch ci=>?_
  obtain ⟨cj,ck,c⟩:=Cb c
  have w:∀(ap:Bool)(aa:Af)(_:cj ap=some r)(_:Bl (wE d) aa)(_:Sp (wE d) aa [A5 d (AP [A6 B9 74 n f g]),A6 B9 74 n f g,Ab BK F5 z y,Ab As x q t]),∀ a,St 62 [(0,.pointer (some ⟨f,0,none⟩)),(5,z),(6,q),(40,.bool ap)] a→ch a aa:=by
   intro ap aa c aq ab
   subst ck
   refine ci<|A3 J c (fun _ c=>?_)<|fun _ c=>?_
   refine Al fun _ cl=>?_
   refine wp 2 J<|bB c fun cm cn c=>I3 (e:=BK) (i:=2) underlying61 J J J ab J cn ?_
   rintro d0 _ rfl co d1
   refine BZ MT J co J<|wp 1 J<|bB c fun a0 cp c=>A7 J call79 (QM aa g f n cm t q x (ab.sel [1,3] J).base0 _ cp) J ?_
   rintro _ a1 ⟨a2,rfl,cq,a3⟩
   refine ⟨_,rfl,?_⟩
   have cr:=ab.takeB [1,3] J (M:=[A6 B9 74 n f g,Ab As x q t]) J aq cq a3
   have cs:Sp (wE d) a1 [A6 B9 74 a2 f a0.2,A5 d (AP [A6 B9 74 n f g]),Ab BK F5 z y]:=ab.take [1,3] [0,2] J (M:=[A6 B9 74 n f g,Ab As x q t]) J a3 aq.size
   refine bB c fun d2 ct c=>Bn J call78 cr cs (XN a1 a0.1 _ ct) J fun d3 _ cu cv=>An 1 J<|cl<|Aw<|rt hQ J J<|by cases c; exact ⟨a2,rfl,cu,cv.sel [1,0] J⟩
   refine Au<|cd ?_
   refine Al fun _ cw=>wp 2 J<|bB c fun cx cy c=>I3 (e:=BK) (i:=2) underlying61 J J J ab J cy ?_
   rintro d4 _ rfl ar d5
   refine BZ MT J ar J<|wp 1 J ?_
   obtain ⟨cz,d6,c0,d7,c1,d8,c2,d9,c3,ea,c4,eb,c5,ec,p⟩:=G5 (ab.sel [1,0,2,3] J)
   refine bB c fun ed c6 c=>Bn J call80 aq p (Sr aa g ⟨f,0,none⟩ cz (p.own_ro (i:=1) J) c0 (p.own_ro (i:=2) J) c1 (p.own_ro (i:=3) J) c2 (p.own_ro (i:=4) J) c3 (p.own_ro (i:=5) J) c4 (p.own_ro (i:=6) J) c5 (p.own_ro (i:=7) J) (Aas (i:=0) p J) cx t q (p.own_ro (i:=10) J) _ c6) J fun c7 c8 c9 da=>?_
   have ar:=ar.keepS (fun b hb=>c8.block b (((p.get (i:=9) J).2.1 b hb).2)) (fun _ h=>h)
   refine An 1 J<|cw<|Aw ?_
   obtain ⟨db,dc⟩:∃ F,Sp (wE d) c7 [A6 B9 74 F f g,A5 d (AP [A6 B9 74 n f g]),Ab BK F5 z y,Ab As x q t]:=⟨_,DT (da.sel [0,1,2,3,4,5,6,7,8,9,10] J)⟩
   refine rt hQ J J<|by cases c; exact ⟨db,rfl,c9,dc.sel [1,0] J⟩
  refine Al fun _ dd=>AR J J J<|An 1 J<|dd<|A3 J c (fun _ c=>?_)<|fun _ c=>?_
  refine Au ?_
  exact jx (w (v==[115,112,111,116]) _ c u (o.sel [0,1,2,3] J)) J
  refine Al fun _ de=>?_
  refine AR J J J<|An 1 J<|de<|A3 J c (fun _ c=>?_)<|fun _ c=>?_
  refine Au ?_
  exact jx (w (v==[112,108,97,99,101]) _ c u (o.sel [0,1,2,3] J)) J
  refine Al fun _ df=>?_
  refine AR J J J<|An 1 J<|df<|A3 J c (fun _ c=>?_)<|fun _ c=>?_
  refine Au ?_
  exact jx (w (v==[109,105,114,114,111,114]) _ c u (o.sel [0,1,2,3] J)) J
  refine Al fun _ dg=>?_
  refine AR J J J<|An 1 J<|dg<|A3 J c (fun _ c=>?_)<|fun _ c=>?_
  refine Au ?_
  exact jx (w (v==[107,101,101,112]) _ c u (o.sel [0,1,2,3] J)) J
  refine Al fun _ dh=>?_
  refine AR J J J<|An 1 J<|dh<|A3 J c (fun _ c=>?_)<|fun _ c=>?_
  refine Au ?_
  exact jx (w (v==[99,111,117,110,116,115]) _ c u (o.sel [0,1,2,3] J)) J
  refine Al fun _ di=>?_
  refine AR J J J<|An 1 J<|di<|A3 J c (fun _ c=>?_)<|fun _ c=>?_
  refine Au ?_
  exact jx (w (v==[109,101,97,115,117,114,101]) _ c u (o.sel [0,1,2,3] J)) J
  refine Al fun _ dj=>?_
  refine AR J J J<|An 1 J<|dj<|A3 J c (fun _ c=>?_)<|fun _ c=>?_
  refine Au ?_
  exact jx (w (v==[99,97,114,114,121]) _ c u (o.sel [0,1,2,3] J)) J
  refine Aq ?_
  refine AR J J J<|An 1 J ?_
  exact jx (w (v==[118,101,114,115,105,111,110]) _ c u (o.sel [0,1,2,3] J)) J
theorem Mn(g:Af)(x:List Ag)(r:(Akg×Akg×Int×Akg×Akh×Akj×(List Int)×(List Int)×Int)×(List Ag)×Bool)(b:HB x=some r) :
  A2 46 [.string (AL x)] g fun e w'=>∃(p0:Nat)(H0:Ap),e=.returned (.tuple #[.pointer (some ⟨p0,0,none⟩),.string (AL r.2.1),.bool r.2.2])∧Bl g w'∧Sp g w' [A6 B9 74 H0 p0 r.1]:=by
 refine cm func46 ntmps46 J fun Q hQ hP hB hS=>?_
 unfold HB at b
 refine Am 3 J<|Al fun _ a0=>bB b fun u3 a2 b=>Ds J call63 hB hS (WN g _ a2) J fun f F5 w6 _ _ a4 a5=>An 1 J<|a0<|Al fun _ a6=>wp 1 J<|bB b fun h a7 b=>Ds J call59 a4 a5 (M1 w6 x _ a7) J fun n o c6 _ _ aj y=>An 5 J<|a6<|Ao fun _ a8=>Am 2 J<|A3 J b (fun _ b=>?_)<|fun _ b=>?_
 refine Am 4 J ?_
 refine Aw<|rt hQ J J<|by cases b; exact ⟨f,F5,rfl,aj,y.sel [1] J⟩
 refine Au<|a8 ?_
 refine Am 1 J<|Ao fun _ a9=>Al fun _ ba=>wp 1 J<|BO (y.own_ro (i:=0) J) underlying61 J<|An 1 J<|ba<|A0<|AN (fun m a t=>∃(d:Akg×Akg×Int×Akg×Akh×Akj×(List Int)×(List Int)×Int)(u:List Ag)(j:Int)(q:Ap),St 70 [(5,.pointer (some ⟨f,0,none⟩)),(6,n),(8,.string (AL u)),(21,n),(22,iv (List.length h.1:Int)),(23,iv j)] a∧Bl g t∧Sp g t [A6 B9 74 q f d,Ab BK o n h.1]∧GN h m d u j=some r) FU ?_ ?_
 exact fun a ha=>⟨u3,[],0,F5,ha.sb J,aj,y.sel [1,0] J,b⟩
 rintro s a t ⟨d,u,j,q,ha,z,p,b⟩ c7 bb
 refine BC ?_ ha
 cases s with
 | zero=>exact Be b
 | succ s =>
  obtain ⟨c8,ak⟩:∃ k,k=GN h s:=⟨_,rfl⟩
  rw [GN,← ak] at b
  refine Am 1 J<|Ao fun _ bc=>A3 J b (fun _ b=>?_)<|fun _ b=>?_
  refine Au<|bc ?_
  refine Ao fun _ bd=>A0<|Al fun _ be=>wp 1 J<|bB b fun bf bg b=>Co (e:=BK) (i:=1) underlying61 J J J p J bg ?_
  rintro c9 _ rfl bh da
  refine BZ MT J bh J<|An 2 J<|be<|Al fun _ bi=>wp 2 J<|bB b fun c bj b=>A7 J call64 (RQ t d f q bf (p.sel [0] J).base0 _ bj) J ?_
  rintro _ bk ⟨al,rfl,bl,am⟩
  refine ⟨_,rfl,?_⟩
  have aa:=p.takeB [0] J (M:=[A6 B9 74 q f d]) J z bl am
  have ab:Sp g bk [A6 B9 74 al f c.2,Ab BK o n h.1]:=p.take [0] [1] J (M:=[A6 B9 74 q f d]) J am z.size
  refine An 1 J<|bi<|Ao fun bm bn=>?_
  obtain ⟨bo,bp,b⟩:=Cb b
  have ac:∀(v:Akg×Akg×Int×Akg×Akh×Akj×(List Int)×(List Int)×Int)(ad:Ap)(w:Af)(_:bo v=some r)(_:Bl g w)(_:Sp g w [A6 B9 74 ad f v,Ab BK o n h.1]),∀ a,St 70 [(5,.pointer (some ⟨f,0,none⟩)),(6,n),(8,.string (AL u)),(11,.string (AL c.1)),(21,n),(22,iv (List.length h.1:Int)),(23,iv j)] a→bm a w:=by
   intro v ad w b bq br
   subst bp
   refine bn<|Aq<|wp 2 J<|bB b fun db bs b=>BA J J J bs<|bB b fun bt bu b=>BA J J J bu<|An 1 J<|bd<|Aq<|An 2 J ?_
   rw [ak] at b
   exact fun a ha=>bb a _ s (AB s) ⟨v,bt,Ah (j+1),ad,ha.sb J,bq,br.sel [0,1] J,b⟩
  refine Am 1 J<|A0<|Al fun _ bv=>AR J J J<|An 1 J<|bv<|A3 J b (fun _ b=>?_)<|fun _ b=>?_
  refine Aq ?_
  refine wp 2 J<|B4 J J<|Bp Wz J ?_
  obtain ⟨bw,dc,bx,dd,bz,de,b0,df,b1,dg,dh,di,b2,dj,an⟩:=G5 (ab.sel [0,1] J)
  refine AU 0 FA J an J J<|wp 2 J<|AZ (vs:=[iv (Ah (j+1))]) (l:=[Ah (j+1)]) Cl underlying36 J J J J J J aa an fun b3 b5 b6 _ b7 ao=>bB b fun ap b8 b=>AE (i:=7) (S:=(·<b6.heap.size)) Cl underlying36 J J J b7 ao J (ao.own_ro (i:=0) J) b8 fun aq dk dl _ b9 ae=>B4 J J<|Bp Wz J<|BG (i:=1) (vs:=[aq]) (cs':=[bw,bx,iv c.2.2.2.1,bz,b0,b1,aq,b2,iv c.2.2.2.2.2.2.2.2.2]) FA J J (Ch (ae.own_ro (i:=7) J).one) J b9 ae J J ⟨(ae.own_ro (i:=7) J).one,trivial⟩ J fun ca _ cb cc=>Ai ?_
  obtain ⟨cd,ce⟩:∃ F,Sp g ca [A6 B9 74 F f (c.2.1,c.2.2.1,c.2.2.2.1,c.2.2.2.2.1,c.2.2.2.2.2.1,c.2.2.2.2.2.2.1,ap,c.2.2.2.2.2.2.2.2.1,c.2.2.2.2.2.2.2.2.2),Ab As b5 b3 [Ah (j+1)],Ab BK o n h.1]:=⟨_,DT (cc.sel [1,2,3,4,5,6,7,8,0,9] J)⟩
  exact jx (ac ((c.2.1,c.2.2.1,c.2.2.2.1,c.2.2.2.2.1,c.2.2.2.2.2.1,c.2.2.2.2.2.2.1,ap,c.2.2.2.2.2.2.2.2.1,c.2.2.2.2.2.2.2.2.2)) cd _ b cb (ce.sel [0,2] J)) J
  refine Al fun _ cf=>?_
  refine AR J J J<|An 1 J<|cf<|A3 J b (fun _ b=>?_)<|fun _ b=>?_
  refine Aq ?_
  refine wp 2 J<|B4 J J<|Bp Wy J ?_
  obtain ⟨cg,dm,ch,dn,ci,dp,cj,dq,ck,dr,cl,ds,dt,du,ar⟩:=G5 (ab.sel [0,1] J)
  refine AU 0 FA J ar J J<|wp 2 J<|AZ (vs:=[iv (Ah (j+1))]) (l:=[Ah (j+1)]) Cl underlying36 J J J J J J aa ar fun cn co cp _ cq au=>bB b fun av cr b=>AE (i:=8) (S:=(·<cp.heap.size)) Cl underlying36 J J J cq au J (au.own_ro (i:=0) J) cr fun aw dv dw _ cs af=>B4 J J<|Bp Wy J<|BG (i:=1) (vs:=[aw]) (cs':=[cg,ch,iv c.2.2.2.1,ci,cj,ck,cl,aw,iv c.2.2.2.2.2.2.2.2.2]) FA J J (Ch (af.own_ro (i:=8) J).one) J cs af J J ⟨(af.own_ro (i:=8) J).one,trivial⟩ J fun ct _ cu cv=>Ai ?_
  obtain ⟨cw,cx⟩:∃ F,Sp g ct [A6 B9 74 F f (c.2.1,c.2.2.1,c.2.2.2.1,c.2.2.2.2.1,c.2.2.2.2.2.1,c.2.2.2.2.2.2.1,c.2.2.2.2.2.2.2.1,av,c.2.2.2.2.2.2.2.2.2),Ab As co cn [Ah (j+1)],Ab BK o n h.1]:=⟨_,DT (cv.sel [1,2,3,4,5,6,7,8,0,9] J)⟩
  exact jx (ac ((c.2.1,c.2.2.1,c.2.2.2.1,c.2.2.2.2.1,c.2.2.2.2.2.1,c.2.2.2.2.2.2.1,c.2.2.2.2.2.2.2.1,av,c.2.2.2.2.2.2.2.2.2)) cw _ b cu (cx.sel [0,2] J)) J
  refine Au ?_
  exact jx (ac (c.2) al _ b aa (ab.sel [0,1] J)) J
  refine Bb<|a9 ?_
  refine Al fun _ cy=>wp 2 J<|BO (p.own_ro (i:=1) J) underlying61 J<|B4 J J<|Bp Agz J ?_
  obtain ⟨dx,dy,dz,d0,d1,d2,d3,d4,d5,d6,d7,d8,d9,ea,cz⟩:=G5 (p.sel [0,1] J)
  refine GC 0 A9 J J z cz J J J fun c0 _ c1 c2=>Ai<|cy<|Am 5 J<|Aw ?_
  obtain ⟨c3,c4⟩:∃ F,Sp g c0 [A6 B9 74 F f (d.1,d.2.1,d.2.2.1,d.2.2.2.1,d.2.2.2.2.1,d.2.2.2.2.2.1,d.2.2.2.2.2.2.1,d.2.2.2.2.2.2.2.1,(List.length h.1:Int)),Ab BK o n h.1]:=⟨_,DT (c2.sel [0,1,2,3,4,5,6,7,8] J)⟩
  refine rt hQ J J<|by cases b; exact ⟨f,c3,rfl,c1,c4.sel [0] J⟩
theorem VS(b:Af)(c r:List Ag)(a:KA c=some r) :
  A2 10 [.string (AL c)] b fun e w'=>e=.returned (.string (AL r))∧Bl b w':=by
 refine cm func10 ntmps10 J fun Q d k f _=>?_
 unfold KA at a
 refine Am 1 J<|Al fun _ g=>wp 1 J<|bB a fun l h a=>A7 J call46 (Mn b c _ h) J ?_
 rintro _ m ⟨n,o,rfl,i,p⟩
 refine ⟨_,rfl,?_⟩
 have j:=tm f i
 refine An 7 J<|g<|Am 2 J<|Aw<|rt d J J<|by cases a; exact ⟨rfl,j⟩
theorem PZ(c:Af)(a:List Ag)(b r:Int)(d:GF a b=some r) :
  A2 231 [.string (AL a),.int .u8 b] c fun e w'=>e=.returned (iv r)∧Bl c w':=by
 refine cm func231 ntmps231 J fun Q f i g _=>?_
 unfold GF at d
 refine Am 1 J<|Al fun _ h=>wp 2 J<|Yb (vs:=[.string (AL a),.int .u8 b]) J func251 J J (by kernel_rfl) (by kernel_rfl) J (Aem a b)<|An 1 J<|h<|Aw<|rt f J J<|by cases d; exact ⟨rfl,g⟩
theorem Sq(h:Af)(f d:List Ag)(r:Int)(b:Ig f d=some r) :
  A2 209 [.string (AL f),.string (AL d)] h fun e w'=>e=.returned (iv r)∧Bl h w':=by
 refine cm func209 ntmps209 J fun Q i hP l m=>?_
 unfold Ig at b
 refine Am 1 J<|Al fun _ o=>wp 1 J<|Dl underlying9 J J<|An 1 J<|o<|Ao fun _ _=>A0<|Ao fun p q=>?_
 obtain ⟨s,t,b⟩:=Cb b
 have n:∀(j:Bool)(g:Af)(_:s j=some r)(_:Bl h g)(_:Sp h g []),∀ a,St 143 [(0,.string (AL f)),(1,.string (AL d)),(5,iv (List.length d:Int)),(16,.bool j)] a→p a g:=by
  intro j g b k ac
  subst t
  refine q<|A3 J b (fun _ b=>?_)<|fun _ b=>?_
  refine Am 1 J ?_
  refine Aw<|rt i J J<|by cases b; exact ⟨rfl,k⟩
  refine Am 3 J ?_
  refine A3 J b (fun _ b=>?_)<|fun _ b=>?_
  refine Al fun _ u=>?_
  refine wp 2 J<|bB b fun v w b=>Fd underlying9 J J J w<|bB b fun ad x b=>A7 J call231 (PZ g f (UInt8.toNat v:Int) _ x) J ?_
  rintro _ ae ⟨rfl,y⟩
  refine ⟨_,rfl,?_⟩
  have z:=tm k y
  refine An 1 J<|u<|Aw<|rt i J J<|by cases b; exact ⟨rfl,z⟩
  refine Al fun _ aa=>?_
  refine wp 2 J<|Dl underlying9 J J<|An 2 J<|aa<|A3 J b (fun _ b=>?_)<|fun _ b=>?_
  refine Am 1 J ?_
  refine Aw<|rt i J J<|by cases b; exact ⟨rfl,k⟩
  exact Be b
 refine Aq<|wp 3 J ?_
 rcases bE ((List.length d:Int)==0) with c|c
 replace b:=Bw c b
 refine wo J c<|wo J c<|wo J c<|A8 J J c J<|An 1 J ?_
 exact jx (n true _ b l (m.sel [] J)) J
 replace b:=BI c b
 refine wn J c<|wp 1 J<|wn J c<|wp 1 J<|wn J c<|AR J J J<|Ak J J c J<|An 1 J ?_
 exact jx (n (d==f) _ b l (m.sel [] J)) J
theorem Q1(b:Af)(c d:List Ag)(r:Int)(a:GL c d=some r) :
  A2 166 [.string (AL c),.string (AL d)] b fun e w'=>e=.returned (iv r)∧Bl b w':=by
 refine cm func166 ntmps166 J fun Q f l g _=>?_
 unfold GL at a
 refine Am 1 J<|Al fun _ h=>wp 2 J<|bB a fun m i a=>A7 J call209 (Sq b c d _ i) J ?_
 rintro _ n ⟨rfl,j⟩
 refine ⟨_,rfl,?_⟩
 have k:=tm g j
 refine An 1 J<|h<|Aw<|rt f J J<|by cases a; exact ⟨rfl,k⟩
theorem VN(g:Af)(d c:List Ag)(r:Int)(b:H9 d c=some r) :
  A2 165 [.string (AL d),.string (AL c)] g fun e w'=>e=.returned (iv r)∧Bl g w':=by
 refine cm func165 ntmps165 J fun Q l hP n s=>?_
 unfold H9 at b
 refine Am 1 J<|Ao fun _ t=>Al fun _ u=>wp 1 J<|Dl underlying9 J J<|An 1 J<|u<|A3 J b (fun _ b=>?_)<|fun _ b=>?_
 exact Be b
 refine Au<|t ?_
 refine Ao fun _ v=>Al fun _ w=>wp 1 J<|Dl underlying9 J J<|An 1 J<|w<|A3 J b (fun _ b=>?_)<|fun _ b=>?_
 refine Al fun _ x=>?_
 refine wp 2 J<|bB b fun o y b=>Fd underlying9 J J J y<|Yb (vs:=[.string (AL d),.int .u8 (UInt8.toNat o:Int)]) J func208 J J (by kernel_rfl) (by kernel_rfl) J (Aen d (UInt8.toNat o:Int))<|An 1 J<|x<|Aw<|rt l J J<|by cases b; exact ⟨rfl,n⟩
 refine Au<|v ?_
 refine Am 1 J<|A0<|AN (fun m a h=>∃(i:List Ag)(j:Int),St 34 [(0,.string (AL i)),(1,.string (AL c)),(5,iv j)] a∧Bl g h∧Sp g h []∧I9 c m i j=some r) FU ?_ ?_
 exact fun a ha=>⟨d,0,ha.sb J,n,s.sel [] J,b⟩
 rintro f a h ⟨i,j,ha,z,aa,b⟩ aj ab
 refine BC ?_ ha
 cases f with
 | zero=>exact Be b
 | succ f =>
  obtain ⟨ak,p⟩:∃ k,k=I9 c f:=⟨_,rfl⟩
  rw [I9] at b; try rw [← p] at b
  refine A0<|Al fun _ ac=>wp 2 J<|bB b fun al ad b=>Bn J call166 z aa (Q1 h i c _ ad) J fun am _ q ae=>An 1 J<|ac<|Ao fun _ af=>Am 2 J<|A3 J b (fun _ b=>?_)<|fun _ b=>?_
  refine Am 2 J ?_
  refine Aw<|rt l J J<|by cases b; exact ⟨rfl,q⟩
  refine Au<|af ?_
  refine Am 3 J<|Aq<|wp 3 J<|Dl underlying9 J J<|wp 1 J<|bB b fun ag ah b=>I2 underlying9 J J ah (.inr ⟨_,_,rfl,rfl⟩) (.inl ⟨rfl,rfl⟩)<|An 1 J ?_
  rw [p] at b
  exact fun a ha=>ab a _ f (AB f) ⟨ag,Ah (j+1),ha.sb J,q,ae.sel [] J,b⟩
theorem Ta(c:Af)(d f:List Ag)(h x3:Int)(r:List (List Ag))(b:I8 d f h x3=some r) :
  A2 109 [.string (AL d),.string (AL f),iv h,iv x3] c fun e w'=>∃(q0:Ac)(G0:Ap),e=.returned q0∧Bl c w'∧Sp c w' [Ab BK G0 q0 r]:=by
 refine cm func109 ntmps109 J fun Q hQ hP hB hS=>?_
 unfold I8 at b
 refine Am 1 J<|Ao fun _ a1=>Am 2 J<|A3 J b (fun _ b=>?_)<|fun _ b=>?_
 refine Am 1 J ?_
 refine Aw ?_
 have a2:=hS.push0 (r:=Ab BK [] (.slice none 0 0) []) J fun _=>.inl ⟨rfl,rfl,rfl⟩
 refine rt hQ J J<|by cases b; exact ⟨.slice none 0 0,[],rfl,hB,a2.sel [0] J⟩
 refine Au<|a1 ?_
 refine Ao fun _ a3=>Al fun _ a4=>wp 1 J<|AR J J J<|Ai<|a4<|A3 J b (fun _ b=>?_)<|fun _ b=>?_
 exact Be b
 refine Au<|a3 ?_
 refine Ao fun a5 a6=>?_
 obtain ⟨a7,a8,b⟩:=Cb b
 have ak:∀(j:Int)(v:Af)(_:a7 j=some r)(_:Bl c v)(_:Sp c v []),∀ a,St 66 [(0,.string (AL d)),(1,.string (AL f)),(2,iv h),(3,iv j)] a→a5 a v:=by
  intro j v b a9 ba
  subst a8
  refine a6<|Al fun _ bb=>wp 2 J<|Dl underlying9 J J<|wp 1 J<|UU J J J<|An 1 J<|bb<|Al fun _ bc=>wp 1 J<|bB b fun bd be b=>Pm (e:=BK) underlying61 J J be a9 ba fun bf bg ce _ bh bi=>An 1 J<|bc<|Am 3 J<|Am 1 J<|Ao fun bj bk=>?_
  obtain ⟨ad,bl,b⟩:=jE3 b
  have al:∀(l:List Ag)(w:List (List Ag))(s:Int)(ae:Ac)(am:Ap)(x:Af)(_:ad l w s=some r)(_:Bl c x)(_:Sp c x [Ab BK am ae w]),∀ a,St 66 [(0,.string (AL l)),(9,ae),(10,iv s)] a→bj a x:=by
   intro l w s ae am x b bm an
   subst bl
   refine bk<|Al fun _ bn=>wp 3 J<|bB b fun cf ao b=>Co (e:=BK) (i:=0) underlying61 J J J an J ao ?_
   rintro cg _ rfl ch bo
   refine Cf (i:=0) (o:=0) (vs:=[.string (AL l)]) (u':=l) Gl MT J J J J bo ao bm an J J ⟨rfl,trivial⟩ J fun ci _ bp y=>Ai<|bn<|Al fun _ bq=>wp 3 J<|bB b fun ap af b=>Mp (e:=BK) underlying61 J J (y.ok (i:=0) J:ownS BK _ _ _ _).rd af (.inl ⟨rfl,rfl⟩) (.inr ⟨_,_,rfl,rfl⟩) fun aq _ br=>An 1 J<|bq<|Aw ?_
   obtain ⟨ar,au,bs,bt⟩:=Aad (y.ok (i:=0) J:ownS BK _ _ _ _) (y.get (i:=0) J).1 br (XV af).1
   rw [show List.take ((Ah (s+1)):Int).toNat (BL w s l)=ap from (XV af).2.symm] at au
   have bu:=(y.sel [0] J).shrink (r':=Ab BK ar aq ap) bs bt fun _ hk=>au.keep hk
   refine rt hQ J J<|by cases b; exact ⟨aq,ar,rfl,bp,bu.sel [0] J⟩
  refine A0<|AN (fun m a z=>∃(n:List Ag)(p:List (List Ag))(g:Int)(q:Ac)(t:Ap),St 66 [(0,.string (AL n)),(1,.string (AL f)),(2,iv h),(3,iv (Ah ((Fq j (Ah ((List.length d:Int)+1)))-1))),(9,q),(10,iv g)] a∧Bl c z∧Sp c z [Ab BK t q p]∧Di j d f ad h m n p g=some r) FU ?_ ?_
  exact fun a ha=>⟨d,bd,0,bf,bg,ha.sb J,bh,bi.sel [0] J,b⟩
  rintro u a z ⟨n,p,g,q,t,ha,av,aw,b⟩ cj bv
  refine BC ?_ ha
  cases u with
  | zero=>exact Be b
  | succ u =>
   obtain ⟨ck,ax⟩:∃ k,k=Di j d f ad h u:=⟨_,rfl⟩
   rw [Di] at b; try rw [← ax] at b
   refine Ao fun _ bw=>Am 3 J<|A3 J b (fun _ b=>?_)<|fun _ b=>?_
   refine Au<|bw ?_
   refine A0<|Al fun _ bx=>wp 2 J<|bB b fun cl bz b=>Bn J call166 av aw (Q1 z n f _ bz) J fun cn _ ay ag=>An 1 J<|bx<|Ao fun _ b0=>Am 2 J<|A3 J b (fun _ b=>?_)<|fun _ b=>?_
   refine Bb ?_
   exact jx (al n p g q t _ b ay (ag.sel [0] J)) J
   refine Au<|b0 ?_
   refine Al fun _ b1=>wp 6 J<|bB b fun ah b2 b=>I2 underlying9 J J b2 (.inl ⟨rfl,rfl⟩) (.inr ⟨_,_,rfl,rfl⟩)<|bB b fun co az b=>Co (e:=BK) (i:=0) underlying61 J J J ag J az ?_
   rintro cp _ rfl cq b3
   refine Cf (i:=0) (o:=0) (vs:=[.string (AL ah)]) (u':=ah) Gl MT J J J J b3 az ay ag J J ⟨rfl,trivial⟩ J fun cr _ b4 b5=>Ai<|b1<|Al fun _ b6=>wp 3 J<|Dl underlying9 J J<|wp 1 J<|bB b fun b7 b8 b=>I2 underlying9 J J b8 (.inr ⟨_,_,rfl,rfl⟩) (.inl ⟨rfl,rfl⟩)<|An 1 J<|b6<|Aq<|An 3 J ?_
   rw [ax] at b
   exact fun a ha=>bv a _ u (AB u) ⟨b7,BL p g ah,Ah (g+1),q,t,ha.sb J,b4,b5.sel [0] J,b⟩
   refine Bb ?_
   exact jx (al n p g q t _ b av (aw.sel [0] J)) J
 refine Am 2 J<|A3 J b (fun _ b=>?_)<|fun _ b=>?_
 refine Aq ?_
 refine wp 2 J<|bB b fun b9 ca b=>Bn J call165 hB hS (VN c d f _ ca) J fun cs _ cb cc=>An 2 J ?_
 exact jx (ak (Ah (b9+1)) _ b cb (cc.sel [] J)) J
 refine Au ?_
 exact jx (ak x3 _ b hB (hS.sel [] J)) J
theorem Qz(a:Af)(c d:List Ag)(r:List (List Ag))(b:Ff c d=some r) :
  A2 81 [.string (AL c),.string (AL d)] a fun e w'=>∃(f:Ac)(g:Ap),e=.returned f∧Bl a w'∧Sp a w' [Ab BK g f r]:=by
 refine cm func81 ntmps81 J fun Q h q i j=>?_
 unfold Ff at b
 refine Am 1 J<|Al fun _ k=>wp 2 J<|bB b fun s l b=>Ds J call109 i j (Ta a c d 0 (-1) _ l) J fun m n t _ _ o p=>An 1 J<|k<|Aw<|rt h J J<|by cases b; exact ⟨m,n,rfl,o,p.sel [0] J⟩
theorem WZ(b:Af)(g:List Ag)(r:(List (List Ag))×Bool)(a:JA g=some r) :
  A2 72 [.string (AL g)] b fun e w'=>∃(h:Ac)(i:Ap),e=.returned (.tuple #[h,.bool r.2])∧Bl b w'∧Sp b w' [Ab BK i h r.1]:=by
 refine cm func72 ntmps72 J fun Q c hP d f=>?_
 unfold JA at a
 refine Am 2 J<|Ao fun _ j=>Al fun _ k=>wp 1 J<|AR J J J<|Ai<|k<|A3 J a (fun _ a=>?_)<|fun _ a=>?_
 refine Al fun _ m=>?_
 refine AZ (vs:=[]) (l:=[]) Gl underlying61 J J J J J J d f fun n o w8 _ p q=>An 2 J<|m<|Aw<|rt c J J<|by cases a; exact ⟨n,o,rfl,p,q.sel [0] J⟩
 refine Au<|j ?_
 refine Ao fun _ s=>Al fun _ t=>wp 2 J<|Dl underlying9 J J<|wp 1 J<|bB a fun ag u a=>Fd underlying9 J J J u<|An 1 J<|t<|A3 J a (fun _ a=>?_)<|fun _ a=>?_
 refine Am 2 J ?_
 refine Aw ?_
 have v:=f.push0 (r:=Ab BK [] (.slice none 0 0) []) J fun _=>.inl ⟨rfl,rfl,rfl⟩
 refine rt c J J<|by cases a; exact ⟨.slice none 0 0,[],rfl,d,v.sel [0] J⟩
 refine Au<|s ?_
 refine Al fun _ w=>wp 2 J<|Dl underlying9 J J<|wp 1 J<|bB a fun x y a=>I2 underlying9 J J y (.inl ⟨rfl,rfl⟩) (.inr ⟨_,_,rfl,rfl⟩)<|bB a fun ah z a=>Ds J call81 d f (Qz b x [10] _ z) J fun aa ab ai _ _ ac ad=>An 2 J<|w<|Aw<|rt c J J<|by cases a; exact ⟨aa,ab,rfl,ac,ad.sel [0] J⟩
theorem KF(f:Af)(g:List Ag)(r:(List (List Ag))×Bool)(b:DX g=some r) :
  A2 58 [.string (AL g)] f fun e w'=>∃(p:Ac)(v:Ap),e=.returned (.tuple #[p,.bool r.2])∧Bl f w'∧Sp f w' [Ab BK v p r.1]:=by
 refine cm func58 ntmps58 J fun Q q hP w x=>?_
 unfold DX at b
 refine Am 2 J<|Al fun _ y=>wp 1 J<|bB b fun k z b=>Ds J call72 w x (WZ f g _ z) J fun l s w6 _ _ m h=>An 5 J<|y<|Ao fun _ aa=>Ao fun ab ac=>?_
 obtain ⟨ad,ae,b⟩:=Cb b
 have n:∀(o:Bool)(j:Af)(_:ad o=some r)(_:Bl f j)(_:Sp f j [Ab BK s l k.1]),∀ a,St 24 [(4,l),(22,.bool o)] a→ab a j:=by
  intro o j b t u
  subst ae
  refine ac<|A3 J b (fun _ b=>?_)<|fun _ b=>?_
  refine Am 2 J ?_
  refine Aw ?_
  have af:=u.push0 (r:=Ab BK [] (.slice none 0 0) []) J fun _=>.inl ⟨rfl,rfl,rfl⟩
  refine rt q J J<|by cases b; exact ⟨.slice none 0 0,[],rfl,t,af.sel [0] J⟩
  refine Au<|aa ?_
  refine Am 3 J<|Aw<|rt q J J<|by cases b; exact ⟨l,s,rfl,t,u.sel [0] J⟩
 refine Aq<|wp 3 J ?_
 rcases bE (!k.2) with c|c
 replace b:=Bw c b
 refine wo J c<|wo J c<|wo J c<|A8 J J c J<|wp 1 J<|wo J J<|wo J J<|wo J J<|A8 J J J J<|Ai ?_
 exact jx (n true _ b m (h.sel [0] J)) J
 replace b:=BI c b
 refine wn J c<|wp 1 J<|wn J c<|Dl underlying9 J J<|wn J c<|wp 1 J<|Ak J J c J<|wp 1 J ?_
 rcases bE (decide (2000<(List.length g:Int))) with d|d
 replace b:=Bw d b
 refine wo J d<|wo J d<|wo J d<|A8 J J d J<|Ai ?_
 exact jx (n true _ b m (h.sel [0] J)) J
 replace b:=BI d b
 refine wn J d<|wp 1 J<|wn J d<|BO (h.own_ro (i:=0) J) underlying61 J<|wn J d<|wp 1 J<|Ak J J d J<|Ai ?_
 exact jx (n (decide (40<(List.length k.1:Int))) _ b m (h.sel [0] J)) J
theorem VT(b:Af)(r:Akg×Akg×Int×Akg×Akh×Akj)(j:LU = some r) :
  A2 65 [] b fun e w'=>∃(k:Nat)(n:Ap),e=.returned (.pointer (some ⟨k,0,none⟩))∧Bl b w'∧Sp b w' [A6 AX 76 n k r]:=by
 refine cm func65 ntmps65 J fun Q o hP p q=>?_
 unfold LU at j
 refine Am 1 J<|Al fun _ s=>DS (zs:=[iv 0,iv 0]) (out:=[iv 0,iv 0]) (vs:=[]) (css:=[]) Bt MQ J J J J J<|AZ (vs:=[.agg #[iv 0,iv 0]]) (l:=[(0,0)]) CR underlying26 J J J J J J p q fun c F4 w5 _ t u=>DS (zs:=[iv 0,iv 0]) (out:=[iv 0,iv 0]) (vs:=[]) (css:=[]) Bt MQ J J J J J<|AZ (vs:=[.agg #[iv 0,iv 0]]) (l:=[(0,0)]) CR underlying26 J J J J J J t u fun d ak al _ v w=>DS (zs:=[iv 0,iv 0]) (out:=[iv 4,iv 120]) (vs:=[iv 4,iv 120]) (css:=[[iv 4],[iv 120]]) Hb XX J J J J J<|AZ (vs:=[.agg #[iv 4,iv 120]]) (l:=[(4,120)]) Hz underlying31 J J J J J J v w fun f am an _ x y=>AZ (vs:=[]) (l:=[]) C2 underlying72 J J J J J J x y fun g ao ap _ z aa=>DS (zs:=[iv 0,iv 0,iv 0]) (out:=[iv (-1),iv 0,iv 0]) (vs:=[iv (-1)]) (css:=[[iv (-1)]]) LR XW J J J J J<|AZ (vs:=[.agg #[iv (-1),iv 0,iv 0]]) (l:=[(-1,0,0)]) Hy underlying41 J J J J J J z aa fun h aq ar _ ab a=>DS (zs:=[.slice none 0 0,.slice none 0 0,iv 0,.slice none 0 0,.slice none 0 0,.slice none 0 0]) (out:=[c,d,iv 8,f,g,h]) (vs:=[c,d,iv 8,f,g,h]) (css:=[[c],[d],[iv 8],[f],[g],[h]]) Ai2 Ai7 J J (by simp only [List.map_cons,List.map_nil,Ch ((a.own_ro (i:=4) J).one),Ch ((a.own_ro (i:=3) J).one),Ch ((a.own_ro (i:=2) J).one),Ch ((a.own_ro (i:=1) J).one),Ch ((a.own_ro (i:=0) J).one)] <;> rfl) J J<|CV J ab a fun m ac _ ad ae=>An 1 J<|s<|Aw ?_
 obtain ⟨af,ag⟩:∃ F,Sp b ac [A6 AX 76 F m ([(0,0)],[(0,0)],8,[(4,120)],[],[(-1,0,0)])]:=⟨_,DF (ae.sel [0,5,4,3,2,1] J)⟩
 refine rt o J J<|by cases j; exact ⟨m,af,rfl,ad,ag.sel [0] J⟩
theorem WY(i:Af)(h:List Ag)(r:Int×Bool)(b:Lh h=some r) :
  A2 82 [.string (AL h)] i fun e w'=>e=.returned (.tuple #[iv r.1,.bool r.2])∧Bl i w':=by
 refine cm func82 ntmps82 J fun Q u hP o p=>?_
 unfold Lh at b
 refine Am 2 J<|Ao fun _ ae=>Ao fun K3 ag=>?_
 obtain ⟨k8,ai,b⟩:=Cb b
 have q:∀(v:Bool)(s:Af)(_:k8 v=some r)(_:Bl i s)(_:Sp i s []),∀ a,St 48 [(0,.string (AL h)),(22,.bool v)] a→K3 a s:=by
  intro v s b z aj
  subst ai
  refine ag<|A3 J b (fun _ b=>?_)<|fun _ b=>?_
  refine Am 2 J ?_
  refine Aw<|rt u J J<|by cases b; exact ⟨rfl,z⟩
  refine Au<|ae ?_
  refine Am 1 J<|Ao fun _ ak=>Am 1 J<|A0<|AN (fun m a w=>∃(j l:Int),St 48 [(0,.string (AL h)),(4,iv j),(5,iv l)] a∧Bl i w∧Sp i w []∧FW h m j l=some r) FU ?_ ?_
  exact fun a ha=>⟨0,0,ha.sb J,z,aj.sel [] J,b⟩
  rintro n a w ⟨j,l,ha,x,aa,b⟩ a6 al
  refine BC ?_ ha
  cases n with
  | zero=>exact Be b
  | succ n =>
   obtain ⟨a7,ab⟩:∃ k,k=FW h n:=⟨_,rfl⟩
   rw [FW,← ab] at b
   refine Ao fun _ am=>Al fun _ an=>wp 2 J<|Dl underlying9 J J<|An 1 J<|an<|A3 J b (fun _ b=>?_)<|fun _ b=>?_
   refine Au<|am ?_
   refine Ao fun _ ao=>A0<|Ao fun _ ap=>Ao fun aq ar=>?_
   obtain ⟨au,av,b⟩:=Cb b
   have ac:∀(y:Bool)(t:Af)(_:au y=some r)(_:Bl i t)(_:Sp i t []),∀ a,St 48 [(0,.string (AL h)),(4,iv j),(5,iv l),(38,.bool y)] a→aq a t:=by
    intro y t b ad aw
    subst av
    refine ar<|A3 J b (fun _ b=>?_)<|fun _ b=>?_
    refine Am 2 J ?_
    refine Aw<|rt u J J<|by cases b; exact ⟨rfl,ad⟩
    refine Au<|ap ?_
    refine Aq<|wp 4 J<|bB b fun ax ay b=>Fd underlying9 J J J ay<|wp 1 J<|DR underlying5 underlying3 J J<|An 2 J<|ao<|Aq<|An 3 J ?_
    rw [ab] at b
    exact fun a ha=>al a _ n (AB n) ⟨Ah ((Ah (10*j))+(Ah (NP ((UInt8.toNat ax:Int)-48)))),Ah (l+1),ha.sb J,ad,aw.sel [] J,b⟩
   refine Aq<|wp 2 J<|bB b fun az a0 b=>Fd underlying9 J J J a0<|wp 2 J ?_
   rcases bE (decide ((UInt8.toNat az:Int)<48)) with d|d
   replace b:=Bw d b
   refine wo J d<|wo J d<|wo J d<|wo J d<|A8 J J d J<|Ai ?_
   exact jx (ac true _ b x (aa.sel [] J)) J
   replace b:=BI d b
   refine wn J d<|wp 1 J<|wn J d<|wp 1 J<|wn J d<|bB b fun a1 a2 b=>Fd underlying9 J J J a2<|wn J d<|wp 1 J<|Ak J J d J<|Ai ?_
   exact jx (ac (decide (57<(UInt8.toNat a1:Int))) _ b x (aa.sel [] J)) J
   refine Bb<|ak ?_
   refine Am 3 J<|Aw<|rt u J J<|by cases b; exact ⟨rfl,x⟩
 refine Aq<|wp 1 J<|AR J J J<|wp 1 J ?_
 rcases bE (h==[]) with f|f
 replace b:=Bw f b
 refine wo J f<|wo J f<|wo J f<|A8 J J f J<|wp 1 J<|wo J J<|wo J J<|wo J J<|wo J J<|D5 J J J<|D5 J J J<|D5 J J J<|wo J J<|A8 J J J J<|Ai ?_
 exact jx (q true _ b o (p.sel [] J)) J
 replace b:=BI f b
 refine wn J f<|wp 1 J<|wn J f<|Dl underlying9 J J<|wn J f<|wp 1 J<|Ak J J f J<|wp 1 J ?_
 rcases bE (decide (9<(List.length h:Int))) with c|c
 replace b:=Bw c b
 refine wo J c<|wo J c<|wo J c<|wo J c<|D5 J J J<|D5 J J J<|D5 J J J<|wo J c<|A8 J J c J<|Ai ?_
 exact jx (q true _ b o (p.sel [] J)) J
 replace b:=BI c b
 refine wn J c<|wp 1 J<|wn J c<|Dl underlying9 J J<|wn J c<|wp 1 J<|wn J c<|wp 1 J ?_
 rcases bE (decide (1<(List.length h:Int))) with g|g
 replace b:=Bw g b
 refine wn J g<|wp 1 J<|wn J g<|bB b fun a3 a4 b=>Fd underlying9 J J J a4<|wn J g<|wp 1 J<|wn J c<|A8 J J g J<|Ak J J c J<|Ai ?_
 exact jx (q ((UInt8.toNat a3:Int)==48) _ b o (p.sel [] J)) J
 replace b:=BI g b
 refine wo J g<|wo J g<|wo J g<|wn J c<|Ak J J g J<|Ak J J c J<|Ai ?_
 exact jx (q false _ b o (p.sel [] J)) J
theorem Th(d:Af)(c:List Ag)(r:Int)(b:KB c=some r) :
  A2 83 [.string (AL c)] d fun e w'=>e=.returned (iv r)∧Bl d w':=by
 refine cm func83 ntmps83 J fun Q g hP k l=>?_
 unfold KB at b
 refine Am 1 J<|Ao fun _ ac=>Am 1 J<|A0<|Ao fun K4 ae=>?_
 obtain ⟨k9,ag,b⟩:=Cb b
 have m:∀(u:Bool)(n:Af)(_:k9 u=some r)(_:Bl d n)(_:Sp d n []),∀ a,St 26 [(3,.string (AL c)),(4,.bool u)] a→K4 a n:=by
  intro u n b f h
  subst ag
  refine ae<|A3 J b (fun _ b=>?_)<|fun _ b=>?_
  refine Am 1 J ?_
  refine Aw<|rt g J J<|by cases b; exact ⟨rfl,f⟩
  refine Ao fun ah ai=>?_
  obtain ⟨aj,ak,b⟩:=Cb b
  have i:∀(v:Bool)(o:Af)(_:aj v=some r)(_:Bl d o)(_:Sp d o []),∀ a,St 26 [(3,.string (AL c)),(9,.bool v)] a→ah a o:=by
   intro v o b j p
   subst ak
   refine ai<|A3 J b (fun _ b=>?_)<|fun _ b=>?_
   refine Am 1 J ?_
   refine Aw<|rt g J J<|by cases b; exact ⟨rfl,j⟩
   refine Ao fun al am=>?_
   obtain ⟨an,ao,b⟩:=Cb b
   have q:∀(w:Bool)(s:Af)(_:an w=some r)(_:Bl d s)(_:Sp d s []),∀ a,St 26 [(3,.string (AL c)),(16,.bool w)] a→al a s:=by
    intro w s b x aa
    subst ao
    refine am<|A3 J b (fun _ b=>?_)<|fun _ b=>?_
    refine Am 1 J ?_
    refine Aw<|rt g J J<|by cases b; exact ⟨rfl,x⟩
    refine Ao fun ap aq=>?_
    obtain ⟨ar,au,b⟩:=Cb b
    have ab:∀(y:Bool)(t:Af)(_:ar y=some r)(_:Bl d t)(_:Sp d t []),∀ a,St 26 [(3,.string (AL c)),(21,.bool y)] a→ap a t:=by
     intro y t b z a9
     subst au
     refine aq<|A3 J b (fun _ b=>?_)<|fun _ b=>?_
     refine Am 1 J ?_
     refine Aw<|rt g J J<|by cases b; exact ⟨rfl,z⟩
     refine Al fun _ av=>?_
     refine AR J J J<|An 1 J<|av<|A3 J b (fun _ b=>?_)<|fun _ b=>?_
     refine Am 1 J ?_
     refine Aw<|rt g J J<|by cases b; exact ⟨rfl,z⟩
     refine Au<|ac ?_
     refine Am 1 J<|Aw<|rt g J J<|by cases b; exact ⟨rfl,z⟩
    refine Al fun _ aw=>AR J J J<|An 1 J<|aw<|A3 J b (fun _ b=>?_)<|fun _ b=>?_
    refine Au ?_
    exact jx (ab (c==[112,108,97,99,101]) _ b x (aa.sel [] J)) J
    refine Aq ?_
    refine AR J J J<|An 1 J ?_
    exact jx (ab (c==[118,101,114,115,105,111,110]) _ b x (aa.sel [] J)) J
   refine Al fun _ ax=>AR J J J<|An 1 J<|ax<|A3 J b (fun _ b=>?_)<|fun _ b=>?_
   refine Au ?_
   exact jx (q (c==[115,112,111,116]) _ b j (p.sel [] J)) J
   refine Al fun _ ay=>?_
   refine AR J J J<|An 1 J<|ay<|A3 J b (fun _ b=>?_)<|fun _ b=>?_
   refine Au ?_
   exact jx (q (c==[115,111,117,110,100]) _ b j (p.sel [] J)) J
   refine Al fun _ az=>?_
   refine AR J J J<|An 1 J<|az<|A3 J b (fun _ b=>?_)<|fun _ b=>?_
   refine Au ?_
   exact jx (q (c==[109,101,97,115,117,114,101]) _ b j (p.sel [] J)) J
   refine Aq ?_
   refine AR J J J<|An 1 J ?_
   exact jx (q (c==[119,104,111]) _ b j (p.sel [] J)) J
  refine Al fun _ a0=>AR J J J<|An 1 J<|a0<|A3 J b (fun _ b=>?_)<|fun _ b=>?_
  refine Au ?_
  exact jx (i (c==[99,111,117,110,116,115]) _ b f (h.sel [] J)) J
  refine Al fun _ a1=>?_
  refine AR J J J<|An 1 J<|a1<|A3 J b (fun _ b=>?_)<|fun _ b=>?_
  refine Au ?_
  exact jx (i (c==[99,108,111,115,101]) _ b f (h.sel [] J)) J
  refine Al fun _ a2=>?_
  refine AR J J J<|An 1 J<|a2<|A3 J b (fun _ b=>?_)<|fun _ b=>?_
  refine Au ?_
  exact jx (i (c==[107,105,110,100]) _ b f (h.sel [] J)) J
  refine Al fun _ a3=>?_
  refine AR J J J<|An 1 J<|a3<|A3 J b (fun _ b=>?_)<|fun _ b=>?_
  refine Au ?_
  exact jx (i (c==[116,101,120,116]) _ b f (h.sel [] J)) J
  refine Al fun _ a4=>?_
  refine AR J J J<|An 1 J<|a4<|A3 J b (fun _ b=>?_)<|fun _ b=>?_
  refine Au ?_
  exact jx (i (c==[116,105,109,101]) _ b f (h.sel [] J)) J
  refine Aq ?_
  refine AR J J J<|An 1 J ?_
  exact jx (i (c==[115,116,97,116,101]) _ b f (h.sel [] J)) J
 refine Al fun _ a5=>AR J J J<|An 1 J<|a5<|A3 J b (fun _ b=>?_)<|fun _ b=>?_
 refine Au ?_
 exact jx (m (c==[109,105,114,114,111,114]) _ b k (l.sel [] J)) J
 refine Al fun _ a6=>?_
 refine AR J J J<|An 1 J<|a6<|A3 J b (fun _ b=>?_)<|fun _ b=>?_
 refine Au ?_
 exact jx (m (c==[107,101,101,112]) _ b k (l.sel [] J)) J
 refine Al fun _ a7=>?_
 refine AR J J J<|An 1 J<|a7<|A3 J b (fun _ b=>?_)<|fun _ b=>?_
 refine Au ?_
 exact jx (m (c==[115,117,109]) _ b k (l.sel [] J)) J
 refine Aq ?_
 refine AR J J J<|An 1 J ?_
 exact jx (m (c==[108,101,97,115,116]) _ b k (l.sel [] J)) J
theorem C1(d:Af)(f h i:Int)(r:Bool)(b:Ck f h i=some r) :
  A2 60 [iv f,iv h,iv i] d fun e w'=>e=.returned (.bool r)∧Bl d w':=by
 refine cm func60 ntmps60 J fun Q n u k l=>?_
 unfold Ck at b
 refine Am 1 J<|Ao fun o p=>?_
 obtain ⟨q,s,b⟩:=Cb b
 have m:∀(j:Bool)(g:Af)(_:q j=some r)(_:Bl d g)(_:Sp d g []),∀ a,St 15 [(6,.bool j)] a→o a g:=by
  intro j g b t v
  subst s
  refine p<|Aw<|rt n J J<|by cases b; exact ⟨rfl,t⟩
 refine Aq<|wp 4 J ?_
 rcases bE (decide (h≤f)) with c|c
 replace b:=Bw c b
 refine wn J c<|wp 1 J<|wn J c<|wp 1 J<|wn J c<|wp 1 J<|A8 J J c J<|An 1 J ?_
 exact jx (m (decide (f≤i)) _ b k (l.sel [] J)) J
 replace b:=BI c b
 refine wo J c<|wo J c<|wo J c<|Ak J J c J<|An 1 J ?_
 exact jx (m false _ b k (l.sel [] J)) J
theorem LD(f:Af)(d:Int×Int)(r:Bool)(b:Hd d=some r) :
  A2 61 [.agg #[iv d.1,iv d.2]] f fun e w'=>e=.returned (.bool r)∧Bl f w':=by
 refine cm func61 ntmps61 J fun Q m hP n o=>?_
 unfold Hd at b
 refine Al fun _ p=>CV J n o fun b2 q _ s j=>An 1 J<|p<|Ao fun t u=>?_
 obtain ⟨v,w,b⟩:=Cb b
 have k:∀(h:Bool)(g:Af)(_:v h=some r)(_:Bl f g)(_:Sp f g []),∀ a,St 11 [(2,.bool h)] a→t a g:=by
  intro h g b x ah
  subst w
  refine u<|Aw<|rt m J J<|by cases b; exact ⟨rfl,x⟩
 refine Aq<|Bp CY J<|AU 0 A9 J j J J<|bB b fun y z b=>Bn J call60 s j (C1 q d.1 0 1280 _ z) J fun aa _ l i=>wp 1 J ?_
 rcases bE y with c|c
 replace b:=Bw c b
 refine wn J c<|Bp CX J<|wn J c<|AU 0 A9 J i J J<|wn J c<|bB b fun ab ac b=>Bn J call60 l i (C1 aa d.2 0 672 _ ac) J fun ai _ ad ae=>A8 J J c J<|An 1 J ?_
 exact jx (k ab _ b ad (ae.sel [] J)) J
 replace b:=BI c b
 refine wo J c<|wo J c<|wo J c<|Ak J J c J<|An 1 J ?_
 exact jx (k false _ b l (i.sel [] J)) J
theorem M8(g:Af)(h:Akg)(l:Ac)(p:RO At g l h)(c:Int×Int)(r:Int)(b:EV h c=some r) :
  A2 74 [l,.agg #[iv c.1,iv c.2]] g fun e w'=>e=.returned (iv r)∧Bl g w':=by
 refine cm func74 ntmps74 J fun Q q d w x=>?_
 unfold EV at b
 refine Al fun _ y=>CV J w x fun s w3 _ z aa=>An 1 J<|y<|Ao fun _ ab=>Al fun _ ac=>wp 1 J<|BO p underlying26 J<|An 1 J<|ac<|A0<|AN (fun m a n=>∃(j:Int),St 19 [(0,l),(3,.pointer (some ⟨s,0,none⟩)),(7,iv (List.length h:Int)),(8,iv j)] a∧Bl g n∧Sp g n [Av s 79 [iv c.1,iv c.2]]∧Cz h c m j=some r) FU ?_ ?_
 exact fun a ha=>⟨0,ha.sb J,z,aa.sel [0] J,b⟩
 rintro i a n ⟨j,ha,t,ad,b⟩ an ae
 refine BC ?_ ha
 cases i with
 | zero=>exact Be b
 | succ i =>
  obtain ⟨ao,u⟩:∃ k,k=Cz h c i:=⟨_,rfl⟩
  rw [Cz,← u] at b
  refine Am 1 J<|Ao fun _ af=>A3 J b (fun _ b=>?_)<|fun _ b=>?_
  refine Au<|af ?_
  refine Ao fun _ ag=>A0<|Am 2 J<|Ao fun _ ah=>AQ B1 [] t ad fun ai _ o v=>?_
  have f:=KeepX.refl ai []
  refine Ad 0 J d f<|CN 0 Bt J v J (by simp)<|Ay 1 J d f<|Ay 2 J d f<|bB b fun aj ak b=>Ad 3 J d f<|B7 (e:=At) underlying26 J J J p ak ?_
  rintro ap _ rfl al
  refine Ad 4 J d f<|BR Bt J (al.kx o (by simp)) J<|Ad 5 J d f<|Ahz Tryz.eqGuardType79 (Abl c aj) J J J<|Bc<|ah<|A3 J b (fun _ b=>?_)<|fun _ b=>?_
  refine Am 2 J ?_
  refine Aw<|rt q J J<|by cases b; exact ⟨rfl,o⟩
  refine Au<|ag ?_
  refine Aq<|An 2 J ?_
  rw [u] at b
  exact fun a ha=>ae a _ i (AB i) ⟨Ah (j+1),ha.sb J,o,v.sel [0] J,b⟩
  refine Bb<|ab ?_
  refine Am 1 J<|Aw<|rt q J J<|by cases b; exact ⟨rfl,t⟩
theorem LW(c:Af)(d:Akg)(f:Ac)(h:RO At c f d)(a:Int×Int)(r:Bool)(b:D0 d a=some r) :
  A2 62 [f,.agg #[iv a.1,iv a.2]] c fun e w'=>e=.returned (.bool r)∧Bl c w':=by
 refine cm func62 ntmps62 J fun Q i t j k=>?_
 unfold D0 at b
 refine Al fun _ l=>CV J j k fun u m _ g n=>An 1 J<|l<|Al fun _ o=>wp 1 J<|AU 0 Bt J n J J<|bB b fun u8 p b=>A7 J call74 (M8 m d f (h.ro g) a _ p) J ?_
 rintro _ v ⟨rfl,q⟩
 refine ⟨_,rfl,?_⟩
 have s:=tm g q
 refine An 2 J<|o<|Aw<|rt i J J<|by cases b; exact ⟨rfl,s⟩
theorem GA(g:Af)(h:Akg)(i:Ac)(n:RO At g i h)(r:Bool)(b:DD h=some r) :
  A2 43 [i] g fun e w'=>e=.returned (.bool r)∧Bl g w':=by
 refine cm func43 ntmps43 J fun Q p d hB hS=>?_
 unfold DD at b
 refine Am 1 J<|Ao fun _ ah=>Al fun _ ai=>wp 1 J<|BO n underlying26 J<|bB b fun u4 aj b=>Bn J call60 hB hS (C1 g (List.length h:Int) 1 12 _ aj) J fun w5 _ w ak=>An 1 J<|ai<|A3 J b (fun _ b=>?_)<|fun _ b=>?_
 refine Am 1 J ?_
 refine Aw<|rt p J J<|by cases b; exact ⟨rfl,w⟩
 refine Au<|ah ?_
 refine Ao fun _ al=>Al fun _ am=>wp 1 J<|BO n underlying26 J<|An 1 J<|am<|A0<|AN (fun m a q=>∃(j:Int),St 27 [(0,i),(9,i),(10,iv (List.length h:Int)),(11,iv j)] a∧Bl g q∧Sp g q []∧FZ h m j=some r) FU ?_ ?_
 exact fun a ha=>⟨0,ha.sb J,w,ak.sel [] J,b⟩
 rintro l a q ⟨j,ha,s,an,b⟩ bk ao
 refine BC ?_ ha
 cases l with
 | zero=>exact Be b
 | succ l =>
  obtain ⟨bl,x⟩:∃ k,k=FZ h l:=⟨_,rfl⟩
  rw [FZ,← x] at b
  refine Am 1 J<|Ao fun _ ap=>A3 J b (fun _ b=>?_)<|fun _ b=>?_
  refine Au<|ap ?_
  refine Ao fun _ aq=>A0<|Al fun _ ar=>wp 1 J<|bB b fun y au b=>BT (e:=At) underlying26 J J J n au ?_
  rintro bm _ rfl av
  refine BZ Bt J (av.ro s) J<|EE Bt J s an fun bn bo _ aw ax=>wp 1 J<|GC 0 Bt J J aw ax J J J fun bp _ ay az=>Ai<|ar<|Ao fun a0 a1=>?_
  obtain ⟨a2,a3,b⟩:=Cb b
  have z:∀(t:Bool)(o:Af)(_:a2 t=some r)(_:Bl g o)(_:Sp g o []),∀ a,St 27 [(0,i),(9,i),(10,iv (List.length h:Int)),(11,iv j),(25,.bool t)] a→a0 a o:=by
   intro t o b aa a4
   subst a3
   refine a1<|A3 J b (fun _ b=>?_)<|fun _ b=>?_
   refine Am 1 J ?_
   refine Aw<|rt p J J<|by cases b; exact ⟨rfl,aa⟩
   refine Au<|aq ?_
   refine Aq<|An 2 J ?_
   rw [x] at b
   exact fun a ha=>ao a _ l (AB l) ⟨Ah (j+1),ha.sb J,aa,a4.sel [] J,b⟩
  refine AQ B1 [] ay az fun ab _ a5 u=>?_
  have ac:=KeepX.refl ab []
  refine Ad 0 J d ac<|CN 0 Bt J u J (by simp)<|A1 1 J<|bB b fun a6 a7 b=>Bn J call61 a5 u (LD ab y _ a7) J fun a8 a9 v ad=>?_
  have f:=ac.ext a9
  refine Ai<|Ar f<|Ad 2 J d f<|LZ J J<|Ay 3 J d f ?_
  rcases bE (!a6) with c|c
  replace b:=Bw c b
  refine Bh 4 J d c f<|Bh 5 J d c f<|Bh 6 J d c f<|Bh 7 J d c f<|Bh 8 J d c f<|Ad 9 J d f<|EK J J c J<|Bc ?_
  exact jx (z true _ b v (ad.sel [] J)) J
  replace b:=BI c b
  refine BQ 4 J d c f<|Dq J J<|BQ 5 J d c f<|Dq J J<|bB b fun ba bb b=>BQ 6 J d c f<|Aex (e:=At) underlying26 J J n bb (.inl ⟨rfl,rfl⟩) (.inr ⟨_,_,rfl,rfl⟩) fun bc bd=>BQ 7 J d c f<|CN 0 Bt J u J (by simp)<|A1 8 J<|wn J c<|bB b fun u64 be b=>Bn J call62 v ad (LW a8 ba bc (bd.ro v) y _ be) J fun bq bf bg bh=>?_
  have ae:=f.ext bf
  refine Ai<|Ar ae<|Ad 9 J d ae<|GI J J c J<|Bc ?_
  exact jx (z u64 _ b bg (bh.sel [] J)) J
  refine Bb<|al ?_
  refine Am 1 J<|Aw<|rt p J J<|by cases b; exact ⟨rfl,s⟩
theorem Rx(b:Af)(c:Bool)(r:List Ag)(a:J9 c=some r) :
  A2 118 [.bool c] b fun e w'=>e=.returned (.string (AL r))∧Bl b w':=by
 refine cm func118 ntmps118 J fun Q d h f _=>?_
 unfold J9 at a
 refine Am 1 J<|Ao fun _ g=>Am 1 J<|A3 J a (fun _ a=>?_)<|fun _ a=>?_
 refine Am 1 J ?_
 refine Aw<|rt d J J<|by cases a; exact ⟨rfl,f⟩
 refine Au<|g ?_
 refine Am 1 J<|Aw<|rt d J J<|by cases a; exact ⟨rfl,f⟩
theorem CE(c:Af)(b:Akg×Akg×Int×Akg×Akh×Akj)(f:Nat)(j:Ap)(g:Akg)(h:Ac)(k:Ap)(m:Bool)(u:Sep 0 c [A6 AX 76 j f b,Ab At k h g])(r:(List Ag)×(Akg×Akg×Int×Akg×Akh×Akj))(d:Dz b g m=some r) :
  A2 110 [.pointer (some ⟨f,0,none⟩),h,.bool m] c fun e w'=>∃(H_0:Ap),e=.returned (.string (AL r.1))∧Below 0 (wE c) w'∧Sep 0 w' [A5 c (AP [A6 AX 76 j f b,Ab At k h g]),A6 AX 76 H_0 f r.2]:=by
 refine Ek func110 J ntmps110 J J fun Q v hP=>?_
 have q:Bl (wE c) c:=Dp c
 have s:Sp (wE c) c [A5 c (AP [A6 AX 76 j f b,Ab At k h g]),A6 AX 76 j f b,Ab At k h g]:=u.rest
 unfold Dz at d
 refine Am 1 J<|Ao fun w x=>?_
 obtain ⟨y,z,d⟩:=Cb d
 have t:∀(n:Akg×Akg×Int×Akg×Akh×Akj)(o:Ap)(l:Af)(_:y n=some r)(_:Bl (wE c) l)(_:Sp (wE c) l [A5 c (AP [A6 AX 76 j f b,Ab At k h g]),A6 AX 76 o f n]),∀ a,St 14 [(2,.bool m)] a→w a l:=by
  intro n o l d aa ab
  subst z
  refine x<|Al fun _ ac=>wp 1 J<|bB d fun au ad d=>Bn J call118 aa ab (Rx l m _ ad) J fun av _ ae af=>An 1 J<|ac<|Aw<|rt v J J<|by cases d; exact ⟨o,rfl,ae,af.sel [0,1] J⟩
 refine Am 1 J<|A3 J d (fun _ d=>?_)<|fun _ d=>?_
 refine Aq ?_
 refine wp 2 J<|B4 J J<|Bp Io J ?_
 obtain ⟨ag,ah,ai,aw,aj,ax,ak,ay,al,az,p⟩:=HM (s.sel [1,0,2] J)
 refine BG (i:=0) (vs:=[h]) (cs':=[h,ai,iv b.2.2.1,aj,ak,al]) Cs J J (Ch (p.own_ro (i:=7) J).one) J q p J J ⟨(p.own_ro (i:=7) J).one,trivial⟩ J fun am _ an ao=>Ai ?_
 obtain ⟨ap,aq⟩:∃ F,Sp (wE c) am [A6 AX 76 F f (g,b.2.1,b.2.2.1,b.2.2.2.1,b.2.2.2.2.1,b.2.2.2.2.2),Ab At ah ag b.1,A5 c (AP [A6 AX 76 j f b,Ab At k h g])]:=⟨_,DF (ao.sel [0,7,2,3,4,5,1,6] J)⟩
 exact jx (t ((g,b.2.1,b.2.2.1,b.2.2.2.1,b.2.2.2.2.1,b.2.2.2.2.2)) ap _ d an (aq.sel [2,0] J)) J
 refine Au ?_
 exact jx (t b j _ d q (s.sel [0,1] J)) J
theorem Ej(a:Af)(d:Akg)(c:Ac)(f:Ap)(m:Sep 0 a [Ab At f c d])(r:Akg×Bool)(b:GV d=some r) :
  A2 111 [c] a fun e w'=>∃(g:Ac)(n:Ap),e=.returned (.tuple #[g,.bool r.2])∧Below 0 (wE a) w'∧Sep 0 w' [A5 a (AP [Ab At f c d]),Ab At n g r.1]:=by
 refine Ek func111 J ntmps111 J J fun Q h u=>?_
 have o:Bl (wE a) a:=Dp a
 have j:Sp (wE a) a [A5 a (AP [Ab At f c d]),Ab At f c d]:=m.rest
 unfold GV at b
 refine Am 2 J<|Ao fun _ p=>Al fun _ q=>wp 1 J<|bB b fun v s b=>Bn J call43 o j (GA a d c (j.own_ro (i:=1) J) _ s) J fun w _ k l=>An 1 J<|q<|A3 J b (fun _ b=>?_)<|fun _ b=>?_
 refine Am 2 J ?_
 refine Aw ?_
 have t:=l.push0 (r:=Ab At [] (.slice none 0 0) []) J fun _=>.inl ⟨rfl,rfl,rfl⟩
 refine rt h J J<|by cases b; exact ⟨.slice none 0 0,[],rfl,k,t.sel [1,0] J⟩
 refine Au<|p ?_
 refine Am 3 J<|Aw<|rt h J J<|by cases b; exact ⟨c,f,rfl,k,l.sel [0,1] J⟩
theorem Rz(g:Af)(j:Akg)(k:Ac)(n:RO At g k j)(h:Int)(d:Int×Int)(r:Akg×Bool)(b:Hu j h d=some r) :
  A2 112 [k,iv h,.agg #[iv d.1,iv d.2]] g fun e w'=>∃(z:Ac)(G0:Ap),e=.returned (.tuple #[z,.bool r.2])∧Bl g w'∧Sp g w' [Ab At G0 z r.1]:=by
 refine cm func112 ntmps112 J fun Q hQ hP hB hS=>?_
 unfold Hu at b
 refine Al fun _ aq=>CV J hB hS fun p w3 _ ab au=>An 2 J<|aq<|Ao fun _ av=>Ao fun K8 ax=>?_
 obtain ⟨ay,az,b⟩:=Cb b
 have q:∀(s:Bool)(m:Af)(_:ay s=some r)(_:Bl g m)(_:Sp g m [Av p 79 [iv d.1,iv d.2]]),∀ a,St 36 [(0,k),(1,iv h),(5,.pointer (some ⟨p,0,none⟩)),(24,.bool s)] a→K8 a m:=by
  intro s m b ac ad
  subst az
  refine ax<|A3 J b (fun _ b=>?_)<|fun _ b=>?_
  refine Am 2 J ?_
  refine Aw ?_
  have a0:=ad.push0 (r:=Ab At [] (.slice none 0 0) []) J fun _=>.inl ⟨rfl,rfl,rfl⟩
  refine rt hQ J J<|by cases b; exact ⟨.slice none 0 0,[],rfl,ac,a0.sel [0] J⟩
  refine Au<|av ?_
  refine Al fun _ a1=>AZ (vs:=[]) (l:=[]) CR underlying26 J J J J J J ac ad fun bq br a2 _ ae a3=>wp 1 J<|bB b fun t a4 b=>AE (i:=0) (S:=(·<a2.heap.size)) CR underlying26 J J J ae a3 J (n.ro ae) a4 fun u v bs _ a5 w=>An 1 J<|a1<|Al fun _ a6=>wp 2 J<|AU 1 Bt J w J J<|bB b fun bt af b=>Co (e:=At) (i:=0) underlying26 J J J w J af ?_
  rintro bu _ rfl bv a7
  refine Cf (i:=0) (o:=0) (vs:=[iv d.1,iv d.2]) (u':=d) CR Bt J J J J a7 af a5 w J J ⟨rfl,rfl,trivial⟩ J fun a8 _ ag x=>Ai<|a6<|Al fun _ a9=>wp 1 J<|bB b fun ba bb b=>A7 J call111 (Ej a8 (BL t h d) u v (x.sel [0] J).base0 _ bb) J ?_
  rintro _ bc ⟨ah,ai,rfl,bd,aj⟩
  refine ⟨_,rfl,?_⟩
  have be:=x.takeB [0] J (M:=[Ab At v u (BL t h d)]) J ag bd aj
  have bf:Sp g bc [Ab At ai ah ba.1,Av p 79 [iv d.1,iv d.2]]:=x.take [0] [1] J (M:=[Ab At v u (BL t h d)]) J aj ag.size
  refine An 4 J<|a9<|Aw<|rt hQ J J<|by cases b; exact ⟨ah,ai,rfl,be,bf.sel [0] J⟩
 refine Aq<|wp 1 J<|bB b fun bg bh b=>Bn J call43 ab au (GA w3 j k (n.ro ab) _ bh) J fun bi _ ak al=>wp 2 J ?_
 rcases bE (!bg) with c|c
 replace b:=Bw c b
 refine wo J c<|wo J c<|wo J c<|wo J c<|wo J c<|wo J c<|A8 J J c J<|wp 1 J<|wo J J<|wo J J<|wo J J<|A8 J J J J<|Ai ?_
 exact jx (q true _ b ak (al.sel [0] J)) J
 replace b:=BI c b
 refine wn J c<|wp 1 J<|wn J c<|wp 1 J<|wn J c<|BO n underlying26 J<|wn J c<|wp 1 J<|wn J c<|bB b fun bj bk b=>Bn J call60 ak al (C1 bi h 0 (Ah ((List.length j:Int)-1)) _ bk) J fun bl _ am y=>wn J c<|wp 1 J<|Ak J J c J<|wp 1 J ?_
 rcases bE (!bj) with f|f
 replace b:=Bw f b
 refine wo J f<|wo J f<|wo J f<|A8 J J f J<|Ai ?_
 exact jx (q true _ b am (y.sel [0] J)) J
 replace b:=BI f b
 refine wn J f<|AU 0 Bt J y J J<|wn J f<|bB b fun u64 bm b=>Bn J call61 am y (LD bl d _ bm) J fun bw _ bn bo=>wn J f<|wp 1 J<|Ak J J f J<|Ai ?_
 exact jx (q (!u64) _ b bn (bo.sel [0] J)) J
theorem Tl(d:Af)(f:Akg)(h:Ac)(o:RO At d h f)(r:Akg×Bool)(b:IG f=some r) :
  A2 113 [h] d fun e w'=>∃(v:Ac)(G0:Ap),e=.returned (.tuple #[v,.bool r.2])∧Bl d w'∧Sp d w' [Ab At G0 v r.1]:=by
 refine cm func113 ntmps113 J fun Q w hP x hS=>?_
 unfold IG at b
 refine Am 2 J<|Ao fun _ af=>Al fun _ ag=>wp 1 J<|bB b fun u4 ah b=>Bn J call43 x hS (GA d f h (o.ro x) _ ah) J fun w5 _ y z=>An 1 J<|ag<|A3 J b (fun _ b=>?_)<|fun _ b=>?_
 refine Am 2 J ?_
 refine Aw ?_
 have ai:=z.push0 (r:=Ab At [] (.slice none 0 0) []) J fun _=>.inl ⟨rfl,rfl,rfl⟩
 refine rt w J J<|by cases b; exact ⟨.slice none 0 0,[],rfl,y,ai.sel [0] J⟩
 refine Au<|af ?_
 refine Al fun _ aj=>AZ (vs:=[]) (l:=[]) CR underlying26 J J J J J J y z fun ak al bc _ am an=>An 1 J<|aj<|Ao fun _ ao=>Al fun _ ap=>wp 1 J<|BO o underlying26 J<|An 1 J<|ap<|A0<|AN (fun m a p=>∃(q:Akg)(j:Int)(n:Ac)(s:Ap),St 28 [(4,n),(11,h),(12,iv (List.length f:Int)),(13,iv j)] a∧Bl d p∧Sp d p [Ab At s n q]∧Ew f m q j=some r) FU ?_ ?_
 exact fun a ha=>⟨[],0,ak,al,ha.sb J,am,an.sel [0] J,b⟩
 rintro g a p ⟨q,j,n,s,ha,t,aa,b⟩ bd aq
 refine BC ?_ ha
 cases g with
 | zero=>exact Be b
 | succ g =>
  obtain ⟨be,ab⟩:∃ k,k=Ew f g:=⟨_,rfl⟩
  rw [Ew,← ab] at b
  refine Am 1 J<|Ao fun _ ar=>A3 J b (fun _ b=>?_)<|fun _ b=>?_
  refine Au<|ar ?_
  refine Ao fun _ au=>A0<|Al fun _ av=>bB b fun c aw b=>BT (e:=At) underlying26 J J J o aw ?_
  rintro bf _ rfl ax
  refine BZ Bt J (ax.ro t) J<|EE Bt J t aa fun bg bh _ ay az=>GC 0 Bt J J ay az J J J fun bi _ a0 u=>Ai<|av<|Aq<|wp 1 J<|Bp CY J<|AU 0 A9 J u J J<|wp 1 J<|Bp CX J<|AU 0 A9 J u J J<|DS (zs:=[iv 0,iv 0]) (out:=[iv (Ah (1280-c.1)),iv c.2]) (vs:=[iv (Ah (1280-c.1)),iv c.2]) (css:=[[iv (Ah (1280-c.1))],[iv c.2]]) Bt MQ J J J J J<|AZ (vs:=[.agg #[iv (Ah (1280-c.1)),iv c.2]]) (l:=[(Ah (1280-c.1),c.2)]) CR underlying26 J J J J J J a0 u fun bj bk a1 _ a2 ac=>bB b fun a3 a4 b=>AE (i:=2) (S:=(·<a1.heap.size)) CR underlying26 J J J a2 ac J (ac.own_ro (i:=0) J) a4 fun a5 a6 bl _ a7 a8=>An 1 J<|au<|Aq<|An 2 J ?_
  rw [ab] at b
  exact fun a ha=>aq a _ g (AB g) ⟨a3,Ah (j+1),a5,a6,ha.sb J,a7,a8.sel [2] J,b⟩
  refine Bb<|ao ?_
  refine Am 3 J<|Aw<|rt w J J<|by cases b; exact ⟨n,s,rfl,t,aa.sel [0] J⟩
theorem OQ(g:Af)(c:Akg×Akg×Int×Akg×Akh×Akj)(f:Nat)(aa:Ap)(x1:List Ag)(k:List Int)(m:Ac)(n:Ap)(j0:Sep 0 g [A6 AX 76 aa f c,Ab As n m k])(r:(List Ag)×(Akg×Akg×Int×Akg×Akh×Akj))(d:BU c x1 k=some r) :
  A2 84 [.pointer (some ⟨f,0,none⟩),.string (AL x1),m] g fun e w'=>∃(H_0:Ap),e=.returned (.string (AL r.1))∧Below 0 (wE g) w'∧Sep 0 w' [A5 g (AP [A6 AX 76 aa f c,Ab As n m k]),A6 AX 76 H_0 f r.2]:=by
 refine Ek func84 J ntmps84 J J fun Q hQ o=>?_
 have hB:Bl (wE g) g:=Dp g
 have hS:Sp (wE g) g [A5 g (AP [A6 AX 76 aa f c,Ab As n m k]),A6 AX 76 aa f c,Ab As n m k]:=j0.rest
 unfold BU at d
 refine Am 1 J<|Ao fun _ j1=>Am 1 J<|A0<|Al fun _ j2=>AR J J J<|An 1 J<|j2<|A3 J d (fun _ d=>?_)<|fun _ d=>?_
 refine Ao fun K6 j4=>?_
 obtain ⟨j5,j6,d⟩:=Np d
 have ak:∀(dr:Akg×Akg×Int×Akg×Akh×Akj)(ds:List Ag)(dt:Ap)(w7:Af)(_:j5 dr ds=some r)(_:Bl (wE g) w7)(_:Sp (wE g) w7 [A5 g (AP [A6 AX 76 aa f c,Ab As n m k]),A6 AX 76 dt f dr]),∀ a,St 84 [(6,.string (AL ds))] a→K6 a w7:=by
  intro dr ds dt w7 d j7 j8
  subst j6
  refine j4<|Aw<|rt hQ J J<|by cases d; exact ⟨dt,rfl,j7,j8.sel [0,1] J⟩
 obtain ⟨ad,p,ae,q,af,s,ag,t,ah,u,j9⟩:=HM (hS.sel [1,0,2] J)
 refine AQ B1 ((((([f]++p)++q)++s)++t)++u) hB j9 fun y _ al ac=>?_
 have ai:=KeepX.refl y ((((([f]++p)++q)++s)++t)++u)
 refine Ay 0 J o ai<|Ay 2 J o ai<|Ad 3 J o ai<|B0 J J<|Ad 4 J o ai<|C7 Io J<|Ay 7 J o ai<|bB d fun v ka d=>Ad 8 J o ai<|CK (e:=As) (i:=7) underlying36 J J J ac J ka ?_
 rintro qo _ rfl kb qp
 refine Ad 9 J o ai<|BR A9 J (fun w hw=>kb.keepS (fun b z=>(hw.blk b (((ac.get (i:=7) J).2.1 b z).2) (fun hb=>(AV.1 hb).elim (fun hb=>(AV.1 hb).elim (fun hb=>(AV.1 hb).elim (fun hb=>(AV.1 hb).elim (fun hb=>(AV.1 hb).elim (ac.disj (i:=7) (j:=0) J J J b z) (ac.disj (i:=7) (j:=1) J J J b z)) (ac.disj (i:=7) (j:=2) J J J b z)) (ac.disj (i:=7) (j:=3) J J J b z)) (ac.disj (i:=7) (j:=4) J J J b z)) (ac.disj (i:=7) (j:=5) J J J b z)))) (fun _ h=>h)) J<|Ay 10 J o ai<|bB d fun x kc d=>Ad 11 J o ai<|CK (e:=As) (i:=7) underlying36 J J J ac J kc ?_
 rintro qq _ rfl kd qr
 refine Ad 12 J o ai<|BR A9 J (fun w hw=>kd.keepS (fun b z=>(hw.blk b (((ac.get (i:=7) J).2.1 b z).2) (fun hb=>(AV.1 hb).elim (fun hb=>(AV.1 hb).elim (fun hb=>(AV.1 hb).elim (fun hb=>(AV.1 hb).elim (fun hb=>(AV.1 hb).elim (ac.disj (i:=7) (j:=0) J J J b z) (ac.disj (i:=7) (j:=1) J J J b z)) (ac.disj (i:=7) (j:=2) J J J b z)) (ac.disj (i:=7) (j:=3) J J J b z)) (ac.disj (i:=7) (j:=4) J J J b z)) (ac.disj (i:=7) (j:=5) J J J b z)))) (fun _ h=>h)) J<|Ad 13 J o ai<|IU (zs:=[iv 0,iv 0]) (out:=[iv v,iv x]) (vs:=[iv v,iv x]) (css:=[[iv v],[iv x]]) Bt MQ J J J J J<|CA (is:=[1,5,14]) (by kernel_rfl) J<|Bj.2 ⟨⟨_,rfl,?_⟩,Bj.2 ⟨⟨_,rfl,?_⟩,Bj.2 ⟨⟨_,rfl,?_⟩,fun _ h=>by cases h⟩⟩⟩
 refine AZ (vs:=[]) (l:=[]) CR underlying26 J J J J J J (Bk y) (Sep.nil _ _) fun qs ke du bw _ gb=>?_
 have bf:=tm al bw
 have bg:=ac.join bw gb al.size
 have ao:∀ b ∈ ke,y.heap.size≤b:=fun b hb=>Az (Nat.le_refl y.heap.size) ((gb.1 _ (List.mem_cons_self ..)).2.1 b hb).1
 have bh:=ai.ext bw
 have bx:=Az (Nat.le_refl y.heap.size) bw.size
 refine Ai<|Ar bh<|CA (is:=[5,14]) (by kernel_rfl) J<|Bj.2 ⟨⟨_,rfl,?_⟩,Bj.2 ⟨⟨_,rfl,?_⟩,fun _ h=>by cases h⟩⟩
 refine AU 1 Cs J bg J J ?_
 refine Ai<|Ar bh<|CA (is:=[6,14]) (by kernel_rfl) J<|Bj.2 ⟨⟨_,rfl,?_⟩,Bj.2 ⟨⟨_,rfl,?_⟩,fun _ h=>by cases h⟩⟩
 refine bB d fun qt kf d=>?_
 refine AE (i:=0) (S:=(·<du.heap.size)) CR underlying26 J J J bf bg J (bg.own_ro (i:=2) J) kf fun qu kg kh bz gc ki=>?_
 have gd:=bh.wr' bz.1 bz.2.1 (fun b hlt hb=>absurd hlt (AM.2 (ao b hb)))
 have ge:∀ b ∈ kg,y.heap.size≤b:=fun b hb=>(bz.2.2 b hb).elim (ao b) fun h=>Az bx h
 have kj:=Az bx bz.1
 refine Ai<|Ar gd<|A1 14 J<|AZ (vs:=[.agg #[iv v,iv x]]) (l:=[(v,x)]) CR underlying26 J J J J J J (Bk kh) (Sep.nil _ _) fun dv dw kk b1 _ kl=>?_
 have km:=tm gc b1
 have gf:=ki.join b1 kl gc.size
 have gg:=gd.ext b1
 have gh:=Az kj b1.size
 refine Ai<|Ar gg<|A1 15 J<|bB d fun dx kn d=>AE (i:=1) (S:=(·<kk.heap.size)) CR underlying26 J J J km gf J (gf.own_ro (i:=0) J) kn fun dy b2 ko b3 gi dz=>?_
 have gj:=gg.wr' b3.1 b3.2.1 (fun b hlt hb=>absurd hlt (AM.2 (ge b hb)))
 have gk:∀ b ∈ b2,y.heap.size≤b:=fun b hb=>(b3.2.2 b hb).elim (ge b) fun h=>Az gh h
 have kp:=Az gh b3.1
 refine Ai<|Ar gj<|A1 16 J<|bB d fun ap kq d=>A7 J call111 (Ej ko dx dy b2 (dz.sel [1] J).base0 _ kq) J ?_
 rintro _ d0 ⟨bi,aq,rfl,kr,b4⟩
 refine ⟨_,rfl,?_⟩
 have gl:=dz.takeB [1] J (M:=[Ab At b2 dy dx]) J gi kr b4
 have ks:Sp (wE g) d0 [Ab At aq bi ap.1,Ab At dw dv [(v,x)],Av f 76 [ad,ae,iv c.2.2.1,af,ag,ah],Ab At p ad c.1,Ab At q ae c.2.1,Ab BN s af c.2.2.2.1,Ab A4 t ag c.2.2.2.2.1,Ab Cg u ah c.2.2.2.2.2,A5 g (AP [A6 AX 76 aa f c,Ab As n m k]),Ab As n m k]:=dz.take [1] [0,2,3,4,5,6,7,8,9] J (M:=[Ab At b2 dy dx]) J b4 gi.size
 have kt:∀ b ∈ aq,y.heap.size≤b:=fun b hb=>(LX b4 (i:=0) J b hb).elim ((Cc (gk) Dh) b) fun h=>Az kp h
 have b5:=gj.tk b4 (Cc (fun b hb hlt=>absurd hlt (AM.2 (gk b hb))) Dh)
 refine Ai<|Ar b5<|Ad 17 J o b5<|Ba J J J<|Ad 18 J o b5<|Ba J J J<|A1 19 J ?_
 have d1:Sp (wE g) d0 [A6 AX 76 ([p,q,s,t,u].flatten) f c,Ab At aq bi ap.1,Ab At dw dv [(v,x)],A5 g (AP [A6 AX 76 aa f c,Ab As n m k]),Ab As n m k]:=DF (ks.sel [2,3,4,5,6,7,0,1,8,9] J)
 refine bB d fun d2 ku d=>A7 J call110 (CE d0 c f ([p,q,s,t,u].flatten) ap.1 bi aq ap.2 (d1.sel [0,1] J).base0 _ ku) J ?_
 rintro _ kv ⟨gm,rfl,kw,d3⟩
 refine ⟨_,rfl,?_⟩
 have kx:=d1.takeB [0,1] J (M:=[A6 AX 76 ([p,q,s,t,u].flatten) f c,Ab At aq bi ap.1]) J gl kw d3
 have ky:Sp (wE g) kv [A6 AX 76 gm f d2.2,Ab At dw dv [(v,x)],A5 g (AP [A6 AX 76 aa f c,Ab As n m k]),Ab As n m k]:=d1.take [0,1] [2,3,4] J (M:=[A6 AX 76 ([p,q,s,t,u].flatten) f c,Ab At aq bi ap.1]) J d3 gl.size
 have gn:=b5.tk d3 (Cc (Rf (fun b hb hlt=>(fun _ _ h=>Ax _ (Ax _ (Ax _ (Ax _ (Ax _ (h)))))) b hlt hb) (Bv (fun b hb hlt=>(fun _ _ h=>Ax _ (Ax _ (Ax _ (Ax _ (Bm _ h))))) b hlt hb) (Bv (fun b hb hlt=>(fun _ _ h=>Ax _ (Ax _ (Ax _ (Bm _ h)))) b hlt hb) (Bv (fun b hb hlt=>(fun _ _ h=>Ax _ (Ax _ (Bm _ h))) b hlt hb) (Bv (fun b hb hlt=>(fun _ _ h=>Ax _ (Bm _ h)) b hlt hb) (Bv (fun b hb hlt=>(fun _ _ h=>Bm _ h) b hlt hb) J3)))))) (Cc (fun b hb hlt=>absurd hlt (AM.2 (kt b hb))) Dh))
 refine Ai<|Ar gn<|Ad 20 J o gn<|AD J J<|Bc ?_
 exact jx (ak (d2.2) (d2.1) gm _ d kx (ky.sel [2,0] J)) J
 refine AZ (vs:=[.agg #[iv v,iv x]]) (l:=[(v,x)]) CR underlying26 J J J J J J (Bk du) (Sep.nil _ _) fun d4 d5 kz b6 _ k0=>?_
 have k1:=tm bf b6
 have go:=bg.join b6 k0 bf.size
 have gp:=bh.ext b6
 have gq:=Az bx b6.size
 refine Ai<|Ar gp<|A1 6 J<|bB d fun qv k2 d=>AE (i:=1) (S:=(·<kz.heap.size)) CR underlying26 J J J k1 go J (go.own_ro (i:=3) J) k2 fun qw k3 k4 b7 k5 gr=>?_
 have gs:=gp.wr' b7.1 b7.2.1 (fun b hlt hb=>absurd hlt (AM.2 (ao b hb)))
 have gt:∀ b ∈ k3,y.heap.size≤b:=fun b hb=>(b7.2.2 b hb).elim (ao b) fun h=>Az gq h
 have gu:=Az gq b7.1
 refine Ai<|Ar gs<|A1 15 J<|bB d fun d6 k6 d=>AE (i:=1) (S:=(·<k4.heap.size)) CR underlying26 J J J k5 gr J (gr.own_ro (i:=0) J) k6 fun d7 b8 k7 b9 gv d8=>?_
 have gw:=gs.wr' b9.1 b9.2.1 (fun b hlt hb=>absurd hlt (AM.2 (gt b hb)))
 have gx:∀ b ∈ b8,y.heap.size≤b:=fun b hb=>(b9.2.2 b hb).elim (gt b) fun h=>Az gu h
 have k8:=Az gu b9.1
 refine Ai<|Ar gw<|A1 16 J<|bB d fun ar k9 d=>A7 J call111 (Ej k7 d6 d7 b8 (d8.sel [1] J).base0 _ k9) J ?_
 rintro _ d9 ⟨bj,au,rfl,la,ca⟩
 refine ⟨_,rfl,?_⟩
 have gy:=d8.takeB [1] J (M:=[Ab At b8 d7 d6]) J gv la ca
 have lb:Sp (wE g) d9 [Ab At au bj ar.1,Ab At d5 d4 [(v,x)],Av f 76 [ad,ae,iv c.2.2.1,af,ag,ah],Ab At p ad c.1,Ab At q ae c.2.1,Ab BN s af c.2.2.2.1,Ab A4 t ag c.2.2.2.2.1,Ab Cg u ah c.2.2.2.2.2,A5 g (AP [A6 AX 76 aa f c,Ab As n m k]),Ab As n m k]:=d8.take [1] [0,2,3,4,5,6,7,8,9] J (M:=[Ab At b8 d7 d6]) J ca gv.size
 have lc:∀ b ∈ au,y.heap.size≤b:=fun b hb=>(LX ca (i:=0) J b hb).elim ((Cc (gx) Dh) b) fun h=>Az k8 h
 have cb:=gw.tk ca (Cc (fun b hb hlt=>absurd hlt (AM.2 (gx b hb))) Dh)
 refine Ai<|Ar cb<|Ad 17 J o cb<|Ba J J J<|Ad 18 J o cb<|Ba J J J<|A1 19 J ?_
 have ea:Sp (wE g) d9 [A6 AX 76 ([p,q,s,t,u].flatten) f c,Ab At au bj ar.1,Ab At d5 d4 [(v,x)],A5 g (AP [A6 AX 76 aa f c,Ab As n m k]),Ab As n m k]:=DF (lb.sel [2,3,4,5,6,7,0,1,8,9] J)
 refine bB d fun eb ld d=>A7 J call110 (CE d9 c f ([p,q,s,t,u].flatten) ar.1 bj au ar.2 (ea.sel [0,1] J).base0 _ ld) J ?_
 rintro _ le ⟨gz,rfl,lf,ec⟩
 refine ⟨_,rfl,?_⟩
 have lg:=ea.takeB [0,1] J (M:=[A6 AX 76 ([p,q,s,t,u].flatten) f c,Ab At au bj ar.1]) J gy lf ec
 have lh:Sp (wE g) le [A6 AX 76 gz f eb.2,Ab At d5 d4 [(v,x)],A5 g (AP [A6 AX 76 aa f c,Ab As n m k]),Ab As n m k]:=ea.take [0,1] [2,3,4] J (M:=[A6 AX 76 ([p,q,s,t,u].flatten) f c,Ab At au bj ar.1]) J ec gy.size
 have g0:=cb.tk ec (Cc (Rf (fun b hb hlt=>(fun _ _ h=>Ax _ (Ax _ (Ax _ (Ax _ (Ax _ (h)))))) b hlt hb) (Bv (fun b hb hlt=>(fun _ _ h=>Ax _ (Ax _ (Ax _ (Ax _ (Bm _ h))))) b hlt hb) (Bv (fun b hb hlt=>(fun _ _ h=>Ax _ (Ax _ (Ax _ (Bm _ h)))) b hlt hb) (Bv (fun b hb hlt=>(fun _ _ h=>Ax _ (Ax _ (Bm _ h))) b hlt hb) (Bv (fun b hb hlt=>(fun _ _ h=>Ax _ (Bm _ h)) b hlt hb) (Bv (fun b hb hlt=>(fun _ _ h=>Bm _ h) b hlt hb) J3)))))) (Cc (fun b hb hlt=>absurd hlt (AM.2 (lc b hb))) Dh))
 refine Ai<|Ar g0<|Ad 20 J o g0<|AD J J<|Bc ?_
 exact jx (ak (eb.2) (eb.1) gz _ d lg (lh.sel [2,0] J)) J
 refine AZ (vs:=[.agg #[iv v,iv x]]) (l:=[(v,x)]) CR underlying26 J J J J J J (Bk du) (Sep.nil _ _) fun ed ee li cc _ lj=>?_
 have lk:=tm bf cc
 have ef:=bg.join cc lj bf.size
 have eg:=bh.ext cc
 have g1:=Az bx cc.size
 refine Ai<|Ar eg<|A1 5 J<|AU 2 Cs J ef J J<|Ai<|Ar eg<|A1 6 J<|bB d fun qx ll d=>AE (i:=1) (S:=(·<li.heap.size)) CR underlying26 J J J lk ef J (ef.own_ro (i:=3) J) ll fun qy lm ln cd lo g2=>?_
 have g3:=eg.wr' cd.1 cd.2.1 (fun b hlt hb=>absurd hlt (AM.2 (ao b hb)))
 have g4:∀ b ∈ lm,y.heap.size≤b:=fun b hb=>(cd.2.2 b hb).elim (ao b) fun h=>Az g1 h
 have g5:=Az g1 cd.1
 refine Ai<|Ar g3<|A1 15 J<|bB d fun eh lp d=>AE (i:=1) (S:=(·<ln.heap.size)) CR underlying26 J J J lo g2 J (g2.own_ro (i:=0) J) lp fun ei ce lq cf g6 ej=>?_
 have g7:=g3.wr' cf.1 cf.2.1 (fun b hlt hb=>absurd hlt (AM.2 (g4 b hb)))
 have g8:∀ b ∈ ce,y.heap.size≤b:=fun b hb=>(cf.2.2 b hb).elim (g4 b) fun h=>Az g5 h
 have lr:=Az g5 cf.1
 refine Ai<|Ar g7<|A1 16 J<|bB d fun av ls d=>A7 J call111 (Ej lq eh ei ce (ej.sel [1] J).base0 _ ls) J ?_
 rintro _ ek ⟨bk,aw,rfl,lt,cg⟩
 refine ⟨_,rfl,?_⟩
 have g9:=ej.takeB [1] J (M:=[Ab At ce ei eh]) J g6 lt cg
 have lu:Sp (wE g) ek [Ab At aw bk av.1,Ab At ee ed [(v,x)],Av f 76 [ad,ae,iv c.2.2.1,af,ag,ah],Ab At p ad c.1,Ab At q ae c.2.1,Ab BN s af c.2.2.2.1,Ab A4 t ag c.2.2.2.2.1,Ab Cg u ah c.2.2.2.2.2,A5 g (AP [A6 AX 76 aa f c,Ab As n m k]),Ab As n m k]:=ej.take [1] [0,2,3,4,5,6,7,8,9] J (M:=[Ab At ce ei eh]) J cg g6.size
 have lv:∀ b ∈ aw,y.heap.size≤b:=fun b hb=>(LX cg (i:=0) J b hb).elim ((Cc (g8) Dh) b) fun h=>Az lr h
 have ch:=g7.tk cg (Cc (fun b hb hlt=>absurd hlt (AM.2 (g8 b hb))) Dh)
 refine Ai<|Ar ch<|Ad 17 J o ch<|Ba J J J<|Ad 18 J o ch<|Ba J J J<|A1 19 J ?_
 have el:Sp (wE g) ek [A6 AX 76 ([p,q,s,t,u].flatten) f c,Ab At aw bk av.1,Ab At ee ed [(v,x)],A5 g (AP [A6 AX 76 aa f c,Ab As n m k]),Ab As n m k]:=DF (lu.sel [2,3,4,5,6,7,0,1,8,9] J)
 refine bB d fun em lw d=>A7 J call110 (CE ek c f ([p,q,s,t,u].flatten) av.1 bk aw av.2 (el.sel [0,1] J).base0 _ lw) J ?_
 rintro _ lx ⟨ha,rfl,ly,en⟩
 refine ⟨_,rfl,?_⟩
 have lz:=el.takeB [0,1] J (M:=[A6 AX 76 ([p,q,s,t,u].flatten) f c,Ab At aw bk av.1]) J g9 ly en
 have l0:Sp (wE g) lx [A6 AX 76 ha f em.2,Ab At ee ed [(v,x)],A5 g (AP [A6 AX 76 aa f c,Ab As n m k]),Ab As n m k]:=el.take [0,1] [2,3,4] J (M:=[A6 AX 76 ([p,q,s,t,u].flatten) f c,Ab At aw bk av.1]) J en g9.size
 have hc:=ch.tk en (Cc (Rf (fun b hb hlt=>(fun _ _ h=>Ax _ (Ax _ (Ax _ (Ax _ (Ax _ (h)))))) b hlt hb) (Bv (fun b hb hlt=>(fun _ _ h=>Ax _ (Ax _ (Ax _ (Ax _ (Bm _ h))))) b hlt hb) (Bv (fun b hb hlt=>(fun _ _ h=>Ax _ (Ax _ (Ax _ (Bm _ h)))) b hlt hb) (Bv (fun b hb hlt=>(fun _ _ h=>Ax _ (Ax _ (Bm _ h))) b hlt hb) (Bv (fun b hb hlt=>(fun _ _ h=>Ax _ (Bm _ h)) b hlt hb) (Bv (fun b hb hlt=>(fun _ _ h=>Bm _ h) b hlt hb) J3)))))) (Cc (fun b hb hlt=>absurd hlt (AM.2 (lv b hb))) Dh))
 refine Ai<|Ar hc<|Ad 20 J o hc<|AD J J<|Bc ?_
 exact jx (ak (em.2) (em.1) ha _ d lz (l0.sel [2,0] J)) J
 refine AU 0 Cs J ac J J ?_
 refine Ai<|Ar ai<|CA (is:=[1,14]) (by kernel_rfl) J<|Bj.2 ⟨⟨_,rfl,?_⟩,Bj.2 ⟨⟨_,rfl,?_⟩,fun _ h=>by cases h⟩⟩
 refine AZ (vs:=[]) (l:=[]) CR underlying26 J J J J J J (Bk y) (Sep.nil _ _) fun qz l1 hd ci _ he=>?_
 have eo:=tm al ci
 have ep:=ac.join ci he al.size
 have cj:∀ b ∈ l1,y.heap.size≤b:=fun b hb=>Az (Nat.le_refl y.heap.size) ((he.1 _ (List.mem_cons_self ..)).2.1 b hb).1
 have eq:=ai.ext ci
 have er:=Az (Nat.le_refl y.heap.size) ci.size
 refine Ai<|Ar eq<|CA (is:=[6,14]) (by kernel_rfl) J<|Bj.2 ⟨⟨_,rfl,?_⟩,Bj.2 ⟨⟨_,rfl,?_⟩,fun _ h=>by cases h⟩⟩
 refine bB d fun q0 l2 d=>?_
 refine AE (i:=0) (S:=(·<hd.heap.size)) CR underlying26 J J J eo ep J (ep.own_ro (i:=2) J) l2 fun q1 l3 l4 ck hf l5=>?_
 have hg:=eq.wr' ck.1 ck.2.1 (fun b hlt hb=>absurd hlt (AM.2 (cj b hb)))
 have hh:∀ b ∈ l3,y.heap.size≤b:=fun b hb=>(ck.2.2 b hb).elim (cj b) fun h=>Az er h
 have l6:=Az er ck.1
 refine Ai<|Ar hg<|A1 14 J<|AZ (vs:=[.agg #[iv v,iv x]]) (l:=[(v,x)]) CR underlying26 J J J J J J (Bk l4) (Sep.nil _ _) fun es et l7 cl _ l8=>?_
 have l9:=tm hf cl
 have hi:=l5.join cl l8 hf.size
 have hj:=hg.ext cl
 have hk:=Az l6 cl.size
 refine Ai<|Ar hj<|A1 15 J<|bB d fun eu ma d=>AE (i:=1) (S:=(·<l7.heap.size)) CR underlying26 J J J l9 hi J (hi.own_ro (i:=0) J) ma fun ev cm mb cn hl ew=>?_
 have hm:=hj.wr' cn.1 cn.2.1 (fun b hlt hb=>absurd hlt (AM.2 (hh b hb)))
 have hn:∀ b ∈ cm,y.heap.size≤b:=fun b hb=>(cn.2.2 b hb).elim (hh b) fun h=>Az hk h
 have mc:=Az hk cn.1
 refine Ai<|Ar hm<|A1 16 J<|bB d fun ax md d=>A7 J call111 (Ej mb eu ev cm (ew.sel [1] J).base0 _ md) J ?_
 rintro _ ex ⟨bl,ay,rfl,me,co⟩
 refine ⟨_,rfl,?_⟩
 have ho:=ew.takeB [1] J (M:=[Ab At cm ev eu]) J hl me co
 have mf:Sp (wE g) ex [Ab At ay bl ax.1,Ab At et es [(v,x)],Av f 76 [ad,ae,iv c.2.2.1,af,ag,ah],Ab At p ad c.1,Ab At q ae c.2.1,Ab BN s af c.2.2.2.1,Ab A4 t ag c.2.2.2.2.1,Ab Cg u ah c.2.2.2.2.2,A5 g (AP [A6 AX 76 aa f c,Ab As n m k]),Ab As n m k]:=ew.take [1] [0,2,3,4,5,6,7,8,9] J (M:=[Ab At cm ev eu]) J co hl.size
 have mg:∀ b ∈ ay,y.heap.size≤b:=fun b hb=>(LX co (i:=0) J b hb).elim ((Cc (hn) Dh) b) fun h=>Az mc h
 have cp:=hm.tk co (Cc (fun b hb hlt=>absurd hlt (AM.2 (hn b hb))) Dh)
 refine Ai<|Ar cp<|Ad 17 J o cp<|Ba J J J<|Ad 18 J o cp<|Ba J J J<|A1 19 J ?_
 have ey:Sp (wE g) ex [A6 AX 76 ([p,q,s,t,u].flatten) f c,Ab At ay bl ax.1,Ab At et es [(v,x)],A5 g (AP [A6 AX 76 aa f c,Ab As n m k]),Ab As n m k]:=DF (mf.sel [2,3,4,5,6,7,0,1,8,9] J)
 refine bB d fun ez mh d=>A7 J call110 (CE ex c f ([p,q,s,t,u].flatten) ax.1 bl ay ax.2 (ey.sel [0,1] J).base0 _ mh) J ?_
 rintro _ mi ⟨hp,rfl,mj,e0⟩
 refine ⟨_,rfl,?_⟩
 have mk:=ey.takeB [0,1] J (M:=[A6 AX 76 ([p,q,s,t,u].flatten) f c,Ab At ay bl ax.1]) J ho mj e0
 have ml:Sp (wE g) mi [A6 AX 76 hp f ez.2,Ab At et es [(v,x)],A5 g (AP [A6 AX 76 aa f c,Ab As n m k]),Ab As n m k]:=ey.take [0,1] [2,3,4] J (M:=[A6 AX 76 ([p,q,s,t,u].flatten) f c,Ab At ay bl ax.1]) J e0 ho.size
 have hq:=cp.tk e0 (Cc (Rf (fun b hb hlt=>(fun _ _ h=>Ax _ (Ax _ (Ax _ (Ax _ (Ax _ (h)))))) b hlt hb) (Bv (fun b hb hlt=>(fun _ _ h=>Ax _ (Ax _ (Ax _ (Ax _ (Bm _ h))))) b hlt hb) (Bv (fun b hb hlt=>(fun _ _ h=>Ax _ (Ax _ (Ax _ (Bm _ h)))) b hlt hb) (Bv (fun b hb hlt=>(fun _ _ h=>Ax _ (Ax _ (Bm _ h))) b hlt hb) (Bv (fun b hb hlt=>(fun _ _ h=>Ax _ (Bm _ h)) b hlt hb) (Bv (fun b hb hlt=>(fun _ _ h=>Bm _ h) b hlt hb) J3)))))) (Cc (fun b hb hlt=>absurd hlt (AM.2 (mg b hb))) Dh))
 refine Ai<|Ar hq<|Ad 20 J o hq<|AD J J<|Bc ?_
 exact jx (ak (ez.2) (ez.1) hp _ d mk (ml.sel [2,0] J)) J
 refine AZ (vs:=[.agg #[iv v,iv x]]) (l:=[(v,x)]) CR underlying26 J J J J J J (Bk hd) (Sep.nil _ _) fun e1 e2 mm cq _ mn=>?_
 have mo:=tm eo cq
 have hr:=ep.join cq mn eo.size
 have hs:=eq.ext cq
 have ht:=Az er cq.size
 refine Ai<|Ar hs<|A1 6 J<|bB d fun q2 mp d=>AE (i:=1) (S:=(·<mm.heap.size)) CR underlying26 J J J mo hr J (hr.own_ro (i:=3) J) mp fun q3 mq mr cr ms hu=>?_
 have hv:=hs.wr' cr.1 cr.2.1 (fun b hlt hb=>absurd hlt (AM.2 (cj b hb)))
 have hx:∀ b ∈ mq,y.heap.size≤b:=fun b hb=>(cr.2.2 b hb).elim (cj b) fun h=>Az ht h
 have hy:=Az ht cr.1
 refine Ai<|Ar hv<|A1 15 J<|bB d fun e3 mt d=>AE (i:=1) (S:=(·<mr.heap.size)) CR underlying26 J J J ms hu J (hu.own_ro (i:=0) J) mt fun e4 cs mu ct hz e5=>?_
 have h1:=hv.wr' ct.1 ct.2.1 (fun b hlt hb=>absurd hlt (AM.2 (hx b hb)))
 have h2:∀ b ∈ cs,y.heap.size≤b:=fun b hb=>(ct.2.2 b hb).elim (hx b) fun h=>Az hy h
 have mv:=Az hy ct.1
 refine Ai<|Ar h1<|A1 16 J<|bB d fun az mw d=>A7 J call111 (Ej mu e3 e4 cs (e5.sel [1] J).base0 _ mw) J ?_
 rintro _ e6 ⟨bm,a0,rfl,mx,cu⟩
 refine ⟨_,rfl,?_⟩
 have h3:=e5.takeB [1] J (M:=[Ab At cs e4 e3]) J hz mx cu
 have my:Sp (wE g) e6 [Ab At a0 bm az.1,Ab At e2 e1 [(v,x)],Av f 76 [ad,ae,iv c.2.2.1,af,ag,ah],Ab At p ad c.1,Ab At q ae c.2.1,Ab BN s af c.2.2.2.1,Ab A4 t ag c.2.2.2.2.1,Ab Cg u ah c.2.2.2.2.2,A5 g (AP [A6 AX 76 aa f c,Ab As n m k]),Ab As n m k]:=e5.take [1] [0,2,3,4,5,6,7,8,9] J (M:=[Ab At cs e4 e3]) J cu hz.size
 have mz:∀ b ∈ a0,y.heap.size≤b:=fun b hb=>(LX cu (i:=0) J b hb).elim ((Cc (h2) Dh) b) fun h=>Az mv h
 have cv:=h1.tk cu (Cc (fun b hb hlt=>absurd hlt (AM.2 (h2 b hb))) Dh)
 refine Ai<|Ar cv<|Ad 17 J o cv<|Ba J J J<|Ad 18 J o cv<|Ba J J J<|A1 19 J ?_
 have e7:Sp (wE g) e6 [A6 AX 76 ([p,q,s,t,u].flatten) f c,Ab At a0 bm az.1,Ab At e2 e1 [(v,x)],A5 g (AP [A6 AX 76 aa f c,Ab As n m k]),Ab As n m k]:=DF (my.sel [2,3,4,5,6,7,0,1,8,9] J)
 refine bB d fun e8 m0 d=>A7 J call110 (CE e6 c f ([p,q,s,t,u].flatten) az.1 bm a0 az.2 (e7.sel [0,1] J).base0 _ m0) J ?_
 rintro _ m1 ⟨h4,rfl,m2,e9⟩
 refine ⟨_,rfl,?_⟩
 have m3:=e7.takeB [0,1] J (M:=[A6 AX 76 ([p,q,s,t,u].flatten) f c,Ab At a0 bm az.1]) J h3 m2 e9
 have m4:Sp (wE g) m1 [A6 AX 76 h4 f e8.2,Ab At e2 e1 [(v,x)],A5 g (AP [A6 AX 76 aa f c,Ab As n m k]),Ab As n m k]:=e7.take [0,1] [2,3,4] J (M:=[A6 AX 76 ([p,q,s,t,u].flatten) f c,Ab At a0 bm az.1]) J e9 h3.size
 have h5:=cv.tk e9 (Cc (Rf (fun b hb hlt=>(fun _ _ h=>Ax _ (Ax _ (Ax _ (Ax _ (Ax _ (h)))))) b hlt hb) (Bv (fun b hb hlt=>(fun _ _ h=>Ax _ (Ax _ (Ax _ (Ax _ (Bm _ h))))) b hlt hb) (Bv (fun b hb hlt=>(fun _ _ h=>Ax _ (Ax _ (Ax _ (Bm _ h)))) b hlt hb) (Bv (fun b hb hlt=>(fun _ _ h=>Ax _ (Ax _ (Bm _ h))) b hlt hb) (Bv (fun b hb hlt=>(fun _ _ h=>Ax _ (Bm _ h)) b hlt hb) (Bv (fun b hb hlt=>(fun _ _ h=>Bm _ h) b hlt hb) J3)))))) (Cc (fun b hb hlt=>absurd hlt (AM.2 (mz b hb))) Dh))
 refine Ai<|Ar h5<|Ad 20 J o h5<|AD J J<|Bc ?_
 exact jx (ak (e8.2) (e8.1) h4 _ d m3 (m4.sel [2,0] J)) J
 refine AZ (vs:=[.agg #[iv v,iv x]]) (l:=[(v,x)]) CR underlying26 J J J J J J (Bk y) (Sep.nil _ _) fun fa fb m5 cw _ m6=>?_
 have h6:=tm al cw
 have m7:=ac.join cw m6 al.size
 have h7:=ai.ext cw
 have h8:=Az (Nat.le_refl y.heap.size) cw.size
 refine Ai<|Ar h7<|A1 1 J<|AZ (vs:=[]) (l:=[]) CR underlying26 J J J J J J (Bk m5) (Sep.nil _ _) fun q4 m8 m9 cx _ h9=>?_
 have na:=tm h6 cx
 have ia:=m7.join cx h9 h6.size
 have ib:∀ b ∈ m8,y.heap.size≤b:=fun b hb=>Az h8 ((h9.1 _ (List.mem_cons_self ..)).2.1 b hb).1
 have ic:=h7.ext cx
 have ie:=Az h8 cx.size
 refine Ai<|Ar ic<|A1 6 J<|bB d fun q5 nb d=>AE (i:=0) (S:=(·<m9.heap.size)) CR underlying26 J J J na ia J (ia.own_ro (i:=3) J) nb fun q6 nc nd cy ne ig=>?_
 have ih:=ic.wr' cy.1 cy.2.1 (fun b hlt hb=>absurd hlt (AM.2 (ib b hb)))
 have ii:∀ b ∈ nc,y.heap.size≤b:=fun b hb=>(cy.2.2 b hb).elim (ib b) fun h=>Az ie h
 have ij:=Az ie cy.1
 refine Ai<|Ar ih<|A1 15 J<|bB d fun fc nf d=>AE (i:=0) (S:=(·<nd.heap.size)) CR underlying26 J J J ne ig J (ig.own_ro (i:=1) J) nf fun fd cz ng c0 ik fe=>?_
 have il:=ih.wr' c0.1 c0.2.1 (fun b hlt hb=>absurd hlt (AM.2 (ii b hb)))
 have im:∀ b ∈ cz,y.heap.size≤b:=fun b hb=>(c0.2.2 b hb).elim (ii b) fun h=>Az ij h
 have nh:=Az ij c0.1
 refine Ai<|Ar il<|A1 16 J<|bB d fun a1 ni d=>A7 J call111 (Ej ng fc fd cz (fe.sel [0] J).base0 _ ni) J ?_
 rintro _ ff ⟨bn,a2,rfl,nj,c1⟩
 refine ⟨_,rfl,?_⟩
 have io:=fe.takeB [0] J (M:=[Ab At cz fd fc]) J ik nj c1
 have nk:Sp (wE g) ff [Ab At a2 bn a1.1,Ab At fb fa [(v,x)],Av f 76 [ad,ae,iv c.2.2.1,af,ag,ah],Ab At p ad c.1,Ab At q ae c.2.1,Ab BN s af c.2.2.2.1,Ab A4 t ag c.2.2.2.2.1,Ab Cg u ah c.2.2.2.2.2,A5 g (AP [A6 AX 76 aa f c,Ab As n m k]),Ab As n m k]:=fe.take [0] [1,2,3,4,5,6,7,8,9] J (M:=[Ab At cz fd fc]) J c1 ik.size
 have nl:∀ b ∈ a2,y.heap.size≤b:=fun b hb=>(LX c1 (i:=0) J b hb).elim ((Cc (im) Dh) b) fun h=>Az nh h
 have c2:=il.tk c1 (Cc (fun b hb hlt=>absurd hlt (AM.2 (im b hb))) Dh)
 refine Ai<|Ar c2<|Ad 17 J o c2<|Ba J J J<|Ad 18 J o c2<|Ba J J J<|A1 19 J ?_
 have fg:Sp (wE g) ff [A6 AX 76 ([p,q,s,t,u].flatten) f c,Ab At a2 bn a1.1,Ab At fb fa [(v,x)],A5 g (AP [A6 AX 76 aa f c,Ab As n m k]),Ab As n m k]:=DF (nk.sel [2,3,4,5,6,7,0,1,8,9] J)
 refine bB d fun fh nm d=>A7 J call110 (CE ff c f ([p,q,s,t,u].flatten) a1.1 bn a2 a1.2 (fg.sel [0,1] J).base0 _ nm) J ?_
 rintro _ nn ⟨ip,rfl,no,fi⟩
 refine ⟨_,rfl,?_⟩
 have np:=fg.takeB [0,1] J (M:=[A6 AX 76 ([p,q,s,t,u].flatten) f c,Ab At a2 bn a1.1]) J io no fi
 have nq:Sp (wE g) nn [A6 AX 76 ip f fh.2,Ab At fb fa [(v,x)],A5 g (AP [A6 AX 76 aa f c,Ab As n m k]),Ab As n m k]:=fg.take [0,1] [2,3,4] J (M:=[A6 AX 76 ([p,q,s,t,u].flatten) f c,Ab At a2 bn a1.1]) J fi io.size
 have iq:=c2.tk fi (Cc (Rf (fun b hb hlt=>(fun _ _ h=>Ax _ (Ax _ (Ax _ (Ax _ (Ax _ (h)))))) b hlt hb) (Bv (fun b hb hlt=>(fun _ _ h=>Ax _ (Ax _ (Ax _ (Ax _ (Bm _ h))))) b hlt hb) (Bv (fun b hb hlt=>(fun _ _ h=>Ax _ (Ax _ (Ax _ (Bm _ h)))) b hlt hb) (Bv (fun b hb hlt=>(fun _ _ h=>Ax _ (Ax _ (Bm _ h))) b hlt hb) (Bv (fun b hb hlt=>(fun _ _ h=>Ax _ (Bm _ h)) b hlt hb) (Bv (fun b hb hlt=>(fun _ _ h=>Bm _ h) b hlt hb) J3)))))) (Cc (fun b hb hlt=>absurd hlt (AM.2 (nl b hb))) Dh))
 refine Ai<|Ar iq<|Ad 20 J o iq<|AD J J<|Bc ?_
 exact jx (ak (fh.2) (fh.1) ip _ d np (nq.sel [2,0] J)) J
 refine AZ (vs:=[.agg #[iv v,iv x]]) (l:=[(v,x)]) CR underlying26 J J J J J J (Bk y) (Sep.nil _ _) fun a3 a4 ir c3 _ nr=>?_
 have c4:=tm al c3
 have fj:=ac.join c3 nr al.size
 have c5:=ai.ext c3
 have c6:=Az (Nat.le_refl y.heap.size) c3.size
 refine Ai<|Ar c5<|CA (is:=[1,5]) (by kernel_rfl) J<|Bj.2 ⟨⟨_,rfl,?_⟩,Bj.2 ⟨⟨_,rfl,?_⟩,fun _ h=>by cases h⟩⟩
 refine AZ (vs:=[]) (l:=[]) CR underlying26 J J J J J J (Bk ir) (Sep.nil _ _) fun q7 ns nt c7 _ it=>?_
 have nu:=tm c4 c7
 have fk:=fj.join c7 it c4.size
 have iu:∀ b ∈ ns,y.heap.size≤b:=fun b hb=>Az c6 ((it.1 _ (List.mem_cons_self ..)).2.1 b hb).1
 have fl:=c5.ext c7
 have iw:=Az c6 c7.size
 refine Ai<|Ar fl<|A1 5 J<|AU 2 Cs J fk J J<|Ai<|Ar fl<|A1 6 J<|bB d fun q8 nv d=>AE (i:=0) (S:=(·<nt.heap.size)) CR underlying26 J J J nu fk J (fk.own_ro (i:=3) J) nv fun q9 nw nx c8 ny ix=>?_
 have iy:=fl.wr' c8.1 c8.2.1 (fun b hlt hb=>absurd hlt (AM.2 (iu b hb)))
 have iz:∀ b ∈ nw,y.heap.size≤b:=fun b hb=>(c8.2.2 b hb).elim (iu b) fun h=>Az iw h
 have i0:=Az iw c8.1
 refine Ai<|Ar iy<|A1 15 J<|bB d fun fm nz d=>AE (i:=0) (S:=(·<nx.heap.size)) CR underlying26 J J J ny ix J (ix.own_ro (i:=1) J) nz fun fn c9 n0 da i1 fo=>?_
 have i2:=iy.wr' da.1 da.2.1 (fun b hlt hb=>absurd hlt (AM.2 (iz b hb)))
 have i3:∀ b ∈ c9,y.heap.size≤b:=fun b hb=>(da.2.2 b hb).elim (iz b) fun h=>Az i0 h
 have n1:=Az i0 da.1
 refine Ai<|Ar i2<|A1 16 J<|bB d fun a5 n2 d=>A7 J call111 (Ej n0 fm fn c9 (fo.sel [0] J).base0 _ n2) J ?_
 rintro _ fp ⟨bo,a6,rfl,n3,db⟩
 refine ⟨_,rfl,?_⟩
 have i4:=fo.takeB [0] J (M:=[Ab At c9 fn fm]) J i1 n3 db
 have n4:Sp (wE g) fp [Ab At a6 bo a5.1,Ab At a4 a3 [(v,x)],Av f 76 [ad,ae,iv c.2.2.1,af,ag,ah],Ab At p ad c.1,Ab At q ae c.2.1,Ab BN s af c.2.2.2.1,Ab A4 t ag c.2.2.2.2.1,Ab Cg u ah c.2.2.2.2.2,A5 g (AP [A6 AX 76 aa f c,Ab As n m k]),Ab As n m k]:=fo.take [0] [1,2,3,4,5,6,7,8,9] J (M:=[Ab At c9 fn fm]) J db i1.size
 have n5:∀ b ∈ a6,y.heap.size≤b:=fun b hb=>(LX db (i:=0) J b hb).elim ((Cc (i3) Dh) b) fun h=>Az n1 h
 have dc:=i2.tk db (Cc (fun b hb hlt=>absurd hlt (AM.2 (i3 b hb))) Dh)
 refine Ai<|Ar dc<|Ad 17 J o dc<|Ba J J J<|Ad 18 J o dc<|Ba J J J<|A1 19 J ?_
 have fq:Sp (wE g) fp [A6 AX 76 ([p,q,s,t,u].flatten) f c,Ab At a6 bo a5.1,Ab At a4 a3 [(v,x)],A5 g (AP [A6 AX 76 aa f c,Ab As n m k]),Ab As n m k]:=DF (n4.sel [2,3,4,5,6,7,0,1,8,9] J)
 refine bB d fun fr n6 d=>A7 J call110 (CE fp c f ([p,q,s,t,u].flatten) a5.1 bo a6 a5.2 (fq.sel [0,1] J).base0 _ n6) J ?_
 rintro _ n7 ⟨i5,rfl,n8,fs⟩
 refine ⟨_,rfl,?_⟩
 have n9:=fq.takeB [0,1] J (M:=[A6 AX 76 ([p,q,s,t,u].flatten) f c,Ab At a6 bo a5.1]) J i4 n8 fs
 have oa:Sp (wE g) n7 [A6 AX 76 i5 f fr.2,Ab At a4 a3 [(v,x)],A5 g (AP [A6 AX 76 aa f c,Ab As n m k]),Ab As n m k]:=fq.take [0,1] [2,3,4] J (M:=[A6 AX 76 ([p,q,s,t,u].flatten) f c,Ab At a6 bo a5.1]) J fs i4.size
 have i6:=dc.tk fs (Cc (Rf (fun b hb hlt=>(fun _ _ h=>Ax _ (Ax _ (Ax _ (Ax _ (Ax _ (h)))))) b hlt hb) (Bv (fun b hb hlt=>(fun _ _ h=>Ax _ (Ax _ (Ax _ (Ax _ (Bm _ h))))) b hlt hb) (Bv (fun b hb hlt=>(fun _ _ h=>Ax _ (Ax _ (Ax _ (Bm _ h)))) b hlt hb) (Bv (fun b hb hlt=>(fun _ _ h=>Ax _ (Ax _ (Bm _ h))) b hlt hb) (Bv (fun b hb hlt=>(fun _ _ h=>Ax _ (Bm _ h)) b hlt hb) (Bv (fun b hb hlt=>(fun _ _ h=>Bm _ h) b hlt hb) J3)))))) (Cc (fun b hb hlt=>absurd hlt (AM.2 (n5 b hb))) Dh))
 refine Ai<|Ar i6<|Ad 20 J o i6<|AD J J<|Bc ?_
 exact jx (ak (fr.2) (fr.1) i5 _ d n9 (oa.sel [2,0] J)) J
 refine AU 1 Cs J fj J J ?_
 refine Ai<|Ar c5<|A1 1 J<|AZ (vs:=[]) (l:=[]) CR underlying26 J J J J J J (Bk ir) (Sep.nil _ _) fun ra ob oc dd _ i7=>?_
 have od:=tm c4 dd
 have i8:=fj.join dd i7 c4.size
 have i9:∀ b ∈ ob,y.heap.size≤b:=fun b hb=>Az c6 ((i7.1 _ (List.mem_cons_self ..)).2.1 b hb).1
 have ja:=c5.ext dd
 have jb:=Az c6 dd.size
 refine Ai<|Ar ja<|A1 6 J<|bB d fun rb oe d=>AE (i:=0) (S:=(·<oc.heap.size)) CR underlying26 J J J od i8 J (i8.own_ro (i:=3) J) oe fun rc og oh de oi jc=>?_
 have jd:=ja.wr' de.1 de.2.1 (fun b hlt hb=>absurd hlt (AM.2 (i9 b hb)))
 have je:∀ b ∈ og,y.heap.size≤b:=fun b hb=>(de.2.2 b hb).elim (i9 b) fun h=>Az jb h
 have jf:=Az jb de.1
 refine Ai<|Ar jd<|A1 15 J<|bB d fun ft oj d=>AE (i:=0) (S:=(·<oh.heap.size)) CR underlying26 J J J oi jc J (jc.own_ro (i:=1) J) oj fun fu df ok dg jg fv=>?_
 have jh:=jd.wr' dg.1 dg.2.1 (fun b hlt hb=>absurd hlt (AM.2 (je b hb)))
 have ji:∀ b ∈ df,y.heap.size≤b:=fun b hb=>(dg.2.2 b hb).elim (je b) fun h=>Az jf h
 have ol:=Az jf dg.1
 refine Ai<|Ar jh<|A1 16 J<|bB d fun a7 om d=>A7 J call111 (Ej ok ft fu df (fv.sel [0] J).base0 _ om) J ?_
 rintro _ fw ⟨bp,a8,rfl,on,dh⟩
 refine ⟨_,rfl,?_⟩
 have jj:=fv.takeB [0] J (M:=[Ab At df fu ft]) J jg on dh
 have oo:Sp (wE g) fw [Ab At a8 bp a7.1,Ab At a4 a3 [(v,x)],Av f 76 [ad,ae,iv c.2.2.1,af,ag,ah],Ab At p ad c.1,Ab At q ae c.2.1,Ab BN s af c.2.2.2.1,Ab A4 t ag c.2.2.2.2.1,Ab Cg u ah c.2.2.2.2.2,A5 g (AP [A6 AX 76 aa f c,Ab As n m k]),Ab As n m k]:=fv.take [0] [1,2,3,4,5,6,7,8,9] J (M:=[Ab At df fu ft]) J dh jg.size
 have op:∀ b ∈ a8,y.heap.size≤b:=fun b hb=>(LX dh (i:=0) J b hb).elim ((Cc (ji) Dh) b) fun h=>Az ol h
 have di:=jh.tk dh (Cc (fun b hb hlt=>absurd hlt (AM.2 (ji b hb))) Dh)
 refine Ai<|Ar di<|Ad 17 J o di<|Ba J J J<|Ad 18 J o di<|Ba J J J<|A1 19 J ?_
 have fx:Sp (wE g) fw [A6 AX 76 ([p,q,s,t,u].flatten) f c,Ab At a8 bp a7.1,Ab At a4 a3 [(v,x)],A5 g (AP [A6 AX 76 aa f c,Ab As n m k]),Ab As n m k]:=DF (oo.sel [2,3,4,5,6,7,0,1,8,9] J)
 refine bB d fun fy oq d=>A7 J call110 (CE fw c f ([p,q,s,t,u].flatten) a7.1 bp a8 a7.2 (fx.sel [0,1] J).base0 _ oq) J ?_
 rintro _ os ⟨jk,rfl,ot,fz⟩
 refine ⟨_,rfl,?_⟩
 have ou:=fx.takeB [0,1] J (M:=[A6 AX 76 ([p,q,s,t,u].flatten) f c,Ab At a8 bp a7.1]) J jj ot fz
 have ov:Sp (wE g) os [A6 AX 76 jk f fy.2,Ab At a4 a3 [(v,x)],A5 g (AP [A6 AX 76 aa f c,Ab As n m k]),Ab As n m k]:=fx.take [0,1] [2,3,4] J (M:=[A6 AX 76 ([p,q,s,t,u].flatten) f c,Ab At a8 bp a7.1]) J fz jj.size
 have jl:=di.tk fz (Cc (Rf (fun b hb hlt=>(fun _ _ h=>Ax _ (Ax _ (Ax _ (Ax _ (Ax _ (h)))))) b hlt hb) (Bv (fun b hb hlt=>(fun _ _ h=>Ax _ (Ax _ (Ax _ (Ax _ (Bm _ h))))) b hlt hb) (Bv (fun b hb hlt=>(fun _ _ h=>Ax _ (Ax _ (Ax _ (Bm _ h)))) b hlt hb) (Bv (fun b hb hlt=>(fun _ _ h=>Ax _ (Ax _ (Bm _ h))) b hlt hb) (Bv (fun b hb hlt=>(fun _ _ h=>Ax _ (Bm _ h)) b hlt hb) (Bv (fun b hb hlt=>(fun _ _ h=>Bm _ h) b hlt hb) J3)))))) (Cc (fun b hb hlt=>absurd hlt (AM.2 (op b hb))) Dh))
 refine Ai<|Ar jl<|Ad 20 J o jl<|AD J J<|Bc ?_
 exact jx (ak (fy.2) (fy.1) jk _ d ou (ov.sel [2,0] J)) J
 refine Al fun _ ow=>?_
 refine AR J J J<|An 1 J<|ow<|A3 J d (fun _ d=>?_)<|fun _ d=>?_
 refine Ao fun _ ox=>?_
 obtain ⟨oy,a9,rd,ba,re,bb,rf,bc,rg,bd,oz⟩:=HM (hS.sel [1,0,2] J)
 refine AQ B1 ((((([f]++a9)++ba)++bb)++bc)++bd) hB oz fun dj _ jm ab=>?_
 have aj:=KeepX.refl dj ((((([f]++a9)++ba)++bb)++bc)++bd)
 refine Ay 0 J o aj<|Ay 1 J o aj<|Ad 2 J o aj<|B0 J J<|Ad 3 J o aj<|C7 Io J<|Ay 5 J o aj<|bB d fun o0 o1 d=>Ad 6 J o aj<|CK (e:=As) (i:=7) underlying36 J J J ab J o1 ?_
 rintro rh _ rfl o2 ri
 refine Ad 7 J o aj<|BR A9 J (fun w hw=>o2.keepS (fun b z=>(hw.blk b (((ab.get (i:=7) J).2.1 b z).2) (fun hb=>(AV.1 hb).elim (fun hb=>(AV.1 hb).elim (fun hb=>(AV.1 hb).elim (fun hb=>(AV.1 hb).elim (fun hb=>(AV.1 hb).elim (ab.disj (i:=7) (j:=0) J J J b z) (ab.disj (i:=7) (j:=1) J J J b z)) (ab.disj (i:=7) (j:=2) J J J b z)) (ab.disj (i:=7) (j:=3) J J J b z)) (ab.disj (i:=7) (j:=4) J J J b z)) (ab.disj (i:=7) (j:=5) J J J b z)))) (fun _ h=>h)) J<|Ay 8 J o aj<|bB d fun dk o3 d=>Ad 9 J o aj<|CK (e:=As) (i:=7) underlying36 J J J ab J o3 ?_
 rintro rj _ rfl o4 rk
 refine Ad 10 J o aj<|BR A9 J (fun w hw=>o4.keepS (fun b z=>(hw.blk b (((ab.get (i:=7) J).2.1 b z).2) (fun hb=>(AV.1 hb).elim (fun hb=>(AV.1 hb).elim (fun hb=>(AV.1 hb).elim (fun hb=>(AV.1 hb).elim (fun hb=>(AV.1 hb).elim (ab.disj (i:=7) (j:=0) J J J b z) (ab.disj (i:=7) (j:=1) J J J b z)) (ab.disj (i:=7) (j:=2) J J J b z)) (ab.disj (i:=7) (j:=3) J J J b z)) (ab.disj (i:=7) (j:=4) J J J b z)) (ab.disj (i:=7) (j:=5) J J J b z)))) (fun _ h=>h)) J<|Ay 11 J o aj<|bB d fun dl o5 d=>Ad 12 J o aj<|CK (e:=As) (i:=7) underlying36 J J J ab J o5 ?_
 rintro rl _ rfl o6 rm
 refine Ad 13 J o aj<|BR A9 J (fun w hw=>o6.keepS (fun b z=>(hw.blk b (((ab.get (i:=7) J).2.1 b z).2) (fun hb=>(AV.1 hb).elim (fun hb=>(AV.1 hb).elim (fun hb=>(AV.1 hb).elim (fun hb=>(AV.1 hb).elim (fun hb=>(AV.1 hb).elim (ab.disj (i:=7) (j:=0) J J J b z) (ab.disj (i:=7) (j:=1) J J J b z)) (ab.disj (i:=7) (j:=2) J J J b z)) (ab.disj (i:=7) (j:=3) J J J b z)) (ab.disj (i:=7) (j:=4) J J J b z)) (ab.disj (i:=7) (j:=5) J J J b z)))) (fun _ h=>h)) J<|Ad 14 J o aj<|IU (zs:=[iv 0,iv 0]) (out:=[iv dk,iv dl]) (vs:=[iv dk,iv dl]) (css:=[[iv dk],[iv dl]]) Bt MQ J J J J J<|A1 4 J<|AU 0 Cs J ab J J<|Ai<|Ar aj<|A1 15 J<|bB d fun bq o7 d=>A7 J call112 (Rz dj c.1 oy (ab.own_ro (i:=1) J) o0 (dk,dl) _ o7) J ?_
 rintro _ jn ⟨dm,br,rfl,f0,jo⟩
 refine ⟨_,rfl,?_⟩
 have jp:=tm jm f0
 have o8:∀ b ∈ br,dj.heap.size≤b:=fun b hb=>Az (Nat.le_refl dj.heap.size) ((jo.get (i:=0) J).2.1 b hb).1
 have o9:=ab.join f0 jo jm.size
 have dn:=aj.ext f0
 refine Ai<|Ar dn<|Ad 16 J o dn<|Ba J J J<|Ad 17 J o dn<|Ba J J J<|A1 18 J ?_
 have f1:Sp (wE g) jn [A6 AX 76 ([a9,ba,bb,bc,bd].flatten) f c,Ab At br dm bq.1,A5 g (AP [A6 AX 76 aa f c,Ab As n m k]),Ab As n m k]:=DF (o9.sel [1,2,3,4,5,6,0,7,8] J)
 refine bB d fun pa pb d=>A7 J call110 (CE jn c f ([a9,ba,bb,bc,bd].flatten) bq.1 dm br bq.2 (f1.sel [0,1] J).base0 _ pb) J ?_
 rintro _ pc ⟨jq,rfl,pd,f2⟩
 refine ⟨_,rfl,?_⟩
 have pe:=f1.takeB [0,1] J (M:=[A6 AX 76 ([a9,ba,bb,bc,bd].flatten) f c,Ab At br dm bq.1]) J jp pd f2
 have pf:Sp (wE g) pc [A6 AX 76 jq f pa.2,A5 g (AP [A6 AX 76 aa f c,Ab As n m k]),Ab As n m k]:=f1.take [0,1] [2,3] J (M:=[A6 AX 76 ([a9,ba,bb,bc,bd].flatten) f c,Ab At br dm bq.1]) J f2 jp.size
 have jr:=dn.tk f2 (Cc (Rf (fun b hb hlt=>(fun _ _ h=>Ax _ (Ax _ (Ax _ (Ax _ (Ax _ (h)))))) b hlt hb) (Bv (fun b hb hlt=>(fun _ _ h=>Ax _ (Ax _ (Ax _ (Ax _ (Bm _ h))))) b hlt hb) (Bv (fun b hb hlt=>(fun _ _ h=>Ax _ (Ax _ (Ax _ (Bm _ h)))) b hlt hb) (Bv (fun b hb hlt=>(fun _ _ h=>Ax _ (Ax _ (Bm _ h))) b hlt hb) (Bv (fun b hb hlt=>(fun _ _ h=>Ax _ (Bm _ h)) b hlt hb) (Bv (fun b hb hlt=>(fun _ _ h=>Bm _ h) b hlt hb) J3)))))) (Cc (fun b hb hlt=>absurd hlt (AM.2 (o8 b hb))) Dh))
 refine Ai<|Ar jr<|Ad 19 J o jr<|AD J J<|Bc<|ox<|Aw<|rt hQ J J<|by cases d; exact ⟨jq,rfl,pe,pf.sel [1,0] J⟩
 refine Al fun _ pg=>?_
 refine AR J J J<|An 1 J<|pg<|A3 J d (fun _ d=>?_)<|fun _ d=>?_
 refine Al fun _ ph=>?_
 refine wp 2 J<|B4 J J<|Bp Io J ?_
 obtain ⟨pi,rn,ro,rp,rq,rr,rs,ru,rv,rx,f3⟩:=HM (hS.sel [1,0,2] J)
 refine AU 0 Cs J f3 J J<|bB d fun bs pj d=>Ds J call113 hB f3 (Tl g c.1 pi (f3.own_ro (i:=1) J) _ pj) J fun dp dq js _ _ jt pk=>wp 2 J ?_
 obtain ⟨f4,f5⟩:∃ F,Sp (wE g) js [A6 AX 76 F f c,Ab At dq dp bs.1,A5 g (AP [A6 AX 76 aa f c,Ab As n m k]),Ab As n m k]:=⟨_,DF (pk.sel [1,2,3,4,5,6,0,7,8] J)⟩
 refine bB d fun pl pm d=>A7 J call110 (CE js c f f4 bs.1 dp dq bs.2 (f5.sel [0,1] J).base0 _ pm) J ?_
 rintro _ pn ⟨ju,rfl,po,jv⟩
 refine ⟨_,rfl,?_⟩
 have pp:=f5.takeB [0,1] J (M:=[A6 AX 76 f4 f c,Ab At dq dp bs.1]) J jt po jv
 have pq:Sp (wE g) pn [A6 AX 76 ju f pl.2,A5 g (AP [A6 AX 76 aa f c,Ab As n m k]),Ab As n m k]:=f5.take [0,1] [2,3] J (M:=[A6 AX 76 f4 f c,Ab At dq dp bs.1]) J jv jt.size
 refine An 1 J<|ph<|Aw<|rt hQ J J<|by cases d; exact ⟨ju,rfl,pp,pq.sel [1,0] J⟩
 refine Al fun _ pr=>?_
 refine AR J J J<|An 1 J<|pr<|A3 J d (fun _ d=>?_)<|fun _ d=>?_
 refine Al fun _ ps=>?_
 refine wp 1 J<|AZ (vs:=[]) (l:=[]) CR underlying26 J J J J J J hB hS fun ry rz pt _ pu pv=>wp 1 J<|B4 J J<|Bp Io J ?_
 obtain ⟨pw,r0,px,py,pz,r1,p0,r2,p1,r3,f6⟩:=HM (pv.sel [2,0,1,3] J)
 refine AU 0 Cs J f6 J J<|bB d fun p2 p3 d=>AE (i:=6) (S:=(·<pt.heap.size)) CR underlying26 J J J pu f6 J (f6.own_ro (i:=1) J) p3 fun jw r4 r5 _ p4 f7=>B4 J J<|Bp TA J<|BG (i:=0) (vs:=[jw]) (cs':=[pw,jw,iv c.2.2.1,pz,p0,p1]) Cs J J (Ch (f7.own_ro (i:=6) J).one) J p4 f7 J J ⟨(f7.own_ro (i:=6) J).one,trivial⟩ J fun p5 _ p6 p7=>Ai<|ps<|Am 1 J<|Aw ?_
 obtain ⟨p8,p9⟩:∃ F,Sp (wE g) p5 [A6 AX 76 F f (c.1,p2,c.2.2.1,c.2.2.2.1,c.2.2.2.2.1,c.2.2.2.2.2),Ab At py px c.2.1,A5 g (AP [A6 AX 76 aa f c,Ab As n m k]),Ab As n m k]:=⟨_,DF (p7.sel [0,1,6,3,4,5,2,7,8] J)⟩
 refine rt hQ J J<|by cases d; exact ⟨p8,rfl,p6,p9.sel [2,0] J⟩
 refine Au<|j1 ?_
 refine Ao fun _ qa=>Al fun _ qb=>wp 1 J<|bB d fun qc qd d=>I3 (e:=As) (i:=2) underlying36 J J J hS J qd ?_
 rintro r6 _ rfl bt r7
 refine BZ A9 J bt J<|bB d fun r8 qe d=>Bn J call60 hB hS (C1 g qc 1 64 _ qe) J fun r9 qf jy f8=>?_
 have bt:=bt.keepS (fun b hb=>qf.block b (((hS.get (i:=2) J).2.1 b hb).2)) (fun _ h=>h)
 refine An 1 J<|qb<|A3 J d (fun _ d=>?_)<|fun _ d=>?_
 refine Am 1 J ?_
 refine Aw<|rt hQ J J<|by cases d; exact ⟨aa,rfl,jy,f8.sel [0,1] J⟩
 refine Au<|qa ?_
 refine Al fun _ qg=>wp 2 J<|bB d fun qh qi d=>I3 (e:=As) (i:=2) underlying36 J J J f8 J qi ?_
 rintro sa _ rfl f9 sb
 refine BZ A9 J f9 J<|B4 J J<|Bp T9 J ?_
 obtain ⟨sc,sd,se,sf,sg,sh,si,sj,sk,sl,bu⟩:=HM (f8.sel [1,0,2] J)
 refine GC 0 A9 J J jy bu J J J fun qj jz qk ql=>?_
 have bt:=bt.keepS (fun b hb=>jz.2.1 b (((bu.get (i:=7) J).2.1 b hb).2) (bu.disj (i:=7) (j:=0) J J J b hb)) (fun _ h=>h)
 have f9:=f9.keepS (fun b hb=>jz.2.1 b (((bu.get (i:=7) J).2.1 b hb).2) (bu.disj (i:=7) (j:=0) J J J b hb)) (fun _ h=>h)
 refine Ai<|qg<|Am 1 J<|Aw ?_
 obtain ⟨qm,qn⟩:∃ F,Sp (wE g) qj [A6 AX 76 F f (c.1,c.2.1,qh,c.2.2.2.1,c.2.2.2.2.1,c.2.2.2.2.2),A5 g (AP [A6 AX 76 aa f c,Ab As n m k]),Ab As n m k]:=⟨_,DF (ql.sel [0,1,2,3,4,5,6,7] J)⟩
 refine rt hQ J J<|by cases d; exact ⟨qm,rfl,qk,qn.sel [1,0] J⟩
theorem Oq(d:Af)(f:Akg)(g:Ac)(n:RO BN d g f)(r:Bool)(b:Hv f=some r) :
  A2 44 [g] d fun e w'=>e=.returned (.bool r)∧Bl d w':=by
 refine cm func44 ntmps44 J fun Q s hP z hS=>?_
 unfold Hv at b
 refine Am 1 J<|Ao fun _ ab=>Al fun _ ac=>wp 1 J<|BO n underlying31 J<|An 1 J<|ac<|A0<|AN (fun m a j=>∃(h:Int),St 25 [(0,g),(5,g),(6,iv (List.length f:Int)),(7,iv h)] a∧Bl d j∧Sp d j []∧FY f m h=some r) FU ?_ ?_
 exact fun a ha=>⟨0,ha.sb J,z,hS.sel [] J,b⟩
 rintro i a j ⟨h,ha,o,ad,b⟩ a7 ae
 refine BC ?_ ha
 cases i with
 | zero=>exact Be b
 | succ i =>
  obtain ⟨a8,t⟩:∃ k,k=FY f i:=⟨_,rfl⟩
  rw [FY,← t] at b
  refine Am 1 J<|Ao fun _ af=>A3 J b (fun _ b=>?_)<|fun _ b=>?_
  refine Au<|af ?_
  refine Ao fun _ ag=>A0<|Al fun _ ah=>bB b fun u ai b=>BT (e:=BN) underlying31 J J J n ai ?_
  rintro a9 _ rfl aj
  refine BZ Hb J (aj.ro o) J<|EE Hb J o ad fun ba bb _ ak al=>GC 0 Hb J J ak al J J J fun am _ an v=>Ai<|ah<|Ao fun ao ap=>?_
  obtain ⟨aq,ar,b⟩:=Cb b
  have w:∀(p:Bool)(l:Af)(_:aq p=some r)(_:Bl d l)(_:Sp d l []),∀ a,St 25 [(0,g),(5,g),(6,iv (List.length f:Int)),(7,iv h),(20,.bool p)] a→ao a l:=by
   intro p l b x au
   subst ar
   refine ap<|A3 J b (fun _ b=>?_)<|fun _ b=>?_
   refine Am 1 J ?_
   refine Aw<|rt s J J<|by cases b; exact ⟨rfl,x⟩
   refine Au<|ag ?_
   refine Aq<|An 2 J ?_
   rw [t] at b
   exact fun a ha=>ae a _ i (AB i) ⟨Ah (h+1),ha.sb J,x,au.sel [] J,b⟩
  refine Aq<|Bp LI J<|AU 0 A9 J v J J<|bB b fun av aw b=>Bn J call60 an v (C1 am u.1 1 12 _ aw) J fun ax _ y q=>wp 2 J ?_
  rcases bE (!av) with c|c
  replace b:=Bw c b
  refine wo J c<|wo J c<|wo J c<|wo J c<|A8 J J c J<|Ai ?_
  exact jx (w true _ b y (q.sel [] J)) J
  replace b:=BI c b
  refine wn J c<|Bp Pw J<|wn J c<|AU 0 A9 J q J J<|wn J c<|bB b fun ay az b=>Bn J call60 y q (C1 ax u.2 40 220 _ az) J fun bc _ a0 a1=>wn J c<|wp 1 J<|Ak J J c J<|Ai ?_
  exact jx (w (!ay) _ b a0 (a1.sel [] J)) J
  refine Bb<|ab ?_
  refine Al fun _ a2=>wp 1 J<|BO n underlying31 J<|bB b fun bd a3 b=>A7 J call60 (C1 j (List.length f:Int) 1 40 _ a3) J ?_
  rintro _ be ⟨rfl,a4⟩
  refine ⟨_,rfl,?_⟩
  have a5:=tm o a4
  refine An 1 J<|a2<|Aw<|rt s J J<|by cases b; exact ⟨rfl,a5⟩
theorem Hx(f:Af)(c d:Int×Int×Int×Int)(r:Int)(a:DB c d=some r) :
  A2 115 [.agg #[iv c.1,iv c.2.1,iv c.2.2.1,iv c.2.2.2],.agg #[iv d.1,iv d.2.1,iv d.2.2.1,iv d.2.2.2]] f fun e w'=>e=.returned (iv r)∧Bl f w':=by
 refine cm func115 ntmps115 J fun Q g s i j=>?_
 unfold DB at a
 refine Al fun _ k=>CV J i j fun t u _ l m=>CV J l m fun v w _ h b=>An 1 J<|k<|Ao fun _ n=>Al fun _ o=>Bp Ee J<|AU 1 A9 J b J J<|Bp Ee J<|AU 0 A9 J b J J<|An 1 J<|o<|A3 J a (fun _ a=>?_)<|fun _ a=>?_
 refine Al fun _ p=>?_
 refine Bp Ee J<|AU 1 A9 J b J J<|Bp Ee J<|AU 0 A9 J b J J<|An 2 J<|p<|Aw<|rt g J J<|by cases a; exact ⟨rfl,h⟩
 refine Au<|n ?_
 refine Al fun _ q=>Bp IW J<|AU 1 A9 J b J J<|Bp IW J<|AU 0 A9 J b J J<|An 2 J<|q<|Aw<|rt g J J<|by cases a; exact ⟨rfl,h⟩
theorem Xa(k:Af)(d:Int×Int×Int×Int)(r:Bool)(b:Li d=some r) :
  A2 168 [.agg #[iv d.1,iv d.2.1,iv d.2.2.1,iv d.2.2.2]] k fun e w'=>e=.returned (.bool r)∧Bl k w':=by
 refine cm func168 ntmps168 J fun Q s hP t u=>?_
 unfold Li at b
 refine Al fun _ v=>CV J t u fun b2 w _ x p=>An 1 J<|v<|Ao fun y z=>?_
 obtain ⟨aa,ab,b⟩:=Cb b
 have j:∀(n:Bool)(l:Af)(_:aa n=some r)(_:Bl k l)(_:Sp k l []),∀ a,St 28 [(2,.bool n)] a→y a l:=by
  intro n l b ac ak
  subst ab
  refine z<|Aw<|rt s J J<|by cases b; exact ⟨rfl,ac⟩
 refine Aq<|Bp KK J<|AU 0 A9 J p J J<|bB b fun ad ae b=>Bn J call60 x p (C1 w d.1 1 12 _ ae) J fun af _ q o=>wp 1 J ?_
 rcases bE ad with f|f
 replace b:=Bw f b
 refine wn J f<|Bp IW J<|wn J f<|AU 0 A9 J o J J<|wn J f<|bB b fun ag ah b=>Bn J call60 q o (C1 af d.2.1 1 9 _ ah) J fun al _ m i=>A8 J J f J<|wp 1 J ?_
 rcases bE ag with g|g
 replace b:=Bw g b
 refine wn J g<|Bp Ee J<|wn J g<|AU 0 A9 J i J J<|wn J g<|wp 1 J<|A8 J J g J<|wp 1 J ?_
 rcases bE (decide (0≤d.2.2.1)) with c|c
 replace b:=Bw c b
 refine wn J c<|Bp Ee J<|wn J c<|AU 0 A9 J i J J<|wn J c<|Bp H8 J<|wn J c<|AU 0 A9 J i J J<|wn J c<|wp 1 J<|A8 J J c J<|wp 1 J ?_
 rcases bE (decide (d.2.2.1<d.2.2.2)) with h|h
 replace b:=Bw h b
 refine wn J h<|Bp H8 J<|wn J h<|AU 0 A9 J i J J<|wn J h<|wp 1 J<|A8 J J h J<|An 1 J ?_
 exact jx (j (decide (d.2.2.2≤1000)) _ b m (i.sel [] J)) J
 replace b:=BI h b
 refine wo J h<|wo J h<|wo J h<|Ak J J h J<|An 1 J ?_
 exact jx (j false _ b m (i.sel [] J)) J
 replace b:=BI c b
 refine wo J c<|wo J c<|wo J c<|wo J c<|wo J c<|Ak J J c J<|wp 1 J<|wo J J<|wo J J<|wo J J<|Ak J J J J<|An 1 J ?_
 exact jx (j false _ b m (i.sel [] J)) J
 replace b:=BI g b
 refine wo J g<|wo J g<|wo J g<|Ak J J g J<|wp 1 J<|wo J J<|wo J J<|wo J J<|wo J J<|wo J J<|Ak J J J J<|wp 1 J<|wo J J<|wo J J<|wo J J<|Ak J J J J<|An 1 J ?_
 exact jx (j false _ b m (i.sel [] J)) J
 replace b:=BI f b
 refine wo J f<|wo J f<|wo J f<|Ak J J f J<|wp 1 J<|wo J J<|wo J J<|wo J J<|Ak J J J J<|wp 1 J<|wo J J<|wo J J<|wo J J<|wo J J<|wo J J<|Ak J J J J<|wp 1 J<|wo J J<|wo J J<|wo J J<|Ak J J J J<|An 1 J ?_
 exact jx (j false _ b q (o.sel [] J)) J
theorem OX(l:Af)(o:Akh)(n:Ac)(q:RO A4 l n o)(r:Bool)(b:GH o=some r) :
  A2 116 [n] l fun e w'=>e=.returned (.bool r)∧Bl l w':=by
 refine cm func116 ntmps116 J fun Q u g hB hS=>?_
 unfold GH at b
 refine Am 1 J<|Ao fun _ a8=>Al fun _ a9=>wp 1 J<|BO q underlying72 J<|An 1 J<|a9<|A3 J b (fun _ b=>?_)<|fun _ b=>?_
 refine Am 1 J ?_
 refine Aw<|rt u J J<|by cases b; exact ⟨rfl,hB⟩
 refine Au<|a8 ?_
 refine Ao fun _ ba=>Al fun _ bb=>wp 1 J<|BO q underlying72 J<|An 1 J<|bb<|A0<|AN (fun m a w8=>∃(z:Int),St 76 [(0,n),(12,n),(13,iv (List.length o:Int)),(14,iv z)] a∧Bl l w8∧Sp l w8 []∧ED o m z=some r) FU ?_ ?_
 exact fun a ha=>⟨0,ha.sb J,hB,hS.sel [] J,b⟩
 rintro v a w8 ⟨z,ha,ae,ar,b⟩ cy bc
 refine BC ?_ ha
 cases v with
 | zero=>exact Be b
 | succ v =>
  obtain ⟨cz,au⟩:∃ k,k=ED o v:=⟨_,rfl⟩
  rw [ED,← au] at b
  refine Am 1 J<|Ao fun _ bd=>A3 J b (fun _ b=>?_)<|fun _ b=>?_
  refine Au<|bd ?_
  refine Ao fun _ be=>A0<|Al fun _ bf=>bB b fun bg bh b=>BT (e:=A4) underlying72 J J J q bh ?_
  rintro c0 _ rfl bi
  refine BZ BJ J (bi.ro ae) J<|EE BJ J ae ar fun c1 c2 _ bj bk=>GC 0 BJ J J bj bk J J J fun bl _ bm av=>Ai<|bf<|Al fun _ bn=>AU 0 BJ J av J J<|bB b fun c3 bo b=>Bn J call168 bm av (Xa bl bg _ bo) J fun c4 _ aw bp=>An 1 J<|bn<|A3 J b (fun _ b=>?_)<|fun _ b=>?_
  refine Am 1 J ?_
  refine Aw<|rt u J J<|by cases b; exact ⟨rfl,aw⟩
  refine Au<|be ?_
  refine Aq<|An 2 J ?_
  rw [au] at b
  exact fun a ha=>bc a _ v (AB v) ⟨Ah (z+1),ha.sb J,aw,bp.sel [] J,b⟩
  refine Bb<|ba ?_
  refine Ao fun _ bq=>Al fun _ br=>wp 1 J<|BO q underlying72 J<|An 1 J<|br<|A0<|AN (fun m a af=>∃(p:Int),St 76 [(0,n),(22,n),(23,iv (List.length o:Int)),(24,iv p)] a∧Bl l af∧Sp l af []∧CT o m p=some r) FU ?_ ?_
  exact fun a ha=>⟨0,ha.sb J,ae,ar.sel [] J,b⟩
  rintro w a af ⟨p,ha,ag,bs,b⟩ c5 bt
  refine BC ?_ ha
  cases w with
  | zero=>exact Be b
  | succ w =>
   obtain ⟨ax,ay⟩:∃ k,k=CT o w:=⟨_,rfl⟩
   rw [CT,← ay] at b
   refine Am 1 J<|Ao fun _ bu=>A3 J b (fun _ b=>?_)<|fun _ b=>?_
   refine Au<|bu ?_
   refine Ao fun _ bv=>A0<|Al fun _ bw=>wp 1 J<|bB b fun d bx b=>BT (e:=A4) underlying72 J J J q bx ?_
   rintro c6 _ rfl bz
   refine BZ BJ J (bz.ro ag) J<|EE BJ J ag bs fun s c7 _ b0 b1=>wp 1 J<|GC 0 BJ J J b0 b1 J J J fun c8 _ b2 b3=>Ai<|bw<|Ao fun _ b4=>Ao fun b5 b6=>?_
   obtain ⟨b7,b8,b⟩:=Cb b
   have az:∀(ah:Bool)(aa:Af)(_:b7 ah=some r)(_:Bl l aa)(_:Sp l aa [Av s 125 [iv d.1,iv d.2.1,iv d.2.2.1,iv d.2.2.2]]),∀ a,St 76 [(0,n),(5,iv p),(6,.pointer (some ⟨s,0,none⟩)),(22,n),(23,iv (List.length o:Int)),(24,iv p),(40,.bool ah)] a→b5 a aa:=by
    intro ah aa b a0 b9
    subst b8
    refine b6<|A3 J b (fun _ b=>?_)<|fun _ b=>?_
    refine Am 1 J ?_
    refine Aw<|rt u J J<|by cases b; exact ⟨rfl,a0⟩
    refine Au<|b4 ?_
    refine Al fun _ ca=>wp 2 J<|bB b fun ab cb b=>R1 (e:=A4) underlying72 J J q cb (.inl ⟨rfl,rfl⟩) (.inr ⟨_,_,rfl,rfl⟩) fun a1 a2=>BO a2 underlying72 J<|An 1 J<|ca<|A0<|AN (fun m a ai=>∃(x:Int),St 76 [(0,n),(6,.pointer (some ⟨s,0,none⟩)),(22,n),(23,iv (List.length o:Int)),(24,iv p),(43,a1),(44,iv (List.length ab:Int)),(45,iv x)] a∧Bl l ai∧Sp l ai [Av s 125 [iv d.1,iv d.2.1,iv d.2.2.1,iv d.2.2.2]]∧DU ab d ax p m x=some r) FU ?_ ?_
    exact fun a ha=>⟨0,ha.sb J,a0,b9.sel [0] J,b⟩
    rintro y a ai ⟨x,ha,aj,a3,b⟩ c9 cc
    refine BC ?_ ha
    cases y with
    | zero=>exact Be b
    | succ y =>
     obtain ⟨da,a4⟩:∃ k,k=DU ab d ax p y:=⟨_,rfl⟩
     rw [DU,← a4] at b
     refine Am 1 J<|Ao fun _ cd=>A3 J b (fun _ b=>?_)<|fun _ b=>?_
     refine Au<|cd ?_
     refine Ao fun _ ce=>A0<|Al fun _ cf=>bB b fun t cg b=>BT (e:=A4) underlying72 J J J a2 cg ?_
     rintro db _ rfl ch
     refine BZ BJ J (ch.ro aj) J<|EE BJ J aj a3 fun dc dd _ ci cj=>GC 0 BJ J J ci cj J J J fun de _ ak i=>Ai<|cf<|Ao fun ck cl=>?_
     obtain ⟨cn,co,b⟩:=Cb b
     have al:∀(am:Bool)(ac:Af)(_:cn am=some r)(_:Bl l ac)(_:Sp l ac [Av s 125 [iv d.1,iv d.2.1,iv d.2.2.1,iv d.2.2.2]]),∀ a,St 76 [(0,n),(6,.pointer (some ⟨s,0,none⟩)),(22,n),(23,iv (List.length o:Int)),(24,iv p),(43,a1),(44,iv (List.length ab:Int)),(45,iv x),(73,.bool am)] a→ck a ac:=by
      intro am ac b a5 cp
      subst co
      refine cl<|A3 J b (fun _ b=>?_)<|fun _ b=>?_
      refine Am 1 J ?_
      refine Aw<|rt u J J<|by cases b; exact ⟨rfl,a5⟩
      refine Au<|ce ?_
      refine Aq<|An 2 J ?_
      rw [a4] at b
      exact fun a ha=>cc a _ y (AB y) ⟨Ah (x+1),ha.sb J,a5,cp.sel [0] J,b⟩
     refine Aq<|Bp IW J<|AU 1 A9 J i J J<|Bp IW J<|AU 0 A9 J i J J<|wp 2 J ?_
     rcases bE (d.2.1==t.2.1) with j|j
     replace b:=Bw j b
     refine wo J j<|wo J j<|wo J j<|wo J j<|wo J j<|A8 J J j J<|wp 1 J<|wn J J<|Bp Ee J<|wn J J<|AU 1 A9 J i J J<|wn J J<|Bp Ee J<|wn J J<|AU 0 A9 J i J J<|wn J J<|QS J J J<|wn J J<|Bp H8 J<|wn J J<|AU 1 A9 J i J J<|wn J J<|Bp H8 J<|wn J J<|AU 0 A9 J i J J<|wn J J<|UU J J J<|wn J J<|wp 1 J<|A8 J J J J<|Ai ?_
     exact jx (al (decide ((Gj d.2.2.1 t.2.2.1)<(Fq d.2.2.2 t.2.2.2))) _ b ak (i.sel [1] J)) J
     replace b:=BI j b
     refine wn J j<|Bp KK J<|wn J j<|AU 1 A9 J i J J<|wn J j<|Bp KK J<|wn J j<|AU 0 A9 J i J J<|wn J j<|wp 1 J<|Ak J J j J<|wp 1 J ?_
     rcases bE (d.1==t.1) with c|c
     replace b:=Bw c b
     refine wn J c<|Bp Ee J<|wn J c<|AU 1 A9 J i J J<|wn J c<|Bp Ee J<|wn J c<|AU 0 A9 J i J J<|wn J c<|QS J J J<|wn J c<|Bp H8 J<|wn J c<|AU 1 A9 J i J J<|wn J c<|Bp H8 J<|wn J c<|AU 0 A9 J i J J<|wn J c<|UU J J J<|wn J c<|wp 1 J<|A8 J J c J<|Ai ?_
     exact jx (al (decide ((Gj d.2.2.1 t.2.2.1)<(Fq d.2.2.2 t.2.2.2))) _ b ak (i.sel [1] J)) J
     replace b:=BI c b
     refine wo J c<|wo J c<|wo J c<|wo J c<|wo J c<|wo J c<|wo J c<|wo J c<|wo J c<|wo J c<|wo J c<|Ak J J c J<|Ai ?_
     exact jx (al false _ b ak (i.sel [1] J)) J
     refine Bb<|bv ?_
     refine Aq<|An 2 J ?_
     rw [ay] at b
     exact fun a ha=>bt a _ w (AB w) ⟨Ah (p+1),ha.sb J,aj,a3.sel [] J,b⟩
   refine AQ B1 [] b2 b3 fun a6 _ an ao=>?_
   have h:=KeepX.refl a6 []
   refine Ay 0 J g h<|Ad 1 J g h<|Vq J J J<|Ay 2 J g h ?_
   rcases bE (decide (0<p)) with f|f
   replace b:=Bw f b
   refine BQ 3 J g f h<|Dq J J<|BQ 4 J g f h<|Dq J J<|BQ 5 J g f h<|H6 J J J<|bB b fun cq cr b=>BQ 6 J g f h<|B7 (e:=A4) underlying72 J J J q cr ?_
   rintro df _ rfl cs
   refine BQ 7 J g f h<|BR BJ J (cs.kx an (by simp)) J<|BQ 8 J g f h<|CN 0 BJ J ao J (by simp)<|A1 9 J<|wn J f<|bB b fun ct cu b=>Bn J call115 an ao (Hx a6 cq d _ cu) J fun dg cv cw cx=>?_
   have ap:=h.ext cv
   refine Ai<|Ar ap<|BQ 10 J g f ap<|YA J J J<|Ad 11 J g ap<|EK J J f J<|Bc ?_
   exact jx (az (decide (0≤ct)) _ b cw (cx.sel [0] J)) J
   replace b:=BI f b
   refine Bh 3 J g f h<|Bh 4 J g f h<|Bh 5 J g f h<|Bh 6 J g f h<|Bh 7 J g f h<|Bh 8 J g f h<|Bh 9 J g f h<|Bh 10 J g f h<|Ad 11 J g h<|GI J J f J<|Bc ?_
   exact jx (az false _ b an (ao.sel [0] J)) J
   refine Bb<|bq ?_
   refine Am 1 J<|Aw<|rt u J J<|by cases b; exact ⟨rfl,ag⟩
theorem KH(i:Af)(j:Akj)(n:Ac)(t:RO Cg i n j)(r:Bool)(b:EC j=some r) :
  A2 45 [n] i fun e w'=>e=.returned (.bool r)∧Bl i w':=by
 refine cm func45 ntmps45 J fun Q x hP hB hS=>?_
 unfold EC at b
 refine Am 1 J<|Ao fun _ au=>Ao fun K3 aw=>?_
 obtain ⟨k8,ay,b⟩:=Cb b
 have ag:∀(y:Bool)(u:Af)(_:k8 y=some r)(_:Bl i u)(_:Sp i u []),∀ a,St 46 [(0,n),(15,.bool y)] a→K3 a u:=by
  intro y u b ah az
  subst ay
  refine aw<|A3 J b (fun _ b=>?_)<|fun _ b=>?_
  refine Am 1 J ?_
  refine Aw<|rt x J J<|by cases b; exact ⟨rfl,ah⟩
  refine Au<|au ?_
  refine Ao fun _ a0=>Al fun _ a1=>wp 1 J<|BO t underlying41 J<|An 1 J<|a1<|A0<|AN (fun m a z=>∃(l:Int),St 46 [(16,n),(17,iv (List.length j:Int)),(18,iv l)] a∧Bl i z∧Sp i z []∧Ex j m l=some r) FU ?_ ?_
  exact fun a ha=>⟨0,ha.sb J,ah,az.sel [] J,b⟩
  rintro p a z ⟨l,ha,aa,a2,b⟩ b4 a3
  refine BC ?_ ha
  cases p with
  | zero=>exact Be b
  | succ p =>
   obtain ⟨b5,ai⟩:∃ k,k=Ex j p:=⟨_,rfl⟩
   rw [Ex,← ai] at b
   refine Am 1 J<|Ao fun _ a4=>A3 J b (fun _ b=>?_)<|fun _ b=>?_
   refine Au<|a4 ?_
   refine Ao fun _ a5=>A0<|Al fun _ a6=>wp 1 J<|bB b fun q a7 b=>BT (e:=Cg) underlying41 J J J t a7 ?_
   rintro b6 _ rfl a8
   refine BZ LR J (a8.ro aa) J<|EE LR J aa a2 fun b7 b8 _ a9 ba=>wp 1 J<|GC 0 LR J J a9 ba J J J fun aj _ ak v=>Ai<|a6<|Ao fun bb bc=>?_
   obtain ⟨bd,be,b⟩:=Cb b
   have s:∀(ab:Bool)(w:Af)(_:bd ab=some r)(_:Bl i w)(_:Sp i w []),∀ a,St 46 [(16,n),(17,iv (List.length j:Int)),(18,iv l),(44,.bool ab)] a→bb a w:=by
    intro ab w b al bf
    subst be
    refine bc<|A3 J b (fun _ b=>?_)<|fun _ b=>?_
    refine Am 1 J ?_
    refine Aw<|rt x J J<|by cases b; exact ⟨rfl,al⟩
    refine Au<|a5 ?_
    refine Aq<|An 2 J ?_
    rw [ai] at b
    exact fun a ha=>a3 a _ p (AB p) ⟨Ah (l+1),ha.sb J,al,bf.sel [] J,b⟩
   refine Aq<|wp 3 J ?_
   rcases bE (decide (0<l)) with c|c
   replace b:=Bw c b
   refine wn J c<|Bp Pv J<|wn J c<|AU 0 A9 J v J J<|wn J c<|wp 1 J<|wn J c<|wp 1 J<|wn J c<|bB b fun bg bh b=>Bn J call60 ak v (C1 aj q.1 0 (Ah (l-1)) _ bh) J fun bi _ am ac=>wn J c<|wp 1 J<|A8 J J c J<|wp 1 J ?_
   rcases bE (!bg) with f|f
   replace b:=Bw f b
   refine wo J f<|wo J f<|wo J f<|wo J f<|A8 J J f J<|wp 1 J<|wo J J<|wo J J<|wo J J<|wo J J<|A8 J J J J<|Ai ?_
   exact jx (s true _ b am (ac.sel [] J)) J
   replace b:=BI f b
   refine wn J f<|Bp Pu J<|wn J f<|AU 0 A9 J ac J J<|wn J f<|bB b fun bj bk b=>Bn J call60 am ac (C1 bi q.2.1 0 7 _ bk) J fun bl _ an ad=>wn J f<|wp 1 J<|Ak J J f J<|wp 1 J ?_
   rcases bE (!bj) with g|g
   replace b:=Bw g b
   refine wo J g<|wo J g<|wo J g<|wo J g<|A8 J J g J<|Ai ?_
   exact jx (s true _ b an (ad.sel [] J)) J
   replace b:=BI g b
   refine wn J g<|Bp Pt J<|wn J g<|AU 0 A9 J ad J J<|wn J g<|bB b fun bm bn b=>Bn J call60 an ad (C1 bl q.2.2 0 999 _ bn) J fun b9 _ bo bp=>wn J g<|wp 1 J<|Ak J J g J<|Ai ?_
   exact jx (s (!bm) _ b bo (bp.sel [] J)) J
   replace b:=BI c b
   refine wo J c<|wo J c<|wo J c<|wo J c<|wo J c<|wo J c<|Ak J J c J<|wp 1 J<|wn J J<|Bp Pu J<|wn J J<|AU 0 A9 J v J J<|wn J J<|bB b fun bq br b=>Bn J call60 ak v (C1 aj q.2.1 0 7 _ br) J fun bs _ ao ae=>wn J J<|wp 1 J<|Ak J J J J<|wp 1 J ?_
   rcases bE (!bq) with h|h
   replace b:=Bw h b
   refine wo J h<|wo J h<|wo J h<|wo J h<|A8 J J h J<|Ai ?_
   exact jx (s true _ b ao (ae.sel [] J)) J
   replace b:=BI h b
   refine wn J h<|Bp Pt J<|wn J h<|AU 0 A9 J ae J J<|wn J h<|bB b fun bt bu b=>Bn J call60 ao ae (C1 bs q.2.2 0 999 _ bu) J fun ca _ bv bw=>wn J h<|wp 1 J<|Ak J J h J<|Ai ?_
   exact jx (s (!bt) _ b bv (bw.sel [] J)) J
   refine Bb<|a0 ?_
   refine Am 1 J<|Aw<|rt x J J<|by cases b; exact ⟨rfl,aa⟩
 refine Aq<|wp 1 J<|BO t underlying41 J<|bB b fun bx bz b=>Bn J call60 hB hS (C1 i (List.length j:Int) 1 60 _ bz) J fun cb _ af ap=>wp 2 J ?_
 rcases bE (!bx) with d|d
 replace b:=Bw d b
 refine wo J d<|wo J d<|wo J d<|wo J d<|wo J d<|A8 J J d J<|Ai ?_
 exact jx (ag true _ b af (ap.sel [] J)) J
 replace b:=BI d b
 refine wn J d<|wp 1 J<|wn J d<|bB b fun b0 b1 b=>BT (e:=Cg) underlying41 J J J t b1 ?_
 rintro cc _ rfl b2
 refine wn J d<|Lm (o:=0) Pv J J<|wn J d<|BZ A9 J ((b2.ro af).add 0) J<|wn J d<|wp 1 J<|Ak J J d J<|Ai ?_
 exact jx (ag (b0.1 != (-1)) _ b af (ap.sel [] J)) J
theorem TV(g:Af)(y:Akj)(z:Ac)(n:RO Cg g z y)(d:Int×Int×Int)(r:Akj×Bool)(c:Jp y d=some r) :
  A2 117 [z,.agg #[iv d.1,iv d.2.1,iv d.2.2]] g fun e w'=>∃(q0:Ac)(G0:Ap),e=.returned (.tuple #[q0,.bool r.2])∧Bl g w'∧Sp g w' [Ab Cg G0 q0 r.1]:=by
 refine cm func117 ntmps117 J fun Q hQ j hB hS=>?_
 unfold Jp at c
 refine Al fun _ bm=>CV J hB hS fun b2 w3 _ ak bo=>An 2 J<|bm<|Ao fun _ bp=>Al fun _ bq=>wp 1 J<|bB c fun u9 br c=>Bn J call45 ak bo (KH w3 y z (n.ro ak) _ br) J fun dj _ al am=>An 1 J<|bq<|A3 J c (fun _ c=>?_)<|fun _ c=>?_
 refine Am 2 J ?_
 refine Aw ?_
 have bs:=am.push0 (r:=Ab Cg [] (.slice none 0 0) []) J fun _=>.inl ⟨rfl,rfl,rfl⟩
 refine rt hQ J J<|by cases c; exact ⟨.slice none 0 0,[],rfl,al,bs.sel [0] J⟩
 refine Au<|bp ?_
 refine Ao fun bt bu=>?_
 obtain ⟨bv,bw,c⟩:=Cb c
 have ab:∀(o:Akj)(k:Ac)(ac:Ap)(m:Af)(_:bv o=some r)(_:Bl g m)(_:Sp g m [Ab Cg ac k o]),∀ a,St 20 [(6,k)] a→bt a m:=by
  intro o k ac m c bx an
  subst bw
  refine bu<|Ao fun _ bz=>Al fun _ b0=>wp 1 J<|bB c fun dk b1 c=>Bn J call45 bx an (KH m o k (an.own_ro (i:=0) J) _ b1) J fun dl _ ao ap=>An 1 J<|b0<|A3 J c (fun _ c=>?_)<|fun _ c=>?_
  refine Am 2 J ?_
  refine Aw ?_
  have b3:=ap.push0 (r:=Ab Cg [] (.slice none 0 0) []) J fun _=>.inl ⟨rfl,rfl,rfl⟩
  refine rt hQ J J<|by cases c; exact ⟨.slice none 0 0,[],rfl,ao,b3.sel [0] J⟩
  refine Au<|bz ?_
  refine Am 3 J<|Aw<|rt hQ J J<|by cases c; exact ⟨k,ac,rfl,ao,ap.sel [0] J⟩
 refine AQ B1 [] al am fun f _ p ad=>?_
 have q:=KeepX.refl f []
 refine Ay 1 J j q<|Ad 3 J j q<|CN 0 LR J ad J (by simp)<|CA (is:=[0,4]) (by kernel_rfl) J<|Bj.2 ⟨⟨_,rfl,?_⟩,Bj.2 ⟨⟨_,rfl,?_⟩,fun _ h=>by cases h⟩⟩
 refine AZ (vs:=[]) (l:=[]) Hy underlying41 J J J J J J (Bk f) (Sep.nil _ _) fun dm b4 aq s _ ar=>?_
 have t:=tm p s
 have au:=ad.join s ar p.size
 have u:∀ b ∈ b4,f.heap.size≤b:=fun b hb=>Az (Nat.le_refl f.heap.size) ((ar.1 _ (List.mem_cons_self ..)).2.1 b hb).1
 have ae:=q.ext s
 have av:=Az (Nat.le_refl f.heap.size) s.size
 refine Ai<|Ar ae<|CA (is:=[2,4]) (by kernel_rfl) J<|Bj.2 ⟨⟨_,rfl,?_⟩,Bj.2 ⟨⟨_,rfl,?_⟩,fun _ h=>by cases h⟩⟩
 refine bB c fun dn b5 c=>?_
 refine AE (i:=0) (S:=(·<aq.heap.size)) Hy underlying41 J J J t au J (n.ro t) b5 fun dp b6 b7 af aw b8=>?_
 have ax:=ae.wr' af.1 af.2.1 (fun b hlt hb=>absurd hlt (AM.2 (u b hb)))
 have b9:∀ b ∈ b6,f.heap.size≤b:=fun b hb=>(af.2.2 b hb).elim (u b) fun h=>Az av h
 refine Ai<|Ar ax<|A1 4 J<|AZ (vs:=[.agg #[iv d.1,iv d.2.1,iv d.2.2]]) (l:=[d]) Hy underlying41 J J J J J J (Bk b7) (Sep.nil _ _) fun dq dr ca ag _ cb=>?_
 have cc:=tm aw ag
 have ay:=b8.join ag cb aw.size
 have az:=ax.ext ag
 refine Ai<|Ar az<|A1 5 J<|bB c fun cd ce c=>AE (i:=1) (S:=(·<ca.heap.size)) Hy underlying41 J J J cc ay J (ay.own_ro (i:=0) J) ce fun cf cg ds a0 ch ci=>?_
 have a1:=az.wr' a0.1 a0.2.1 (fun b hlt hb=>absurd hlt (AM.2 (b9 b hb)))
 refine Ai<|Ar a1<|Ad 6 J j a1<|AD J J<|Bc ?_
 exact jx (ab cd cf cg _ c ch (ci.sel [1] J)) J
 refine AZ (vs:=[.agg #[iv d.1,iv d.2.1,iv d.2.2]]) (l:=[d]) Hy underlying41 J J J J J J (Bk aq) (Sep.nil _ _) fun dt du cj v _ ck=>?_
 have a2:=tm t v
 have cl:=au.join v ck t.size
 have a3:=ae.ext v
 have cn:=Az av v.size
 refine Ai<|Ar a3<|A1 2 J<|bB c fun dv co c=>AE (i:=1) (S:=(·<cj.heap.size)) Hy underlying41 J J J a2 cl J (n.ro a2) co fun dw cp cq ah cr a4=>?_
 have a5:=a3.wr' ah.1 ah.2.1 (fun b hlt hb=>absurd hlt (AM.2 (u b hb)))
 have cs:∀ b ∈ cp,f.heap.size≤b:=fun b hb=>(ah.2.2 b hb).elim (u b) fun h=>Az cn h
 refine Ai<|Ar a5<|A1 5 J<|bB c fun ct cu c=>AE (i:=1) (S:=(·<cq.heap.size)) Hy underlying41 J J J cr a4 J (a4.own_ro (i:=0) J) cu fun cv cw dx a6 cx cy=>?_
 have a7:=a5.wr' a6.1 a6.2.1 (fun b hlt hb=>absurd hlt (AM.2 (cs b hb)))
 refine Ai<|Ar a7<|Ad 6 J j a7<|AD J J<|Bc ?_
 exact jx (ab ct cv cw _ c cx (cy.sel [1] J)) J
 refine AZ (vs:=[.agg #[iv d.1,iv d.2.1,iv d.2.2]]) (l:=[d]) Hy underlying41 J J J J J J (Bk f) (Sep.nil _ _) fun dy dz cz w _ c0=>?_
 have a8:=tm p w
 have c1:=ad.join w c0 p.size
 have a9:=q.ext w
 have ba:=Az (Nat.le_refl f.heap.size) w.size
 refine Ai<|Ar a9<|A1 0 J<|AZ (vs:=[]) (l:=[]) Hy underlying41 J J J J J J (Bk cz) (Sep.nil _ _) fun d0 c2 c3 x _ bb=>?_
 have bc:=tm a8 x
 have c4:=c1.join x bb a8.size
 have bd:∀ b ∈ c2,f.heap.size≤b:=fun b hb=>Az ba ((bb.1 _ (List.mem_cons_self ..)).2.1 b hb).1
 have be:=a9.ext x
 have c5:=Az ba x.size
 refine Ai<|Ar be<|A1 2 J<|bB c fun d1 c6 c=>AE (i:=0) (S:=(·<c3.heap.size)) Hy underlying41 J J J bc c4 J (n.ro bc) c6 fun d2 c7 c8 ai c9 bf=>?_
 have bg:=be.wr' ai.1 ai.2.1 (fun b hlt hb=>absurd hlt (AM.2 (bd b hb)))
 have da:∀ b ∈ c7,f.heap.size≤b:=fun b hb=>(ai.2.2 b hb).elim (bd b) fun h=>Az c5 h
 refine Ai<|Ar bg<|A1 5 J<|bB c fun db dc c=>AE (i:=0) (S:=(·<c8.heap.size)) Hy underlying41 J J J c9 bf J (bf.own_ro (i:=1) J) dc fun dd de d3 bh df dg=>?_
 have bi:=bg.wr' bh.1 bh.2.1 (fun b hlt hb=>absurd hlt (AM.2 (da b hb)))
 refine Ai<|Ar bi<|Ad 6 J j bi<|AD J J<|Bc ?_
 exact jx (ab db dd de _ c df (dg.sel [0] J)) J
theorem Ea(j:Af)(v:Akh)(p:Ac)(n:Ap)(q x:Int)(bh:Sep 0 j [Ab A4 n p v])(r:Akh)(c:Bo v q x=some r) :
  A2 210 [p,iv q,iv x,.func (.func 115) #[] #[]] j fun e w'=>e=.returned (.tuple #[])∧Below 0 (wE j) w'∧Sep 0 w' [A5 j (AP [Ab A4 n p v]),Ab A4 n p r]:=by
 refine Jr func210 J ntmps210 J J fun Q hQn hQ d=>?_
 have hB:Bl (wE j) j:=Dp j
 have hS:Sp (wE j) j [A5 j (AP [Ab A4 n p v]),Ab A4 n p v]:=bh.rest
 unfold Bo at c
 refine Am 3 J<|A0<|AN (fun m a w2=>∃(l5:Akh)(w:Int),St 53 [(0,p),(1,iv q),(2,iv x),(3,.func (.func 115) #[] #[]),(8,iv w)] a∧Bl (wE j) w2∧Sp (wE j) w2 [A5 j (AP [Ab A4 n p v]),Ab A4 n p l5]∧Bd x q m l5 w=some r) FU ?_ ?_
 exact fun a ha=>⟨v,Ah (q+1),ha.sb J,hB,hS.sel [0,1] J,c⟩
 rintro m9 a w2 ⟨l5,w,ha,av,aw,c⟩ cr bk
 refine BC ?_ ha
 cases m9 with
 | zero=>exact Be c
 | succ m9 =>
  obtain ⟨ax,ay⟩:∃ k,k=Bd x q m9:=⟨_,rfl⟩
  rw [Bd,← ay] at c
  refine Ao fun _ bl=>Am 3 J<|A3 J c (fun _ c=>?_)<|fun _ c=>?_
  refine Au<|bl ?_
  refine Ao fun _ bm=>A0<|Am 2 J<|A0<|AN (fun m a al=>∃(y:Akh)(u:Int),St 53 [(0,p),(1,iv q),(2,iv x),(3,.func (.func 115) #[] #[]),(8,iv w),(9,iv u)] a∧Bl (wE j) al∧Sp (wE j) al [A5 j (AP [Ab A4 n p v]),Ab A4 n p y]∧Bq ax w q m y u=some r) FU ?_ ?_
  exact fun a ha=>⟨l5,w,ha.sb J,av,aw.sel [0,1] J,c⟩
  rintro ab a al ⟨y,u,ha,bn,bo,c⟩ cs bp
  refine BC ?_ ha
  cases ab with
  | zero=>exact Be c
  | succ ab =>
   obtain ⟨ct,az⟩:∃ k,k=Bq ax w q ab:=⟨_,rfl⟩
   rw [Bq,← az] at c
   refine Ao fun _ bq=>Ao fun br bs=>?_
   obtain ⟨bt,bu,c⟩:=Cb c
   have a0:∀(am:Bool)(ag:Af)(_:bt am=some r)(_:Bl (wE j) ag)(_:Sp (wE j) ag [A5 j (AP [Ab A4 n p v]),Ab A4 n p y]),∀ a,St 53 [(0,p),(1,iv q),(2,iv x),(3,.func (.func 115) #[] #[]),(8,iv w),(9,iv u),(34,.bool am)] a→br a ag:=by
    intro am ag c a1 a2
    subst bu
    refine bs<|A3 J c (fun _ c=>?_)<|fun _ c=>?_
    refine Au<|bq ?_
    refine Ao fun bv bw=>?_
    obtain ⟨bx,bz,c⟩:=Cb c
    have a3:∀(ah:Akh)(ai:Af)(_:bx ah=some r)(_:Bl (wE j) ai)(_:Sp (wE j) ai [A5 j (AP [Ab A4 n p v]),Ab A4 n p ah]),∀ a,St 53 [(0,p),(1,iv q),(2,iv x),(3,.func (.func 115) #[] #[]),(8,iv w),(9,iv u)] a→bv a ai:=by
     intro ah ai c b0 b1
     subst bz
     refine bw<|Aq<|An 3 J ?_
     rw [az] at c
     exact fun a ha=>bp a _ ab (AB ab) ⟨ah,Ah (u-1),ha.sb J,b0,b1.sel [0,1] J,c⟩
    refine A0<|AQ B1 n a1 a2 fun ac _ a4 z=>?_
    have l:=KeepX.refl ac n
    refine Ay 0 J d l<|Ay 1 J d l<|Ay 2 J d l<|Ay 3 J d l<|Ad 4 J d l<|H6 J J J<|Ay 5 J d l<|Ay 6 J d l<|Ad 7 J d l<|H6 J J J<|bB c fun s b2 c=>Ad 8 J d l<|Bx (e:=A4) (i:=1) underlying72 J J J z J b2 ?_
    rintro cu _ rfl a5 cv
    refine Ay 10 J d l<|Ay 11 J d l<|bB c fun t b3 c=>Ad 12 J d l<|Bx (e:=A4) (i:=1) underlying72 J J J z J b3 ?_
    rintro cw _ rfl a6 cx
    refine CA (is:=[9,13]) (by kernel_rfl) J<|Bj.2 ⟨⟨_,rfl,?_⟩,Bj.2 ⟨⟨_,rfl,?_⟩,fun _ h=>by cases h⟩⟩
    refine BZ BJ J a5 J ?_
    refine Ai<|Ar l<|A1 13 J<|BZ BJ J a6 J<|Ai<|Ar l<|bB c fun cy a7 c=>Ad 14 J d l<|Bx (e:=A4) (i:=1) underlying72 J J J z J a7 ?_
    rintro cz _ rfl c0 b4
    refine A1 15 J<|Cf (i:=1) (o:=0) (vs:=[iv s.1,iv s.2.1,iv s.2.2.1,iv s.2.2.2]) (u':=s) C2 BJ J J J J b4 a7 a4 z J J ⟨rfl,rfl,rfl,rfl,trivial⟩ J fun c1 an b5 a8=>?_
    have ao:=l.wr' an.1 an.2.1 (fun _ _ h=>h)
    have b6:∀ b,b<ac.heap.size→b ∈ n→b ∈ n:=fun b hlt hb=>(an.2.2 b hb).elim ((fun _ _ h=>h) b hlt) (fun h=>absurd hlt (AM.2 (Az (Nat.le_refl ac.heap.size) h)))
    refine Ai<|Ar ao<|A1 16 J<|bB c fun c2 a9 c=>Co (e:=A4) (i:=1) underlying72 J J J a8 J a9 ?_
    rintro c3 _ rfl c4 b7
    refine Ai<|Ar ao<|A1 17 J<|Cf (i:=1) (o:=0) (vs:=[iv t.1,iv t.2.1,iv t.2.2.1,iv t.2.2.2]) (u':=t) C2 BJ J J J J b7 a9 b5 a8 J J ⟨rfl,rfl,rfl,rfl,trivial⟩ J fun c5 ba b8 b9=>?_
    have ca:=ao.wr' ba.1 ba.2.1 (b6)
    refine Ai<|Ar ca<|Bc ?_
    exact jx (a3 (BL (BL y u s) (Ah (u-1)) t) _ c b8 (b9.sel [0,1] J)) J
    refine BZ BJ J a6 J ?_
    refine Ai<|Ar l<|A1 9 J<|BZ BJ J a5 J<|Ai<|Ar l<|bB c fun c6 bb c=>Ad 14 J d l<|Bx (e:=A4) (i:=1) underlying72 J J J z J bb ?_
    rintro c7 _ rfl c8 cb
    refine A1 15 J<|Cf (i:=1) (o:=0) (vs:=[iv s.1,iv s.2.1,iv s.2.2.1,iv s.2.2.2]) (u':=s) C2 BJ J J J J cb bb a4 z J J ⟨rfl,rfl,rfl,rfl,trivial⟩ J fun c9 ap cc bc=>?_
    have aq:=l.wr' ap.1 ap.2.1 (fun _ _ h=>h)
    have cd:∀ b,b<ac.heap.size→b ∈ n→b ∈ n:=fun b hlt hb=>(ap.2.2 b hb).elim ((fun _ _ h=>h) b hlt) (fun h=>absurd hlt (AM.2 (Az (Nat.le_refl ac.heap.size) h)))
    refine Ai<|Ar aq<|A1 16 J<|bB c fun da bd c=>Co (e:=A4) (i:=1) underlying72 J J J bc J bd ?_
    rintro db _ rfl dc ce
    refine Ai<|Ar aq<|A1 17 J<|Cf (i:=1) (o:=0) (vs:=[iv t.1,iv t.2.1,iv t.2.2.1,iv t.2.2.2]) (u':=t) C2 BJ J J J J ce bd cc bc J J ⟨rfl,rfl,rfl,rfl,trivial⟩ J fun dd be cf cg=>?_
    have ch:=aq.wr' be.1 be.2.1 (cd)
    refine Ai<|Ar ch<|Bc ?_
    exact jx (a3 (BL (BL y u s) (Ah (u-1)) t) _ c cf (cg.sel [0,1] J)) J
    refine Bb<|bm ?_
    refine Aq<|An 3 J ?_
    rw [ay] at c
    exact fun a ha=>bk a _ m9 (AB m9) ⟨y,Ah (w+1),ha.sb J,a1,a2.sel [0,1] J,c⟩
   refine AQ B1 [] bn bo fun bf _ bg aj=>?_
   have g:=KeepX.refl bf []
   refine Ay 0 J d g<|Ay 1 J d g<|Ad 2 J d g<|Vq J J J<|Ay 3 J d g ?_
   rcases bE (decide (q<u)) with f|f
   replace c:=Bw f c
   refine BQ 4 J d f g<|Dq J J<|BQ 5 J d f g<|Dq J J<|BQ 6 J d f g<|Dq J J<|bB c fun ad ci c=>BQ 7 J d f g<|Bx (e:=A4) (i:=1) underlying72 J J J aj J ci ?_
   rintro de _ rfl cj df
   refine BQ 8 J d f g<|BR BJ J (cj.kx0) J<|BQ 9 J d f g<|Dq J J<|BQ 10 J d f g<|Dq J J<|BQ 11 J d f g<|H6 J J J<|bB c fun ae ck c=>BQ 12 J d f g<|Bx (e:=A4) (i:=1) underlying72 J J J aj J ck ?_
   rintro dg _ rfl cl dh
   refine BQ 13 J d f g<|BR BJ J (cl.kx0) J<|A1 14 J<|wn J f<|bB c fun cm cn c=>R3 (caps:=[]) (vs:=[.agg #[iv ad.1,iv ad.2.1,iv ad.2.2.1,iv ad.2.2.2],.agg #[iv ae.1,iv ae.2.1,iv ae.2.2.1,iv ae.2.2.2]]) J J call115 (Hx bf ad ae _ cn) J ?_
   rintro _ di ⟨rfl,ar⟩
   refine ⟨_,rfl,?_⟩
   have co:=tm bg ar
   have cp:=aj.below ar
   have au:=g.ext ar
   refine Ai<|Ar au<|BQ 15 J d f au<|MB J J J<|Ad 16 J d au<|EK J J f J<|Bc ?_
   exact jx (a0 (decide (cm<0)) _ c co (cp.sel [0,1] J)) J
   replace c:=BI f c
   refine Bh 4 J d f g<|Bh 5 J d f g<|Bh 6 J d f g<|Bh 7 J d f g<|Bh 8 J d f g<|Bh 9 J d f g<|Bh 10 J d f g<|Bh 11 J d f g<|Bh 12 J d f g<|Bh 13 J d f g<|Bh 14 J d f g<|Bh 15 J d f g<|Ad 16 J d g<|GI J J f J<|Bc ?_
   exact jx (a0 false _ c bg (aj.sel [0,1] J)) J
  refine Bb ?_
  obtain rfl:=Option.some.inj c
  exact Nw (vs:=[]) hQn J trivial ⟨rfl,av,aw.sel [0,1] J⟩
theorem Dj(g:Af)(s:Akh)(l:Ac)(j:Ap)(t u v:Int)(ay:Sep 0 g [Ab A4 j l s])(r:Akh)(c:BE s t u v=some r) :
  A2 253 [l,iv t,iv u,iv v,.func (.func 115) #[] #[]] g fun e w'=>e=.returned (.tuple #[])∧Below 0 (wE g) w'∧Sep 0 w' [A5 g (AP [Ab A4 j l s]),Ab A4 j l r]:=by
 refine Jr func253 J ntmps253 J J fun Q hQn hQ f=>?_
 have hB:Bl (wE g) g:=Dp g
 have hS:Sp (wE g) g [A5 g (AP [Ab A4 j l s]),Ab A4 j l s]:=ay.rest
 unfold BE at c
 refine Am 1 J<|A0<|AN (fun m a w2=>∃(x:Akh)(q:Int),St 38 [(0,l),(1,iv t),(2,iv u),(3,iv v),(10,iv q)] a∧Bl (wE g) w2∧Sp (wE g) w2 [A5 g (AP [Ab A4 j l s]),Ab A4 j l x]∧Bz v u t m x q=some r) FU ?_ ?_
 exact fun a ha=>⟨s,0,ha.sb J,hB,hS.sel [0,1] J,c⟩
 rintro y a w2 ⟨x,q,ha,ah,ai,c⟩ bq a1
 refine BC ?_ ha
 cases y with
 | zero=>exact Be c
 | succ y =>
  obtain ⟨br,aj⟩:∃ k,k=Bz v u t y:=⟨_,rfl⟩
  rw [Bz,← aj] at c
  refine Ao fun _ a2=>Am 3 J<|A3 J c (fun _ c=>?_)<|fun _ c=>?_
  refine Au<|a2 ?_
  refine Ao fun a3 a4=>?_
  obtain ⟨a5,a6,c⟩:=Cb c
  have ak:∀(aa:Akh)(ab:Af)(_:a5 aa=some r)(_:Bl (wE g) ab)(_:Sp (wE g) ab [A5 g (AP [Ab A4 j l s]),Ab A4 j l aa]),∀ a,St 38 [(0,l),(1,iv t),(2,iv u),(3,iv v),(10,iv q)] a→a3 a ab:=by
   intro aa ab c a7 a8
   subst a6
   refine a4<|Aq<|An 3 J ?_
   rw [aj] at c
   exact fun a ha=>a1 a _ y (AB y) ⟨aa,Ah (q+1),ha.sb J,a7,a8.sel [0,1] J,c⟩
  refine A0<|AQ B1 j ah ai fun z _ al w=>?_
  have d:=KeepX.refl z j
  refine Ay 0 J f d<|Ay 1 J f d<|Ay 2 J f d<|Ad 3 J f d<|Fj J J J<|Ay 4 J f d<|Ay 5 J f d<|Ay 6 J f d<|Ad 7 J f d<|Fj J J J<|Ay 8 J f d<|Ay 9 J f d<|Ay 10 J f d<|Ad 11 J f d<|Fj J J J<|bB c fun n a9 c=>Ad 12 J f d<|Bx (e:=A4) (i:=1) underlying72 J J J w J a9 ?_
  rintro bs _ rfl am bt
  refine Ay 14 J f d<|Ay 15 J f d<|Ay 16 J f d<|Ad 17 J f d<|Fj J J J<|bB c fun p ba c=>Ad 18 J f d<|Bx (e:=A4) (i:=1) underlying72 J J J w J ba ?_
  rintro bu _ rfl an bv
  refine CA (is:=[13,19]) (by kernel_rfl) J<|Bj.2 ⟨⟨_,rfl,?_⟩,Bj.2 ⟨⟨_,rfl,?_⟩,fun _ h=>by cases h⟩⟩
  refine BZ BJ J am J ?_
  refine Ai<|Ar d<|A1 19 J<|BZ BJ J an J<|Ai<|Ar d<|bB c fun bw ao c=>Ad 20 J f d<|Bx (e:=A4) (i:=1) underlying72 J J J w J ao ?_
  rintro bx _ rfl bz bb
  refine A1 21 J<|Cf (i:=1) (o:=0) (vs:=[iv n.1,iv n.2.1,iv n.2.2.1,iv n.2.2.2]) (u':=n) C2 BJ J J J J bb ao al w J J ⟨rfl,rfl,rfl,rfl,trivial⟩ J fun b0 ad bc ap=>?_
  have ae:=d.wr' ad.1 ad.2.1 (fun _ _ h=>h)
  have bd:∀ b,b<z.heap.size→b ∈ j→b ∈ j:=fun b hlt hb=>(ad.2.2 b hb).elim ((fun _ _ h=>h) b hlt) (fun h=>absurd hlt (AM.2 (Az (Nat.le_refl z.heap.size) h)))
  refine Ai<|Ar ae<|A1 22 J<|bB c fun b1 aq c=>Co (e:=A4) (i:=1) underlying72 J J J ap J aq ?_
  rintro b2 _ rfl b3 be
  refine Ai<|Ar ae<|A1 23 J<|Cf (i:=1) (o:=0) (vs:=[iv p.1,iv p.2.1,iv p.2.2.1,iv p.2.2.2]) (u':=p) C2 BJ J J J J be aq bc ap J J ⟨rfl,rfl,rfl,rfl,trivial⟩ J fun b4 ar bf bg=>?_
  have bh:=ae.wr' ar.1 ar.2.1 (bd)
  refine Ai<|Ar bh<|Bc ?_
  exact jx (ak (BL (BL x (Ah (t+q)) n) (Ah (u+q)) p) _ c bf (bg.sel [0,1] J)) J
  refine BZ BJ J an J ?_
  refine Ai<|Ar d<|A1 13 J<|BZ BJ J am J<|Ai<|Ar d<|bB c fun b5 au c=>Ad 20 J f d<|Bx (e:=A4) (i:=1) underlying72 J J J w J au ?_
  rintro b6 _ rfl b7 bi
  refine A1 21 J<|Cf (i:=1) (o:=0) (vs:=[iv n.1,iv n.2.1,iv n.2.2.1,iv n.2.2.2]) (u':=n) C2 BJ J J J J bi au al w J J ⟨rfl,rfl,rfl,rfl,trivial⟩ J fun b8 af bj av=>?_
  have ag:=d.wr' af.1 af.2.1 (fun _ _ h=>h)
  have bk:∀ b,b<z.heap.size→b ∈ j→b ∈ j:=fun b hlt hb=>(af.2.2 b hb).elim ((fun _ _ h=>h) b hlt) (fun h=>absurd hlt (AM.2 (Az (Nat.le_refl z.heap.size) h)))
  refine Ai<|Ar ag<|A1 22 J<|bB c fun b9 aw c=>Co (e:=A4) (i:=1) underlying72 J J J av J aw ?_
  rintro ca _ rfl cb bl
  refine Ai<|Ar ag<|A1 23 J<|Cf (i:=1) (o:=0) (vs:=[iv p.1,iv p.2.1,iv p.2.2.1,iv p.2.2.2]) (u':=p) C2 BJ J J J J bl aw bj av J J ⟨rfl,rfl,rfl,rfl,trivial⟩ J fun cc ax bm bn=>?_
  have bo:=ag.wr' ax.1 ax.2.1 (bk)
  refine Ai<|Ar bo<|Bc ?_
  exact jx (ak (BL (BL x (Ah (t+q)) n) (Ah (u+q)) p) _ c bm (bn.sel [0,1] J)) J
  refine Bb ?_
  obtain rfl:=Option.some.inj c
  exact Nw (vs:=[]) hQn J trivial ⟨rfl,ah,ai.sel [0,1] J⟩
theorem HT(f:Af)(j:Akh)(b:Ac)(c:Ap)(u g v:Int)(ac:Sep 0 f [Ab A4 c b j])(r:Akh)(d:BV j u g v=some r) :
  A2 235 [b,iv u,iv g,iv v,.func (.func 115) #[] #[]] f fun e w'=>e=.returned (.tuple #[])∧Below 0 (wE f) w'∧Sep 0 w' [A5 f (AP [Ab A4 c b j]),Ab A4 c b r]:=by
 refine Jr func235 J ntmps235 J J fun Q hQn hQ hP=>?_
 have hB:Bl (wE f) f:=Dp f
 have hS:Sp (wE f) f [A5 f (AP [Ab A4 c b j]),Ab A4 c b j]:=ac.rest
 unfold BV at d
 refine Am 4 J<|Am 4 J<|Ao fun _ af=>A0<|AN (fun m a p=>∃(h:Akh)(i n:Int),St 58 [(0,b),(2,iv g),(4,.func (.func 115) #[] #[]),(10,iv i),(11,iv n)] a∧Bl (wE f) p∧Sp (wE f) p [A5 f (AP [Ab A4 c b j]),Ab A4 c b h]∧B6 g m h i n=some r) FU ?_ ?_
 exact fun a ha=>⟨j,Ah (g-u),Ah (v-g),ha.sb J,hB,hS.sel [0,1] J,d⟩
 rintro o a p ⟨h,i,n,ha,q,l,d⟩ a2 y
 refine BC ?_ ha
 cases o with
 | zero=>exact Be d
 | succ o =>
  obtain ⟨a3,w⟩:∃ k,k=B6 g o:=⟨_,rfl⟩
  rw [B6,← w] at d
  refine Ao fun _ ag=>Am 3 J<|A3 J d (fun _ d=>?_)<|fun _ d=>?_
  refine Au<|ag ?_
  refine A0<|Am 3 J<|A3 J d (fun _ d=>?_)<|fun _ d=>?_
  refine Al fun _ ah=>?_
  refine wp 7 J<|bB d fun s ai d=>A7 J call253 (Dj p h b c (Ah (g-i)) g n (l.sel [1] J).base0 _ ai) J ?_
  rintro _ aj ⟨rfl,ak,z⟩
  refine ⟨_,rfl,?_⟩
  have al:=l.mutB [1] J (M:=[Ab A4 c b h]) J (M':=[Ab A4 c b s]) J q q.size ak z
  have am:Sp (wE f) aj [Ab A4 c b s,A5 f (AP [Ab A4 c b j])]:=l.mut [1] [0] J (M:=[Ab A4 c b h]) J (M':=[Ab A4 c b s]) J z
  refine Ai<|ah<|Aq<|An 4 J ?_
  rw [w] at d
  exact fun a ha=>y a _ o (AB o) ⟨s,Ah (i-n),n,ha.sb J,al,am.sel [1,0] J,d⟩
  refine Al fun _ an=>?_
  refine wp 11 J<|bB d fun t ao d=>A7 J call253 (Dj p h b c (Ah (g-i)) (Ah ((Ah (g+n))-i)) i (l.sel [1] J).base0 _ ao) J ?_
  rintro _ ap ⟨rfl,aq,aa⟩
  refine ⟨_,rfl,?_⟩
  have ar:=l.mutB [1] J (M:=[Ab A4 c b h]) J (M':=[Ab A4 c b t]) J q q.size aq aa
  have au:Sp (wE f) ap [Ab A4 c b t,A5 f (AP [Ab A4 c b j])]:=l.mut [1] [0] J (M:=[Ab A4 c b h]) J (M':=[Ab A4 c b t]) J aa
  refine Ai<|an<|Aq<|An 4 J ?_
  rw [w] at d
  exact fun a ha=>y a _ o (AB o) ⟨t,i,Ah (n-i),ha.sb J,ar,au.sel [1,0] J,d⟩
  refine Bb<|af ?_
  refine Aq<|wp 7 J<|bB d fun x av d=>A7 J call253 (Dj p h b c (Ah (g-i)) g i (l.sel [1] J).base0 _ av) J ?_
  rintro _ aw ⟨rfl,ax,ab⟩
  refine ⟨_,rfl,?_⟩
  have ay:=l.mutB [1] J (M:=[Ab A4 c b h]) J (M':=[Ab A4 c b x]) J q q.size ax ab
  have az:Sp (wE f) aw [Ab A4 c b x,A5 f (AP [Ab A4 c b j])]:=l.mut [1] [0] J (M:=[Ab A4 c b h]) J (M':=[Ab A4 c b x]) J ab
  refine Ai ?_
  obtain rfl:=Option.some.inj d
  exact Nw (vs:=[]) hQn J trivial ⟨rfl,ay,az.sel [1,0] J⟩
end Go.Proofs.YtellehgihceicaaGreatDoor
