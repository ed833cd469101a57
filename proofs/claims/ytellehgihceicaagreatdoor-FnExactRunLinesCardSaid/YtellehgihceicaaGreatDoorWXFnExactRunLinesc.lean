/-
  THE WALKS of functions of this seat, by program (gen.py, prune.py).
-/
import Derived.Test.YtellehgihceicaaGreatDoorWXFnExactRunLinesa
set_option linter.unusedVariables false
set_option linter.unusedSimpArgs false
set_option maxRecDepth 100000
set_option maxHeartbeats 1600000
namespace Go.Proofs.YtellehgihceicaaGreatDoor
open Go Go.RowKit
theorem TC (d:Ae) (g:(List Int)) (h:Ac) (l:RO Ar d h g) (f:Int) (r:Bool) (b:Jt g f = some r) :
  A1 195 [h,(iv f)] d fun e w'=>e = .returned (.bool r) ∧ Bl d w':=by
 refine cm Tryz.func195 Tryz.ntmps195 rfl fun Q t hP z hS=>?_
 unfold Jt at b
 refine An 1 rfl (Ap fun _ ab=>(Ak fun _ ac=>(wp 1 rfl (BX l Tryz.underlying36 rfl (Aq 1 rfl (ac (A0 (AU (fun m a n=>∃ (i:Int),St 31 [(0,h),(1,(iv f)),(7,h),(8,(iv (List.length g:Int))),(9,(iv i))] a ∧ Bl d n ∧ Sp d n [] ∧ E9 g f m i = some r) FU ?_ ?_))))))))
 ·exact fun a ha=>⟨0,ha.sb rfl,z,(hS.sel [] rfl),b⟩
 ·rintro j a n ⟨i,ha,p,ad,b⟩ a4 ae
  refine BE ?_ ha
  cases j with
  | zero=>exact Bg b
  | succ j =>
   obtain ⟨a5,u⟩:∃ k,k = E9 g f j:=⟨_,rfl⟩
   rw [E9,← u] at b
   refine An 1 rfl (Ap fun _ af=>(A3 rfl b (fun _ b=>?_) (fun _ b=>?_)))
   ·refine Au (af ?_)
    refine Ap fun _ ag=>A0 (Ak fun _ ah=>(wp 1 rfl (bB b fun v ai b=>(BP (e:=Ar) Tryz.underlying36 rfl rfl rfl l ai ?_))))
    rintro a6 _ rfl aj
    refine BZ A4 rfl (aj.ro p) rfl (Aq 2 rfl (ah (Ap fun ak al=>?_)))
    obtain ⟨am,an,b⟩:=Cj b
    have w:∀ (q:Bool) (o:Ae) (_:am q = some r) (_:Bl d o) (_:Sp d o []),∀ a,St 31 [(0,h),(1,(iv f)),(7,h),(8,(iv (List.length g:Int))),(9,(iv i)),(25,(.bool q))] a → ak a o:=by
     intro q o b x ao
     subst an
     refine al (A3 rfl b (fun _ b=>?_) (fun _ b=>?_))
     ·refine An 1 rfl ?_
      refine Ay (rt t rfl rfl (by cases b; exact ⟨rfl,x⟩))
     ·refine Au (ag ?_)
      refine As (Aq 2 rfl ?_)
      rw [u] at b
      exact fun a ha=>ae a _ j (AB j) ⟨(Ag (i + 1)),ha.sb rfl,x,(ao.sel [] rfl),b⟩
    refine As (wp 3 rfl (bB b fun ap aq b=>(Bu rfl Tryz.call77 p ad (Cd n v 0 (Ag (f - 1)) _ aq) rfl fun ar _ s y=>(wp 2 rfl ?_))))
    rcases bE (!ap) with c | c
    ·replace b:=BA c b
     refine wo rfl c (wo rfl c (wo rfl c (wo rfl c (wo rfl c (AA rfl rfl c rfl (Ah ?_))))))
     exact jx (w true _ b s (y.sel [] rfl)) rfl
    ·replace b:=Cf c b
     refine wn rfl c (wp 1 rfl (wn rfl c (wp 1 rfl (wn rfl c (bB b fun au av b=>(PB (e:=Ar) Tryz.underlying36 rfl rfl l av (.inl ⟨rfl,rfl⟩) (.inr ⟨_,_,rfl,rfl⟩) fun aw ax=>(wn rfl c (wp 1 rfl (wn rfl c (bB b fun ay az b=>(Bu rfl Tryz.call226 s y (Xe ar au aw (ax.ro s) v _ az) rfl fun a7 _ a0 a1=>(A9 rfl rfl c rfl (Ah ?_)))))))))))))
     exact jx (w ay _ b a0 (a1.sel [] rfl)) rfl
   ·refine Bd (ab ?_)
    refine Ak fun _ a2=>wp 1 rfl (BX l Tryz.underlying36 rfl (Aq 3 rfl (a2 (Ay (rt t rfl rfl (by cases b; exact ⟨rfl,p⟩))))))
theorem Nl (g:Ae) (f:(Ae1 × Ae1 × Int × (List Int))) (j:Ac) (t:RO Ao g j f.1) (k:Ac) (v:RO Ao g k f.2.1) (l:Ac) (w:RO Ar g l f.2.2.2) (r:Bool) (b:HX f = some r) :
  A1 144 [(.agg #[j,k,(iv f.2.2.1),l])] g fun e w'=>e = .returned (.bool r) ∧ Bl g w':=by
 refine cm Tryz.func144 Tryz.ntmps144 rfl fun Q x hP y z=>?_
 unfold HX at b
 refine Ak fun _ aa=>CK rfl y z fun b2 w3 _ m n=>Aq 1 rfl (aa (Ap fun K7 ad=>?_))
 obtain ⟨ae,af,b⟩:=Cj b
 have o:∀ (p:Bool) (h:Ae) (_:ae p = some r) (_:Bl g h) (_:Sp g h []),∀ a,St 21 [(2,(.bool p))] a → K7 a h:=by
  intro p h b ag av
  subst af
  refine ad (Ay (rt x rfl rfl (by cases b; exact ⟨rfl,ag⟩)))
 refine As (Bp E0 rfl (AO 0 Cm rfl n rfl rfl (Bp KR rfl (AO 0 Cm rfl n rfl rfl (bB b fun ah ai b=>(Bu rfl Tryz.call192 m n (Qq w3 f.1 j (t.ro m) f.2.1 k (v.ro m) _ ai) rfl fun aj _ u q=>(wp 1 rfl ?_)))))))
 rcases bE ah with d | d
 ·replace b:=BA d b
  refine wn rfl d (Bp KQ rfl (wn rfl d (AO 0 A4 rfl q rfl rfl (wn rfl d (bB b fun ak al b=>(Bu rfl Tryz.call77 u q (Cd aj f.2.2.1 1 64 _ al) rfl fun am _ s i=>(AA rfl rfl d rfl (wp 1 rfl ?_))))))))
  rcases bE ak with c | c
  ·replace b:=BA c b
   refine wn rfl c (Bp Gu rfl (wn rfl c (AO 0 Fu rfl i rfl rfl (wn rfl c (Bp E0 rfl (wn rfl c (AO 0 Cm rfl i rfl rfl (wn rfl c (BX t Tryz.underlying26 rfl (wn rfl c (bB b fun an ao b=>(Bu rfl Tryz.call195 s i (TC am f.2.2.2 l (w.ro s) (List.length f.1:Int) _ ao) rfl fun aw _ ap aq=>(AA rfl rfl c rfl (Aq 1 rfl ?_))))))))))))))
   exact jx (o an _ b ap (aq.sel [] rfl)) rfl
  ·replace b:=Cf c b
   refine wo rfl c (wo rfl c (wo rfl c (wo rfl c (wo rfl c (wo rfl c (A9 rfl rfl c rfl (Aq 1 rfl ?_)))))))
   exact jx (o false _ b s (i.sel [] rfl)) rfl
 ·replace b:=Cf d b
  refine wo rfl d (wo rfl d (wo rfl d (A9 rfl rfl d rfl (wp 1 rfl (wo rfl rfl (wo rfl rfl (wo rfl rfl (wo rfl rfl (wo rfl rfl (wo rfl rfl (A9 rfl rfl rfl rfl (Aq 1 rfl ?_))))))))))))
  exact jx (o false _ b u (q.sel [] rfl)) rfl
theorem Lk (q:Ae) (g:(Ae1 × Ae1 × Int × (List Int))) (z:Ac) (ap:RO Ao q z g.1) (aa:Ac) (aq:RO Ao q aa g.2.1) (v:Ac) (af:RO Ar q v g.2.2.2) (r:(List Ae3)) (c:GA g = some r) :
  A1 196 [(.agg #[z,aa,(iv g.2.2.1),v])] q fun e w'=>∃ (q0:Ac) (G0:Al),e = .returned q0 ∧ Bl q w' ∧ Sp q w' [Ab C4 G0 q0 r]:=by
 refine cm Tryz.func196 Tryz.ntmps196 rfl fun Q hQ d hB hS=>?_
 unfold GA at c
 refine Ak fun _ ax=>CK rfl hB hS fun s w3 _ ay ah=>Aq 1 rfl (ax (An 1 rfl (Ap fun _ az=>(Ak fun _ a0=>(Bp Gu rfl (AO 0 Fu rfl ah rfl rfl (BX af Tryz.underlying36 rfl (Aq 1 rfl (a0 (A0 (AU (fun m a ab=>∃ (ac:(List Ae3)) (w:Int) (x:Ac) (t:Al),St 32 [(1,(.pointer (some ⟨s,0,none⟩))),(3,x),(7,v),(8,(iv (List.length g.2.2.2:Int))),(9,(iv w))] a ∧ Bl q ab ∧ Sp q ab [A5 s 128 [z,aa,(iv g.2.2.1),v],Ab C4 t x ac] ∧ Ff g m ac w = some r) FU ?_ ?_)))))))))))
 ·have a1:=ah.push0 (r:=Ab C4 [] (.slice none 0 0) []) rfl fun _=>.inl ⟨rfl,rfl,rfl⟩
  exact fun a ha=>⟨[],0,(.slice none 0 0),[],ha.sb rfl,ay,(a1.sel [1,0] rfl),c⟩
 ·rintro u a ab ⟨ac,w,x,t,ha,ad,ai,c⟩ bm a2
  refine BE ?_ ha
  cases u with
  | zero=>exact Bg c
  | succ u =>
   obtain ⟨bn,aj⟩:∃ k,k = Ff g u:=⟨_,rfl⟩
   rw [Ff,← aj] at c
   refine An 1 rfl (Ap fun _ a3=>(A3 rfl c (fun _ c=>?_) (fun _ c=>?_)))
   ·refine Au (a3 ?_)
    refine Ap fun _ a4=>A0 (Ak fun _ a5=>(wp 1 rfl (bB c fun bo a6 c=>(BP (e:=Ar) Tryz.underlying36 rfl rfl rfl af a6 ?_))))
    rintro bp _ rfl a7
    refine BZ A4 rfl (a7.ro ad) rfl (Aq 2 rfl (a5 (AQ B4 t ad ai fun ak _ y n=>?_)))
    have f:=KeepX.refl ak t
    refine Ax 0 rfl d f (Ad 1 rfl d f (C9 E0 rfl (Ad 2 rfl d f (CQ 0 Cm rfl n rfl (n.disj (i:=0) (j:=1) rfl rfl rfl s (by simp [A5])) (Ax 3 rfl d f (bB c fun o a8 c=>(Ad 4 rfl d f (BB (e:=Ao) Tryz.underlying26 rfl rfl rfl ap a8 ?_))))))))
    rintro bq _ rfl a9
    refine Ad 5 rfl d f (BL Bs rfl (a9.kx y (fun b hb=>(((n.get (i:=1) rfl).2.1 b hb).1))) rfl (Ad 6 rfl d f (C9 KR rfl (Ad 7 rfl d f (CQ 0 Cm rfl n rfl (n.disj (i:=0) (j:=1) rfl rfl rfl s (by simp [A5])) (Ax 8 rfl d f (bB c fun p ba c=>(Ad 9 rfl d f (BB (e:=Ao) Tryz.underlying26 rfl rfl rfl aq ba ?_)))))))))
    rintro br _ rfl bb
    refine Ad 10 rfl d f (BL Bs rfl (bb.kx y (fun b hb=>(((n.get (i:=1) rfl).2.1 b hb).1))) rfl (Ad 11 rfl d f (C9 KQ rfl (Ad 12 rfl d f (CQ 0 A4 rfl n rfl (n.disj (i:=0) (j:=1) rfl rfl rfl s (by simp [A5])) (Ad 13 rfl d f (HR (zs:=[(iv 0),(iv 0),(iv 0),(iv 0),(iv 0)]) (out:=[(iv o.1),(iv o.2),(iv p.1),(iv p.2),(iv g.2.2.1)]) (vs:=[(.agg #[(iv o.1),(iv o.2)]),(.agg #[(iv p.1),(iv p.2)]),(iv g.2.2.1)]) (css:=[[(iv o.1),(iv o.2)],[(iv p.1),(iv p.2)],[(iv g.2.2.1)]]) Cz Zd rfl rfl rfl rfl rfl (Av 14 rfl (Bc (vs:=[(.agg #[(iv o.1),(iv o.2),(iv p.1),(iv p.2),(iv g.2.2.1)])]) (l:=[(o,p,g.2.2.1)]) QX Tryz.underlying184 rfl rfl rfl rfl rfl rfl (Bf ak) (Sep.nil _ _) fun bs bt bc ae _ bd=>?_)))))))))
    have be:=tm y ae
    have al:=n.join ae bd y.size
    have am:=f.ext ae
    refine Ah (Am am (Av 15 rfl (bB c fun bf bg c=>(AF (i:=2) (S:=(· < bc.heap.size)) QX Tryz.underlying184 rfl rfl rfl be al rfl (al.own_ro (i:=0) rfl) bg fun bh bi bu an bj bk=>?_))))
    have ao:=am.wr' an.1 an.2.1 (fun _ _ h=>h)
    refine Ah (Am ao (Ad 16 rfl d ao (AC rfl rfl (Ba (a4 (As (Aq 2 rfl ?_)))))))
    rw [aj] at c
    exact fun a ha=>a2 a _ u (AB u) ⟨bf,(Ag (w + 1)),bh,bi,ha.sb rfl,bj,(bk.sel [1,2] rfl),c⟩
   ·refine Bd (az ?_)
    refine An 2 rfl (Ay (rt hQ rfl rfl (by cases c; exact ⟨x,t,rfl,ad,ai.sel [1] rfl⟩)))
theorem Xi (c:Ae) (d:(Ae1 × Ae1 × Int × (List Int))) (n:Ac) (aa:RO Ao c n d.1) (o:Ac) (ab:RO Ao c o d.2.1) (p:Ac) (ac:RO Ar c p d.2.2.2) (r:Int) (b:KW d = some r) :
  A1 145 [(.agg #[n,o,(iv d.2.2.1),p])] c fun e w'=>e = .returned (iv r) ∧ Bl c w':=by
 refine cm Tryz.func145 Tryz.ntmps145 rfl fun Q hQ hP hB hS=>?_
 unfold KW at b
 refine Ak fun _ ag=>CK rfl hB hS fun b2 w3 _ g t=>Aq 1 rfl (ag (An 1 rfl (Ap fun _ ai=>(Ak fun _ aj=>(AO 0 Bo rfl t rfl rfl (bB b fun h ak b=>(E6 rfl Tryz.call196 g t (Lk w3 d n (aa.ro g) o (ab.ro g) p (ac.ro g) _ ak) rfl fun u al a5 _ _ am v=>(BX (v.own_ro (i:=0) rfl) Tryz.underlying184 rfl (Aq 1 rfl (aj (A0 (AU (fun m a q=>∃ (j:Int) (l:Int),St 22 [(3,(iv j)),(7,u),(8,(iv (List.length h:Int))),(9,(iv l))] a ∧ Bl c q ∧ Sp c q [Ab C4 al u h] ∧ Gb h m j l = some r) FU ?_ ?_))))))))))))
 ·exact fun a ha=>⟨0,0,ha.sb rfl,am,(v.sel [0] rfl),b⟩
 ·rintro f a q ⟨j,l,ha,w,x,b⟩ a6 an
  refine BE ?_ ha
  cases f with
  | zero=>exact Bg b
  | succ f =>
   obtain ⟨a7,y⟩:∃ k,k = Gb h f:=⟨_,rfl⟩
   rw [Gb,← y] at b
   refine An 1 rfl (Ap fun _ ao=>(A3 rfl b (fun _ b=>?_) (fun _ b=>?_)))
   ·refine Au (ao ?_)
    refine Ap fun _ ap=>A0 (Ak fun _ aq=>(bB b fun z ar b=>(Cw (e:=C4) (i:=0) Tryz.underlying184 rfl rfl rfl x rfl ar ?_)))
    rintro a8 _ rfl au a9
    refine BZ Cz rfl au rfl (Ei Cz rfl w x fun ba bb _ av aw=>(Gj 0 Cz rfl rfl av aw rfl rfl rfl fun ax _ ay s=>(Ah (aq (As (wp 1 rfl (Bp Fz rfl (AO 0 Bs rfl s rfl rfl (Bp Gt rfl (AO 0 Bs rfl s rfl rfl (bB b fun az a0 b=>(Bu rfl Tryz.call194 ay s (KG ax z.1 z.2.1 _ a0) rfl fun bc _ a1 a2=>(Aq 2 rfl (ap (As (Aq 2 rfl ?_))))))))))))))))
    rw [y] at b
    exact fun a ha=>an a _ f (AB f) ⟨(Ag (j + az)),(Ag (l + 1)),ha.sb rfl,a1,(a2.sel [1] rfl),b⟩
   ·refine Bd (ai ?_)
    refine An 2 rfl (Ay (rt hQ rfl rfl (by cases b; exact ⟨rfl,w⟩)))
theorem S6 (c:Ae) (b:(Ae1 × Ae1 × Int × (List Int))) (f:Ac) (j:RO Ao c f b.1) (g:Ac) (k:RO Ao c g b.2.1) (h:Ac) (l:RO Ar c h b.2.2.2) (r:(Int × Bool)) (a:Hx b = some r) :
  A1 98 [(.agg #[f,g,(iv b.2.2.1),h])] c fun e w'=>e = .returned (.tuple #[(iv r.1),(.bool r.2)]) ∧ Bl c w':=by
 refine cm Tryz.func98 Tryz.ntmps98 rfl fun Q m hP o p=>?_
 unfold Hx at a
 refine Ak fun _ q=>CK rfl o p fun b2 s _ i n=>Aq 2 rfl (q (Ap fun _ t=>(Ak fun _ u=>(AO 0 Bo rfl n rfl rfl (bB a fun u9 v a=>(Bu rfl Tryz.call144 i n (Nl s b f (j.ro i) g (k.ro i) h (l.ro i) _ v) rfl fun w _ d x=>(Aq 1 rfl (u (A3 rfl a (fun _ a=>?_) (fun _ a=>?_))))))))))
 ·refine An 2 rfl ?_
  refine Ay (rt m rfl rfl (by cases a; exact ⟨rfl,d⟩))
 ·refine Au (t ?_)
  refine Ak fun _ y=>AO 0 Bo rfl x rfl rfl (bB a fun af z a=>(A7 rfl Tryz.call145 (Xi w b f (j.ro d) g (k.ro d) h (l.ro d) _ z) rfl ?_))
  rintro _ ag ⟨rfl,aa⟩
  refine ⟨_,rfl,?_⟩
  have ab:=tm d aa
  refine Aq 2 rfl (y (Ay (rt m rfl rfl (by cases a; exact ⟨rfl,ab⟩))))
theorem VD:∀ (m:Nat) (g:Ae) (c:Int) (r:(List Ai)) (b:FN m c = some r),
  A1 69 [(iv c)] g fun e w'=>e = .returned (.string (B1 r)) ∧ Bl g w':=by
 intro m
 induction m with
 | zero =>
  intro g c r b
  simp [FN] at b
 | succ m ih =>
  intro g c r b
  refine cm Tryz.func69 Tryz.ntmps69 rfl fun Q y d z hS=>?_
  rw [FN] at b
  refine An 1 rfl (Ap fun _ ai=>(An 2 rfl (A3 rfl b (fun _ b=>?_) (fun _ b=>?_))))
  ·refine Ak fun _ aj=>?_
   refine wp 2 rfl (DU Tryz.underlying3 Tryz.underlying5 rfl rfl (Bc (vs:=[(.int .u8 (Mv (Ag (48 + c))))]) (l:=[(Mv (Ag (48 + c)))]) PV Tryz.underlying46 rfl rfl rfl rfl rfl rfl z hS fun v6 F7 w8 _ ak al=>(PC PV Tryz.underlying46 Tryz.underlying5 Tryz.underlying9 rfl rfl rfl (al.own_ro (i:=0) rfl) (Aq 1 rfl (aj (Ay (rt y rfl rfl (by cases b; exact ⟨rfl,ak⟩))))))))
  ·refine Au (ai ?_)
   refine Ap fun am an=>?_
   obtain ⟨ao,ap,b⟩:=Cj b
   have p:∀ (q:(List Ai)) (j:Ae) (_:ao q = some r) (_:Bl g j) (_:Sp g j []),∀ a,St 20 [(2,(.string (B1 q)))] a → am a j:=by
    intro q j b aq bg
    subst ap
    refine an (Ay (rt y rfl rfl (by cases b; exact ⟨rfl,aq⟩)))
   refine AQ B4 [] z hS fun s _ t ab=>?_
   have f:=KeepX.refl s []
   refine Ax 0 rfl d f (Ad 1 rfl d f (LX rfl rfl rfl (by decide) (Ax 3 rfl d f (Ad 4 rfl d f (Te rfl rfl rfl (by decide) (Ad 5 rfl d f (E7 rfl rfl rfl (Ad 6 rfl d f (PJ Tryz.underlying3 Tryz.underlying5 rfl rfl (C0 (is:=[2,7]) (by kernel_rfl) rfl (Bb.2 ⟨⟨_,rfl,?_⟩,Bb.2 ⟨⟨_,rfl,?_⟩,fun _ h=>by cases h⟩⟩)))))))))))
   ·refine bB b fun bh ar b=>?_
    refine Bu rfl Tryz.call69 t ab (ih s (Ag (Int.tdiv c 10)) _ ar) rfl fun au av ac aw=>?_
    have ad:=f.ext av
    refine Ah (Am ad (Av 7 rfl (Bc (vs:=[(.int .u8 (Mv (Ag (48 + (Int.tmod c 10)))))]) (l:=[(Mv (Ag (48 + (Int.tmod c 10))))]) PV Tryz.underlying46 rfl rfl rfl rfl rfl rfl (Bf au) (Sep.nil _ _) fun bi bj bk u _ ax=>?_)))
    have ay:=tm ac u
    have ae:=aw.join u ax ac.size
    have k:=ad.ext u
    refine Ah (Am k (Av 8 rfl (PC PV Tryz.underlying46 Tryz.underlying5 Tryz.underlying9 rfl rfl rfl (ae.own_ro (i:=0) rfl) (Ah (Am k (bB b fun az a0 b=>(Ad 9 rfl d k (ER rfl rfl rfl a0 (Ad 10 rfl d k (AC rfl rfl (Ba ?_)))))))))))
    exact jx (p az _ b ay (ae.sel [] rfl)) rfl
   ·refine Bc (vs:=[(.int .u8 (Mv (Ag (48 + (Int.tmod c 10)))))]) (l:=[(Mv (Ag (48 + (Int.tmod c 10))))]) PV Tryz.underlying46 rfl rfl rfl rfl rfl rfl (Bf s) (Sep.nil _ _) fun bl bm af v _ a1=>?_
    have ag:=tm t v
    have w:=ab.join v a1 t.size
    have n:=f.ext v
    refine Ah (Am n (C0 (is:=[2,8]) (by kernel_rfl) rfl (Bb.2 ⟨⟨_,rfl,?_⟩,Bb.2 ⟨⟨_,rfl,?_⟩,fun _ h=>by cases h⟩⟩)))
    ·refine bB b fun bn a2 b=>?_
     refine Bu rfl Tryz.call69 ag w (ih af (Ag (Int.tdiv c 10)) _ a2) rfl fun bo a3 a4 ah=>?_
     have o:=n.ext a3
     refine Ah (Am o (Av 8 rfl (PC PV Tryz.underlying46 Tryz.underlying5 Tryz.underlying9 rfl rfl rfl (ah.own_ro (i:=0) rfl) (Ah (Am o (bB b fun a5 a6 b=>(Ad 9 rfl d o (ER rfl rfl rfl a6 (Ad 10 rfl d o (AC rfl rfl (Ba ?_)))))))))))
     exact jx (p a5 _ b a4 (ah.sel [] rfl)) rfl
    ·refine PC PV Tryz.underlying46 Tryz.underlying5 Tryz.underlying9 rfl rfl rfl (w.own_ro (i:=0) rfl) ?_
     refine Ah (Am n (Av 2 rfl (bB b fun u64 a7 b=>(Bu rfl Tryz.call69 ag w (ih af (Ag (Int.tdiv c 10)) _ a7) rfl fun bp a8 a9 ba=>?_))))
     have x:=n.ext a8
     refine Ah (Am x (bB b fun bb bc b=>(Ad 9 rfl d x (ER rfl rfl rfl bc (Ad 10 rfl d x (AC rfl rfl (Ba ?_)))))))
     exact jx (p bb _ b a9 (ba.sel [] rfl)) rfl
theorem GX (a:Ae) (b:Int) (r:(List Ai)) (c:Dd b = some r) :
  A1 69 [(iv b)] a fun e w'=>e = .returned (.string (B1 r)) ∧ Bl a w' :=
 VD FU a b r c
theorem Xd (b:Ae) (c:Int) (r:(List Ai)) (a:Mn c = some r) :
  A1 143 [(iv c)] b fun e w'=>e = .returned (.string (B1 r)) ∧ Bl b w':=by
 refine cm Tryz.func143 Tryz.ntmps143 rfl fun Q d q f _=>?_
 unfold Mn at a
 refine An 1 rfl (Ap fun _ g=>(An 2 rfl (A3 rfl a (fun _ a=>?_) (fun _ a=>?_))))
 ·refine Ak fun _ h=>?_
  refine wp 2 rfl (bB a fun s i a=>(A7 rfl Tryz.call69 (GX b (Ag (0 - c)) _ i) rfl ?_))
  rintro _ t ⟨rfl,j⟩
  refine ⟨_,rfl,?_⟩
  have k:=tm f j
  refine bB a fun u l a=>Hf rfl rfl rfl l (Aq 1 rfl (h (Ay (rt d rfl rfl (by cases a; exact ⟨rfl,k⟩)))))
 ·refine Au (g ?_)
  refine Ak fun _ m=>wp 1 rfl (bB a fun v n a=>(A7 rfl Tryz.call69 (GX b c _ n) rfl ?_))
  rintro _ w ⟨rfl,o⟩
  refine ⟨_,rfl,?_⟩
  have p:=tm f o
  refine Aq 1 rfl (m (Ay (rt d rfl rfl (by cases a; exact ⟨rfl,p⟩))))
theorem J0 (b:Ae) (c:Int) (d:Bool) (r:(List Ai)) (a:Fq c d = some r) :
  A1 97 [(iv c),(.bool d)] b fun e w'=>e = .returned (.string (B1 r)) ∧ Bl b w':=by
 refine cm Tryz.func97 Tryz.ntmps97 rfl fun Q f m g _=>?_
 unfold Fq at a
 refine An 1 rfl (Ap fun _ h=>(An 2 rfl (A3 rfl a (fun _ a=>?_) (fun _ a=>?_))))
 ·refine An 1 rfl ?_
  refine Ay (rt f rfl rfl (by cases a; exact ⟨rfl,g⟩))
 ·refine Au (h ?_)
  refine Ak fun _ i=>wp 1 rfl (bB a fun n j a=>(A7 rfl Tryz.call143 (Xd b c _ j) rfl ?_))
  rintro _ o ⟨rfl,k⟩
  refine ⟨_,rfl,?_⟩
  have l:=tm g k
  refine Aq 1 rfl (i (Ay (rt f rfl rfl (by cases a; exact ⟨rfl,l⟩))))
theorem Pb (c:Ae) (d:Ae1) (j:Ac) (y:RO Ao c j d) (g:Ae1) (n:Ac) (ac:RO Ao c n g) (f:Int) (r:((Ae1 × Ae1 × Int × (List Int)) × Bool)) (b:Gm d g f = some r) :
  A1 147 [j,n,(iv f)] c fun e w'=>∃ (q0:Ac) (G0:Al) (q1:Ac) (G1:Al) (q2:Ac) (G2:Al),e = .returned (.tuple #[(.agg #[q0,q1,(iv r.1.2.2.1),q2]),(.bool r.2)]) ∧ Bl c w' ∧ Sp c w' [Ab Ao G0 q0 r.1.1,Ab Ao G1 q1 r.1.2.1,Ab Ar G2 q2 r.1.2.2.2]:=by
 refine cm Tryz.func147 Tryz.ntmps147 rfl fun Q hQ hP hB hS=>?_
 unfold Gm at b
 refine Ak fun _ ax=>Ei Bo rfl hB hS fun b2 w3 _ z az=>Aq 1 rfl (ax (Ap fun _ a0=>(Ak fun _ a1=>(wp 3 rfl (bB b fun u9 a2 b=>(Bu rfl Tryz.call139 z az (P4 w3 d j (y.ro z) g n (ac.ro z) f _ a2) rfl fun bw _ ai aj=>(Aq 1 rfl (a1 (A3 rfl b (fun _ b=>?_) (fun _ b=>?_))))))))))
 ·refine Ak fun _ a3=>?_
  refine DV (zs:=[(.slice none 0 0),(.slice none 0 0),(iv 0),(.slice none 0 0)]) (out:=[(.slice none 0 0),(.slice none 0 0),(iv 0),(.slice none 0 0)]) (vs:=[]) (css:=[]) Bo Po rfl rfl rfl rfl rfl (Gj 0 Bo rfl rfl ai aj rfl rfl rfl fun bx _ a4 ak=>(Aq 1 rfl (a3 (Ay ?_))))
  have a5:=ak.push0 (r:=Ab Ao [] (.slice none 0 0) []) rfl fun _=>.inl ⟨rfl,rfl,rfl⟩
  have a6:=a5.push0 (r:=Ab Ao [] (.slice none 0 0) []) rfl fun _=>.inl ⟨rfl,rfl,rfl⟩
  have a7:=a6.push0 (r:=Ab Ar [] (.slice none 0 0) []) rfl fun _=>.inl ⟨rfl,rfl,rfl⟩
  obtain rfl:=Option.some.inj b
  exact IM (vs:=[(.agg #[(.slice none 0 0),(.slice none 0 0),(iv 0),(.slice none 0 0)]),(.bool false)]) hQ rfl ⟨Ha (i:=0) Bo rfl ak rfl rfl rfl,Jk rfl,trivial⟩ ⟨(.slice none 0 0),[],(.slice none 0 0),[],(.slice none 0 0),[],rfl,a4,a7.sel [2,1,0] rfl⟩
 ·refine Au (a0 ?_)
  refine An 1 rfl (Ap fun _ a8=>(Ak fun _ a9=>(wp 1 rfl (BX y Tryz.underlying26 rfl (Aq 1 rfl (a9 (A0 (AU (fun m a q=>∃ (s:(List Int)) (h:Int) (t:Ac) (al:Al),St 31 [(0,j),(1,n),(2,(iv f)),(6,(.pointer (some ⟨b2,0,none⟩))),(8,t),(17,(iv (List.length d:Int))),(18,(iv h))] a ∧ Bl c q ∧ Sp c q [A5 b2 128 [(.slice none 0 0),(.slice none 0 0),(iv 0),(.slice none 0 0)],Ab Ar al t s] ∧ Df d g f m s h = some r) FU ?_ ?_))))))))
  ·have ba:=aj.push0 (r:=Ab Ar [] (.slice none 0 0) []) rfl fun _=>.inl ⟨rfl,rfl,rfl⟩
   exact fun a ha=>⟨[],0,(.slice none 0 0),[],ha.sb rfl,ai,(ba.sel [1,0] rfl),b⟩
  ·rintro o a q ⟨s,h,t,al,ha,p,aa,b⟩ bz bb
   refine BE ?_ ha
   cases o with
   | zero=>exact Bg b
   | succ o =>
    obtain ⟨b0,am⟩:∃ k,k = Df d g f o:=⟨_,rfl⟩
    rw [Df,← am] at b
    refine An 1 rfl (Ap fun _ bc=>(A3 rfl b (fun _ b=>?_) (fun _ b=>?_)))
    ·refine Au (bc ?_)
     refine Ap fun _ bd=>A0 (An 2 rfl (As (wp 2 rfl (Bc (vs:=[(iv h)]) (l:=[h]) Co Tryz.underlying36 rfl rfl rfl rfl rfl rfl p aa fun b1 b3 be _ bf an=>(bB b fun bg bh b=>(AF (i:=2) (S:=(· < be.heap.size)) Co Tryz.underlying36 rfl rfl rfl bf an rfl (an.own_ro (i:=0) rfl) bh fun bi bj b4 _ bk bl=>(Aq 1 rfl (bd (As (Aq 2 rfl ?_))))))))))
     rw [am] at b
     exact fun a ha=>bb a _ o (AB o) ⟨bg,(Ag (h + 1)),bi,bj,ha.sb rfl,bk,(bl.sel [1,2] rfl),b⟩
    ·refine Bd (a8 ?_)
     refine Ak fun _ bm=>wp 4 rfl (bB b fun ab bn b=>(A7 rfl Tryz.call142 (Nk q d j (y.ro p) g n (ac.ro p) f s t (aa.own_ro (i:=1) rfl) _ bn) rfl ?_))
     rintro _ b5 ⟨u,bo,v,bp,w,bq,rfl,ao,br⟩
     refine ⟨_,rfl,?_⟩
     have bs:=tm p ao
     have x:=aa.join ao br p.size
     refine B9 (i:=3) (vs:=[u,v,(iv ab.2.2.1),w]) (cs':=[u,v,(iv ab.2.2.1),w]) Bo rfl rfl rfl rfl bs x rfl rfl ⟨(x.own_ro (i:=0) rfl).one,(x.own_ro (i:=1) rfl).one,rfl,(x.own_ro (i:=2) rfl).one,trivial⟩ rfl fun b6 _ bt ap=>Aq 1 rfl (bm (Ay ?_))
     obtain rfl:=Option.some.inj b
     exact IM (vs:=[(.agg #[u,v,(iv ab.2.2.1),w]),(.bool true)]) hQ rfl ⟨Ha (i:=3) Bo rfl ap rfl rfl rfl,Jk rfl,trivial⟩ ⟨u,bo,v,bp,w,bq,rfl,bt,ap.sel [0,1,2] rfl⟩
theorem Ll (f:Ae) (c:(Ae1 × Ae1 × Int × Ae1 × Ae2 × Ae4 × (List Int) × (List Int) × Int)) (x:Addr) (t:Ac) (al:RO Ao f t c.1) (u:Ac) (am:RO Ao f u c.2.1) (y:Ac) (a6:RO BN f y c.2.2.2.1) (z:Ac) (a7:RO Az f z c.2.2.2.2.1) (aa:Ac) (a8:RO Ch f aa c.2.2.2.2.2.1) (ab:Ac) (a9:RO Ar f ab c.2.2.2.2.2.2.1) (ac:Ac) (ba:RO Ar f ac c.2.2.2.2.2.2.2.1) (v:EAt (· < f.heap.size) f x [t,u,(iv c.2.2.1),y,z,aa,ab,ac,(iv c.2.2.2.2.2.2.2.2)]) (r:((Ae1 × Ae1 × Int × (List Int)) × Bool)) (j:EC c = some r) :
  A1 100 [(.pointer (some x))] f fun e w'=>∃ (q0:Ac) (G0:Al) (q1:Ac) (G1:Al) (q2:Ac) (G2:Al),e = .returned (.tuple #[(.agg #[q0,q1,(iv r.1.2.2.1),q2]),(.bool r.2)]) ∧ Bl f w' ∧ Sp f w' [Ab Ao G0 q0 r.1.1,Ab Ao G1 q1 r.1.2.1,Ab Ar G2 q2 r.1.2.2.2]:=by
 refine cm Tryz.func100 Tryz.ntmps100 rfl fun Q hQ a hB hS=>?_
 unfold EC at j
 refine Ak fun _ av=>Ei Bo rfl hB hS fun b2 w3 _ aw ax=>Aq 1 rfl (av (Ap fun _ ay=>(AQ B4 [b2] aw ax fun w8 _ g k=>?_)))
 have d:=KeepX.refl w8 [b2]
 refine Ax 0 rfl a d (Ad 1 rfl a d (B8 rfl rfl (Ad 2 rfl a d (C6 (o:=1) Un rfl rfl (Ad 3 rfl a d (BL Cm rfl (EAt.addk (v.kx g (fun b hb=>(((k.get (i:=0) rfl).2.1 b hb).1))) 1) rfl (Ax 4 rfl a d (Ad 5 rfl a d (B8 rfl rfl (Ad 6 rfl a d (C6 (o:=0) IU rfl rfl (Ad 7 rfl a d (BL Cm rfl (EAt.addk (v.kx g (fun b hb=>(((k.get (i:=0) rfl).2.1 b hb).1))) 0) rfl (Ax 8 rfl a d (Ad 9 rfl a d (B8 rfl rfl (Ad 10 rfl a d (C6 (o:=2) Um rfl rfl (Ad 11 rfl a d (BL A4 rfl (EAt.addk (v.kx g (fun b hb=>(((k.get (i:=0) rfl).2.1 b hb).1))) 2) rfl (Av 12 rfl (bB j fun l az j=>(A7 rfl Tryz.call147 (Pb w8 c.2.1 u (am.ro g) c.1 t (al.ro g) c.2.2.1 _ az) rfl ?_)))))))))))))))))))))))
 rintro _ bc ⟨m,a0,n,a1,p,a2,rfl,w,a3⟩
 refine ⟨_,rfl,?_⟩
 have a4:=tm g w
 have q:=k.join w a3 g.size
 have s:=d.ext w
 refine Ah (Am s (Ad 13 rfl a s (AV rfl rfl rfl (Ad 14 rfl a s (AV rfl rfl rfl (Av 15 rfl (B9 (i:=3) (vs:=[m,n,(iv l.1.2.2.1),p]) (cs':=[m,n,(iv l.1.2.2.1),p]) Bo rfl rfl rfl rfl a4 q rfl rfl ⟨(q.own_ro (i:=0) rfl).one,(q.own_ro (i:=1) rfl).one,rfl,(q.own_ro (i:=2) rfl).one,trivial⟩ rfl fun bd ai a5 aj=>?_)))))))
 have ak:=s.wr' ai.1 ai.2.1 (fun _ _ h=>h)
 refine Ah (Am ak (Ad 16 rfl a ak (AC rfl rfl (Ba (ay (Ay ?_))))))
 obtain rfl:=Option.some.inj j
 exact IM (vs:=[(.agg #[m,n,(iv l.1.2.2.1),p]),(.bool l.2)]) hQ rfl ⟨Ha (i:=3) Bo rfl aj rfl rfl rfl,Jk rfl,trivial⟩ ⟨m,a0,n,a1,p,a2,rfl,a5,aj.sel [0,1,2] rfl⟩
theorem Ns (b:Ae) (c:Int) (r:Bool) (a:Hc c = some r) :
  A1 149 [(iv c)] b fun e w'=>e = .returned (.bool r) ∧ Bl b w':=by
 refine cm Tryz.func149 Tryz.ntmps149 rfl fun Q d k f _=>?_
 unfold Hc at a
 refine An 1 rfl (Ak fun _ g=>(wp 1 rfl (bB a fun l h a=>(A7 rfl Tryz.call77 (Cd b c 0 80 _ h) rfl ?_))))
 rintro _ m ⟨rfl,i⟩
 refine ⟨_,rfl,?_⟩
 have j:=tm f i
 refine Aq 1 rfl (g (Ay (rt d rfl rfl (by cases a; exact ⟨rfl,j⟩))))
theorem UB (d:Ae) (f:(Ae1 × Ae1 × Int × (List Int))) (i:Ac) (s:RO Ao d i f.1) (j:Ac) (t:RO Ao d j f.2.1) (k:Ac) (u:RO Ar d k f.2.2.2) (l:Int) (r:Bool) (b:Lg f l = some r) :
  A1 197 [(.agg #[i,j,(iv f.2.2.1),k]),(iv l)] d fun e w'=>e = .returned (.bool r) ∧ Bl d w':=by
 refine cm Tryz.func197 Tryz.ntmps197 rfl fun Q v hP w x=>?_
 unfold Lg at b
 refine Ak fun _ y=>CK rfl w x fun b2 z _ g n=>Aq 1 rfl (y (Ap fun K7 ab=>?_))
 obtain ⟨ac,ad,b⟩:=Cj b
 have o:∀ (m:Bool) (h:Ae) (_:ac m = some r) (_:Bl d h) (_:Sp d h []),∀ a,St 11 [(4,(.bool m))] a → K7 a h:=by
  intro m h b ae ao
  subst ad
  refine ab (Ay (rt v rfl rfl (by cases b; exact ⟨rfl,ae⟩)))
 refine As (AO 0 Bo rfl n rfl rfl (bB b fun af ag b=>(Bu rfl Tryz.call144 g n (Nl z f i (s.ro g) j (t.ro g) k (u.ro g) _ ag) rfl fun ah _ p q=>(wp 1 rfl ?_))))
 rcases bE af with c | c
 ·replace b:=BA c b
  refine wn rfl c (wp 1 rfl (wn rfl c (bB b fun ai aj b=>(Bu rfl Tryz.call149 p q (Ns ah l _ aj) rfl fun ap _ ak al=>(AA rfl rfl c rfl (Aq 1 rfl ?_))))))
  exact jx (o ai _ b ak (al.sel [] rfl)) rfl
 ·replace b:=Cf c b
  refine wo rfl c (wo rfl c (A9 rfl rfl c rfl (Aq 1 rfl ?_)))
  exact jx (o false _ b p (q.sel [] rfl)) rfl
theorem Qt (g:Ae) (d:Ae3) (f:Ae3) (r:(Int × Int × Int × Int)) (h:Kp d f = some r) :
  A1 268 [(.agg #[(iv d.1.1),(iv d.1.2),(iv d.2.1.1),(iv d.2.1.2),(iv d.2.2)]),(.agg #[(iv f.1.1),(iv f.1.2),(iv f.2.1.1),(iv f.2.1.2),(iv f.2.2)])] g fun e w'=>e = .returned (.tuple #[(iv r.1),(iv r.2.1),(iv r.2.2.1),(iv r.2.2.2)]) ∧ Bl g w':=by
 refine cm Tryz.func268 Tryz.ntmps268 rfl fun Q i a j k=>?_
 unfold Kp at h
 refine Ak fun _ l=>CK rfl j k fun u v _ m n=>CK rfl m n fun w x _ o p=>Aq 4 rfl (l (Ap fun _ q=>(AQ B4 [] o p fun s _ t c=>?_)))
 have b:=KeepX.refl s []
 refine Ad 0 rfl a b (C9 Fz rfl (Ad 1 rfl a b (C9 CJ rfl (Ad 2 rfl a b (CQ 1 A4 rfl c rfl (by simp) (Ad 3 rfl a b (C9 Fz rfl (Ad 4 rfl a b (C9 CJ rfl (Ad 5 rfl a b (CQ 0 A4 rfl c rfl (by simp) (Ad 6 rfl a b (GM rfl rfl rfl (Ad 7 rfl a b (C9 Fz rfl (Ad 8 rfl a b (C9 CI rfl (Ad 9 rfl a b (CQ 1 A4 rfl c rfl (by simp) (Ad 10 rfl a b (C9 Fz rfl (Ad 11 rfl a b (C9 CI rfl (Ad 12 rfl a b (CQ 0 A4 rfl c rfl (by simp) (Ad 13 rfl a b (GM rfl rfl rfl (Ad 14 rfl a b (C9 Gt rfl (Ad 15 rfl a b (C9 CJ rfl (Ad 16 rfl a b (CQ 1 A4 rfl c rfl (by simp) (Ad 17 rfl a b (C9 Gt rfl (Ad 18 rfl a b (C9 CJ rfl (Ad 19 rfl a b (CQ 0 A4 rfl c rfl (by simp) (Ad 20 rfl a b (GM rfl rfl rfl (Ad 21 rfl a b (C9 Gt rfl (Ad 22 rfl a b (C9 CI rfl (Ad 23 rfl a b (CQ 1 A4 rfl c rfl (by simp) (Ad 24 rfl a b (C9 Gt rfl (Ad 25 rfl a b (C9 CI rfl (Ad 26 rfl a b (CQ 0 A4 rfl c rfl (by simp) (Ad 27 rfl a b (GM rfl rfl rfl (Ad 28 rfl a b (AC rfl rfl (Ad 29 rfl a b (AC rfl rfl (Ad 30 rfl a b (AC rfl rfl (Ad 31 rfl a b (AC rfl rfl (Ba (q (Ay (rt i rfl rfl (by cases h; exact ⟨rfl,t⟩))))))))))))))))))))))))))))))))))))))))))))))))))))))))))))))))))))
theorem UF (h:Ae) (f:Ae3) (g:Ae3) (r:(Int × Int)) (c:Li f g = some r) :
  A1 269 [(.agg #[(iv f.1.1),(iv f.1.2),(iv f.2.1.1),(iv f.2.1.2),(iv f.2.2)]),(.agg #[(iv g.1.1),(iv g.1.2),(iv g.2.1.1),(iv g.2.1.2),(iv g.2.2)])] h fun e w'=>e = .returned (.tuple #[(iv r.1),(iv r.2)]) ∧ Bl h w':=by
 refine cm Tryz.func269 Tryz.ntmps269 rfl fun Q l hP q s=>?_
 unfold Li at c
 refine Ak fun _ t=>CK rfl q s fun b2 w3 _ u v=>CK rfl u v fun b7 w _ x j=>Aq 2 rfl (t (Ak fun _ y=>(AO 1 Cz rfl j rfl rfl (AO 0 Cz rfl j rfl rfl (bB c fun b z c=>(Bu rfl Tryz.call268 x j (Qt w f g _ z) rfl fun aj _ m n=>(Aq 9 rfl (y (An 8 rfl (An 17 rfl (Ap fun _ aa=>(Ap fun ab ac=>?_))))))))))))
 obtain ⟨ad,ae,c⟩:=Cj c
 have o:∀ (k:Bool) (i:Ae) (_:ad k = some r) (_:Bl h i) (_:Sp h i []),∀ a,St 52 [(12,(iv (Ag (0 - (Ag ((Ag (b.1 * (Ag (b.2.2.1 - b.1)))) + (Ag (b.2.1 * (Ag (b.2.2.2 - b.2.1)))))))))),(13,(iv (Ag ((Ag ((Ag (b.2.2.1 - b.1)) * (Ag (b.2.2.1 - b.1)))) + (Ag ((Ag (b.2.2.2 - b.2.1)) * (Ag (b.2.2.2 - b.2.1)))))))),(49,(.bool k))] a → ab a i:=by
  intro k i c p ak
  subst ae
  refine ac (A3 rfl c (fun _ c=>?_) (fun _ c=>?_))
  ·refine An 2 rfl ?_
   refine Ay (rt l rfl rfl (by cases c; exact ⟨rfl,p⟩))
  ·refine Au (aa ?_)
   refine An 4 rfl (Ay (rt l rfl rfl (by cases c; exact ⟨rfl,p⟩)))
 refine As (wp 3 rfl ?_)
 rcases bE (decide ((Ag (0 - (Ag ((Ag (b.1 * (Ag (b.2.2.1 - b.1)))) + (Ag (b.2.1 * (Ag (b.2.2.2 - b.2.1)))))))) ≤ 0)) with d | d
 ·replace c:=BA d c
  refine wo rfl d (wo rfl d (wo rfl d (AA rfl rfl d rfl (Ah ?_))))
  exact jx (o true _ c m (n.sel [] rfl)) rfl
 ·replace c:=Cf d c
  refine wn rfl d (wp 1 rfl (wn rfl d (wp 1 rfl (wn rfl d (wp 1 rfl (A9 rfl rfl d rfl (Ah ?_)))))))
  exact jx (o ((decide ((Ag ((Ag ((Ag (b.2.2.1 - b.1)) * (Ag (b.2.2.1 - b.1)))) + (Ag ((Ag (b.2.2.2 - b.2.1)) * (Ag (b.2.2.2 - b.2.1)))))) ≤ (Ag (0 - (Ag ((Ag (b.1 * (Ag (b.2.2.1 - b.1)))) + (Ag (b.2.1 * (Ag (b.2.2.2 - b.2.1))))))))))) _ c m (n.sel [] rfl)) rfl
theorem Ni (b:Ae) (c:Int) (d:Int) (r:Int) (a:Hk c d = some r) :
  A1 246 [(iv c),(iv d)] b fun e w'=>e = .returned (iv r) ∧ Bl b w':=by
 refine cm Tryz.func246 Tryz.ntmps246 rfl fun Q f i g _=>?_
 unfold Hk at a
 refine An 1 rfl (Ap fun _ h=>(An 3 rfl (A3 rfl a (fun _ a=>?_) (fun _ a=>?_))))
 ·refine An 2 rfl ?_
  refine Ay (rt f rfl rfl (by cases a; exact ⟨rfl,g⟩))
 ·refine Au (h ?_)
  refine An 2 rfl (Ay (rt f rfl rfl (by cases a; exact ⟨rfl,g⟩)))
theorem Xf (c:Ae) (a:Int) (r:Int) (b:Mo a = some r) :
  A1 271 [(iv a)] c fun e w'=>e = .returned (iv r) ∧ Bl c w':=by
 refine cm Tryz.func271 Tryz.ntmps271 rfl fun Q d k f _=>?_
 unfold Mo at b
 refine An 1 rfl (Ak fun _ g=>(wp 3 rfl (bB b fun l h b=>(A7 rfl Tryz.call246 (Ni c a (Ag (0 - a)) _ h) rfl ?_))))
 rintro _ m ⟨rfl,i⟩
 refine ⟨_,rfl,?_⟩
 have j:=tm f i
 refine Aq 1 rfl (g (Ay (rt d rfl rfl (by cases b; exact ⟨rfl,j⟩))))
theorem Qo (j:Ae) (f:Int) (g:Int) (r:(Int × Int)) (b:Ja f g = some r) :
  A1 250 [(iv f),(iv g)] j fun e w'=>e = .returned (.tuple #[(iv r.1),(iv r.2)]) ∧ Bl j w':=by
 refine cm Tryz.func250 Tryz.ntmps250 rfl fun Q v c w x=>?_
 unfold Ja at b
 refine An 2 rfl (Ak fun _ y=>(wp 1 rfl (bB b fun z aa b=>(Bu rfl Tryz.call271 w x (Xf j f _ aa) rfl fun w4 _ ab ac=>(Aq 3 rfl (y (Ap fun _ ad=>(A0 (AU (fun m a q=>∃ (h:Int) (i:Int),St 25 [(0,(iv f)),(1,(iv g)),(6,(iv h)),(7,(iv i))] a ∧ Bl j q ∧ Sp j q [] ∧ Gw f g m h i = some r) FU ?_ ?_)))))))))
 ·exact fun a ha=>⟨z,g,ha.sb rfl,ab,(ac.sel [] rfl),b⟩
 ·rintro l a q ⟨h,i,ha,s,t,b⟩ al ae
  refine BE ?_ ha
  cases l with
  | zero=>exact Bg b
  | succ l =>
   obtain ⟨am,u⟩:∃ k,k = Gw f g l:=⟨_,rfl⟩
   rw [Gw,← u] at b
   refine Ap fun _ af=>An 2 rfl (A3 rfl b (fun _ b=>?_) (fun _ b=>?_))
   ·refine Au (af ?_)
    refine A0 (Ak fun _ ag=>(wp 2 rfl ?_))
    have n:i ≠ 0:=fun n=>Bg (BA n b)
    replace b:=Lp n b
    refine Q5 rfl rfl rfl n (Aq 1 rfl (ag (An 2 rfl (As (Aq 2 rfl ?_)))))
    rw [u] at b
    exact fun a ha=>ae a _ l (AB l) ⟨i,(Int.tmod h i),ha.sb rfl,s,(t.sel [] rfl),b⟩
   ·refine Bd (ad ?_)
    refine Ap fun _ ah=>AQ B4 [] s t fun ai _ aj _=>?_
    have d:=KeepX.refl ai []
    refine Ax 0 rfl c d (Ax 1 rfl c d ?_)
    have o:h ≠ 0:=fun o=>Bg (BA o b)
    replace b:=Lp o b
    refine Ad 2 rfl c d (LX rfl rfl rfl o (Ax 3 rfl c d (Ax 4 rfl c d ?_)))
    have p:h ≠ 0:=fun p=>Bg (BA p b)
    replace b:=Lp p b
    refine Ad 5 rfl c d (LX rfl rfl rfl p (Ad 6 rfl c d (AC rfl rfl (Ad 7 rfl c d (AC rfl rfl (Ba (ah (Ay (rt v rfl rfl (by cases b; exact ⟨rfl,aj⟩))))))))))
theorem UE (g:Ae) (c:Ae3) (d:Ae3) (r:(Int × Int)) (b:JL c d = some r) :
  A1 245 [(.agg #[(iv c.1.1),(iv c.1.2),(iv c.2.1.1),(iv c.2.1.2),(iv c.2.2)]),(.agg #[(iv d.1.1),(iv d.1.2),(iv d.2.1.1),(iv d.2.1.2),(iv d.2.2)])] g fun e w'=>e = .returned (.tuple #[(iv r.1),(iv r.2)]) ∧ Bl g w':=by
 refine cm Tryz.func245 Tryz.ntmps245 rfl fun Q h hP l m=>?_
 unfold JL at b
 refine Ak fun _ n=>CK rfl l m fun b2 w3 _ o p=>CK rfl o p fun b7 q _ s f=>Aq 2 rfl (n (Ak fun _ t=>(AO 1 Cz rfl f rfl rfl (AO 0 Cz rfl f rfl rfl (bB b fun a u b=>(Bu rfl Tryz.call268 s f (Qt q c d _ u) rfl fun v _ w i=>(Aq 9 rfl (t (Ap fun _ x=>(Ak fun _ y=>(AO 1 Cz rfl i rfl rfl (AO 0 Cz rfl i rfl rfl (bB b fun z aa b=>A7 rfl Tryz.call269 (UF v c d _ aa) rfl ?_)))))))))))))
 rintro _ j ⟨rfl,ab⟩
 refine ⟨_,rfl,?_⟩
 have k:=tm w ab
 refine Aq 5 rfl (y (An 2 rfl (A3 rfl b (fun _ b=>?_) (fun _ b=>?_))))
 ·refine An 8 rfl ?_
  refine Ak fun _ ac=>wp 4 rfl (bB b fun ao ad b=>(A7 rfl Tryz.call250 (Qo j (Ag ((Ag ((Ag (a.1 * a.2.2.2)) - (Ag (a.2.1 * a.2.2.1)))) * (Ag ((Ag (a.1 * a.2.2.2)) - (Ag (a.2.1 * a.2.2.1)))))) z.2 _ ad) rfl ?_))
  rintro _ ap ⟨rfl,ae⟩
  refine ⟨_,rfl,?_⟩
  have af:=tm k ae
  refine Aq 4 rfl (ac (Ay (rt h rfl rfl (by cases b; exact ⟨rfl,af⟩))))
 ·refine Au (x ?_)
  refine Ak fun _ ag=>wp 14 rfl (bB b fun aq ah b=>(A7 rfl Tryz.call225 (GD j (Ag ((Ag (a.1 * a.1)) + (Ag (a.2.1 * a.2.1)))) (Ag ((Ag (a.2.2.1 * a.2.2.1)) + (Ag (a.2.2.2 * a.2.2.2)))) _ ah) rfl ?_))
  rintro _ ar ⟨rfl,ai⟩
  refine ⟨_,rfl,?_⟩
  have aj:=tm k ai
  refine Aq 2 rfl (ag (Ay (rt h rfl rfl (by cases b; exact ⟨rfl,aj⟩))))
theorem V8 (d:Ae) (a:Ae3) (b:Ae3) (f:Int) (r:Bool) (c:Kn a b f = some r) :
  A1 227 [(.agg #[(iv a.1.1),(iv a.1.2),(iv a.2.1.1),(iv a.2.1.2),(iv a.2.2)]),(.agg #[(iv b.1.1),(iv b.1.2),(iv b.2.1.1),(iv b.2.1.2),(iv b.2.2)]),(iv f)] d fun e w'=>e = .returned (.bool r) ∧ Bl d w':=by
 refine cm Tryz.func227 Tryz.ntmps227 rfl fun Q h u i j=>?_
 unfold Kn at c
 refine Ak fun _ k=>CK rfl i j fun v w _ l m=>CK rfl l m fun x n _ o g=>Aq 1 rfl (k (Ak fun _ p=>(AO 1 Cz rfl g rfl rfl (AO 0 Cz rfl g rfl rfl (bB c fun y q c=>(A7 rfl Tryz.call245 (UE n a b _ q) rfl ?_))))))
 rintro _ z ⟨rfl,s⟩
 refine ⟨_,rfl,?_⟩
 have t:=tm o s
 refine Aq 5 rfl (p (An 8 rfl (Ay (rt h rfl rfl (by cases c; exact ⟨rfl,t⟩)))))
theorem UA (f:Ae) (p:(Ae1 × Ae1 × Int × (List Int))) (ae:Ac) (a5:RO Ao f ae p.1) (af:Ac) (a6:RO Ao f af p.2.1) (ag:Ac) (a7:RO Ar f ag p.2.2.2) (g:Int) (r:Ae6) (b:JJ p g = some r) :
  A1 198 [(.agg #[ae,af,(iv p.2.2.1),ag]),(iv g)] f fun e w'=>∃ (q0:Ac) (G0:Al),e = .returned q0 ∧ Bl f w' ∧ Sp f w' [Ab Ci G0 q0 r]:=by
 refine cm Tryz.func198 Tryz.ntmps198 rfl fun Q hQ n hB hS=>?_
 unfold JJ at b
 refine Ak fun _ bc=>CK rfl hB hS fun b2 w3 _ w ap=>Aq 1 rfl (bc (Ak fun _ be=>(AO 0 Bo rfl ap rfl rfl (bB b fun u8 bf b=>(E6 rfl Tryz.call196 w ap (Lk w3 p ae (a5.ro w) af (a6.ro w) ag (a7.ro w) _ bf) rfl fun h ah cr _ _ bg aq=>(Aq 1 rfl (be (An 1 rfl (Ap fun _ bh=>(Ak fun _ bi=>(wp 1 rfl (BX (aq.own_ro (i:=0) rfl) Tryz.underlying184 rfl (Aq 1 rfl (bi (A0 (AU (fun m a ai=>∃ (x:Ae6) (c:Int) (q:Ac) (y:Al),St 43 [(1,(iv g)),(5,h),(6,q),(12,h),(13,(iv (List.length u8:Int))),(14,(iv c))] a ∧ Bl f ai ∧ Sp f ai [Ab C4 ah h u8,Ab Ci y q x] ∧ Fe u8 g m x c = some r) FU ?_ ?_))))))))))))))))
 ·have bj:=aq.push0 (r:=Ab Ci [] (.slice none 0 0) []) rfl fun _=>.inl ⟨rfl,rfl,rfl⟩
  exact fun a ha=>⟨[],0,(.slice none 0 0),[],ha.sb rfl,bg,(bj.sel [1,0] rfl),b⟩
 ·rintro s a ai ⟨x,c,q,y,ha,ar,aj,b⟩ cs bk
  refine BE ?_ ha
  cases s with
  | zero=>exact Bg b
  | succ s =>
   obtain ⟨au,av⟩:∃ k,k = Fe u8 g s:=⟨_,rfl⟩
   rw [Fe,← av] at b
   refine An 1 rfl (Ap fun _ bl=>(A3 rfl b (fun _ b=>?_) (fun _ b=>?_)))
   ·refine Au (bl ?_)
    refine Ap fun _ bm=>A0 (Ak fun _ bn=>(wp 1 rfl (bB b fun d bo b=>(Cw (e:=C4) (i:=0) Tryz.underlying184 rfl rfl rfl aj rfl bo ?_))))
    rintro ct _ rfl bp cu
    refine BZ Cz rfl bp rfl (Ei Cz rfl ar aj fun z cv _ bq br=>(wp 1 rfl (Gj 0 Cz rfl rfl bq br rfl rfl rfl fun cw _ bs bt=>(Ah (bn (An 3 rfl (A0 (AU (fun m a ak=>∃ (t:Ae6) (j:Int) (u:Ac) (aa:Al),St 43 [(1,(iv g)),(5,h),(6,u),(7,(iv c)),(8,(.pointer (some ⟨z,0,none⟩))),(9,(iv j)),(12,h),(13,(iv (List.length u8:Int))),(14,(iv c))] a ∧ Bl f ak ∧ Sp f ak [Ab C4 ah h u8,Ab Ci aa u t,A5 z 187 [(iv d.1.1),(iv d.1.2),(iv d.2.1.1),(iv d.2.1.2),(iv d.2.2)]] ∧ Fd u8 d g c au m t j = some r) FU ?_ ?_))))))))
    ·exact fun a ha=>⟨x,(Ag (c + 1)),q,y,ha.sb rfl,bs,(bt.sel [1,2,0] rfl),b⟩
    ·rintro v a ak ⟨t,j,u,aa,ha,aw,al,b⟩ cx bu
     refine BE ?_ ha
     cases v with
     | zero=>exact Bg b
     | succ v =>
      obtain ⟨cy,ax⟩:∃ k,k = Fd u8 d g c au v:=⟨_,rfl⟩
      rw [Fd,← ax] at b
      refine Ap fun _ bv=>Ak fun _ bw=>wp 2 rfl (BX (al.own_ro (i:=0) rfl) Tryz.underlying184 rfl (Aq 1 rfl (bw (A3 rfl b (fun _ b=>?_) (fun _ b=>?_)))))
      ·refine Au (bv ?_)
       refine Ap fun bx bz=>?_
       obtain ⟨b0,b1,b⟩:=Cj b
       have ay:∀ (ab:Ae6) (ac:Ac) (am:Al) (ad:Ae) (_:b0 ab = some r) (_:Bl f ad) (_:Sp f ad [Ab C4 ah h u8,Ab Ci am ac ab,A5 z 187 [(iv d.1.1),(iv d.1.2),(iv d.2.1.1),(iv d.2.1.2),(iv d.2.2)]]),∀ a,St 43 [(1,(iv g)),(5,h),(6,ac),(7,(iv c)),(8,(.pointer (some ⟨z,0,none⟩))),(9,(iv j)),(12,h),(13,(iv (List.length u8:Int))),(14,(iv c))] a → bx a ad:=by
        intro ab ac am ad b b3 b4
        subst b1
        refine bz (As (Aq 3 rfl ?_))
        rw [ax] at b
        exact fun a ha=>bu a _ v (AB v) ⟨ab,(Ag (j + 1)),ac,am,ha.sb rfl,b3,(b4.sel [0,1,2] rfl),b⟩
       refine A0 (Ap fun _ b5=>(AQ B4 [] aw al fun az _ b6 an=>?_))
       have o:=KeepX.refl az []
       refine Ad 0 rfl n o (CQ 2 Cz rfl an rfl (by simp) (Ax 1 rfl n o (Ax 2 rfl n o (bB b fun b7 b8 b=>(Ad 3 rfl n o (Bv (e:=C4) (i:=0) Tryz.underlying184 rfl rfl rfl an rfl b8 ?_))))))
       rintro cz _ rfl b9 c0
       refine Ad 4 rfl n o (BL Cz rfl (b9.kx0) rfl (Ax 5 rfl n o (Av 6 rfl (bB b fun c1 ca b=>(Bu rfl Tryz.call227 b6 an (V8 az d b7 g _ ca) rfl fun c2 cb a0 a1=>?_)))))
       have a2:=o.ext cb
       refine Ah (Am a2 (Ad 7 rfl n a2 (KM rfl rfl (Ba (b5 (A3 rfl b (fun _ b=>?_) (fun _ b=>?_)))))))
       ·refine As ?_
        refine wp 3 rfl (Bc (vs:=[(iv c),(iv j)]) (l:=[c,j]) Co Tryz.underlying36 rfl rfl rfl rfl rfl rfl a0 a1 fun a3 cc c3 _ cd a4=>?_)
        have ce:=a4.sel [0,1,2,3] rfl
        have cf:=ce.head (r':=Qc Ci cc [a3] [c,j]) (rfl) fun _ h0=>⟨_,rfl,h0⟩
        refine N5 (e:=Ci) (vs:=[a3]) Tryz.underlying155 rfl rfl (Ce (a4.own_ro (i:=0) rfl).one) rfl cd cf fun c4 c5 c6 _ _ ch ci=>bB b fun cj ck b=>Lb (e:=Ci) Tryz.underlying155 rfl rfl rfl ch (ci.sel [2,0,1,3] rfl) ck fun cl cn c7 _ co cp=>Aq 1 rfl ?_
        exact jx (ay cj cl cn _ b co (cp.sel [1,0,2] rfl)) rfl
       ·refine Au ?_
        exact jx (ay t u aa _ b a0 (a1.sel [0,1,2] rfl)) rfl
      ·refine Bd (bm ?_)
       refine As (Aq 2 rfl ?_)
       rw [av] at b
       exact fun a ha=>bk a _ s (AB s) ⟨t,(Ag (c + 1)),u,aa,ha.sb rfl,aw,(al.sel [0,1] rfl),b⟩
   ·refine Bd (bh ?_)
    refine An 2 rfl (Ay (rt hQ rfl rfl (by cases b; exact ⟨q,y,rfl,ar,aj.sel [1] rfl⟩)))
theorem Qe (c:Ae) (b:(Ae1 × Ae1 × Int × (List Int))) (f:Ac) (l:RO Ao c f b.1) (g:Ac) (m:RO Ao c g b.2.1) (h:Ac) (n:RO Ar c h b.2.2.2) (i:Int) (r:(Ae6 × Bool)) (a:GR b i = some r) :
  A1 146 [(.agg #[f,g,(iv b.2.2.1),h]),(iv i)] c fun e w'=>∃ (o:Ac) (s:Al),e = .returned (.tuple #[o,(.bool r.2)]) ∧ Bl c w' ∧ Sp c w' [Ab Ci s o r.1]:=by
 refine cm Tryz.func146 Tryz.ntmps146 rfl fun Q p hP t u=>?_
 unfold GR at a
 refine Ak fun _ v=>CK rfl t u fun b2 w _ j q=>Aq 2 rfl (v (Ap fun _ x=>(Ak fun _ y=>(AO 0 Bo rfl q rfl rfl (wp 1 rfl (bB a fun u9 z a=>(Bu rfl Tryz.call197 j q (UB w b f (l.ro j) g (m.ro j) h (n.ro j) i _ z) rfl fun aa _ d k=>(Aq 1 rfl (y (A3 rfl a (fun _ a=>?_) (fun _ a=>?_)))))))))))
 ·refine An 2 rfl ?_
  refine Ay ?_
  have ab:=k.push0 (r:=Ab Ci [] (.slice none 0 0) []) rfl fun _=>.inl ⟨rfl,rfl,rfl⟩
  refine rt p rfl rfl (by cases a; exact ⟨(.slice none 0 0),[],rfl,d,ab.sel [0] rfl⟩)
 ·refine Au (x ?_)
  refine Ak fun _ ac=>AO 0 Bo rfl k rfl rfl (wp 1 rfl (bB a fun al ad a=>(E6 rfl Tryz.call198 d k (UA aa b f (l.ro d) g (m.ro d) h (n.ro d) i _ ad) rfl fun ae af am _ _ ag ah=>(Aq 2 rfl (ac (Ay (rt p rfl rfl (by cases a; exact ⟨ae,af,rfl,ag,ah.sel [0] rfl⟩))))))))
theorem Ok (d:Ae) (f:(Ae1 × Ae1 × Int × Ae1 × Ae2 × Ae4 × (List Int) × (List Int) × Int)) (p0:Addr) (ae:Ac) (bc:RO Ao d ae f.1) (af:Ac) (bd:RO Ao d af f.2.1) (ag:Ac) (be:RO BN d ag f.2.2.2.1) (ah:Ac) (bf:RO Az d ah f.2.2.2.2.1) (ai:Ac) (bg:RO Ch d ai f.2.2.2.2.2.1) (aj:Ac) (bh:RO Ar d aj f.2.2.2.2.2.2.1) (ak:Ac) (bi:RO Ar d ak f.2.2.2.2.2.2.2.1) (bj:EAt (· < d.heap.size) d p0 [ae,af,(iv f.2.2.1),ag,ah,ai,aj,ak,(iv f.2.2.2.2.2.2.2.2)]) (x1:Int) (r:(List Ai)) (c:Hn f x1 = some r) :
  A1 99 [(.pointer (some p0)),(iv x1)] d fun e w'=>e = .returned (.string (B1 r)) ∧ Bl d w':=by
 refine cm Tryz.func99 Tryz.ntmps99 rfl fun Q hQ g h hS=>?_
 unfold Hn at c
 refine An 1 rfl (Ak fun _ bl=>(wp 1 rfl (bB c fun v bm c=>(A7 rfl Tryz.call100 (Ll d f p0 ae (bc.ro h) af (bd.ro h) ag (be.ro h) ah (bf.ro h) ai (bg.ro h) aj (bh.ro h) ak (bi.ro h) (bj.ro h) _ bm) rfl ?_))))
 rintro _ c4 ⟨v4,F5,v6,F7,v8,F9,rfl,ax,bn⟩
 refine ⟨_,rfl,?_⟩
 have bo:=tm h ax
 have bp:=hS.join ax bn h.size
 refine wp 3 rfl (Ei Bo rfl bo bp fun c8 c9 _ bq w=>(B9 (i:=0) (vs:=[v4,v6,(iv v.1.2.2.1),v8]) (cs':=[v4,v6,(iv v.1.2.2.1),v8]) Bo rfl rfl rfl rfl bq w rfl rfl ⟨(w.own_ro (i:=1) rfl).one,(w.own_ro (i:=2) rfl).one,rfl,(w.own_ro (i:=3) rfl).one,trivial⟩ rfl fun br _ bs q=>(Aq 1 rfl (bl (Ak fun _ bt=>(AO 0 Bo rfl q rfl rfl (wp 1 rfl (bB c fun l bu c=>(E6 rfl Tryz.call146 bs q (Qe br v.1 v4 (q.own_ro (i:=1) rfl) v6 (q.own_ro (i:=2) rfl) v8 (q.own_ro (i:=3) rfl) x1 _ bu) rfl fun p x da _ _ ay az=>(Aq 5 rfl (bt (Ap fun _ bv=>(Ap fun bw bx=>?_)))))))))))))
 obtain ⟨bz,b0,c⟩:=Cj c
 have a0:∀ (aq:Bool) (y:Ae) (_:bz aq = some r) (_:Bl d y) (_:Sp d y [Ab Ci x p l.1]),∀ a,St 56 [(7,p),(28,(.bool aq))] a → bw a y:=by
  intro aq y c a1 a2
  subst b0
  refine bx (A3 rfl c (fun _ c=>?_) (fun _ c=>?_))
  ·refine An 1 rfl ?_
   refine Ay (rt hQ rfl rfl (by cases c; exact ⟨rfl,a1⟩))
  ·refine Au (bv ?_)
   refine An 1 rfl (Ap fun _ b1=>(Ak fun _ b2=>(wp 1 rfl (BX (a2.own_ro (i:=0) rfl) Tryz.underlying155 rfl (Aq 1 rfl (b2 (A0 (AU (fun m a ar=>∃ (z:(List Ai)) (s:Int),St 56 [(9,(.string (B1 z))),(29,p),(30,(iv (List.length l.1:Int))),(31,(iv s))] a ∧ Bl d ar ∧ Sp d ar [Ab Ci x p l.1] ∧ CR l m z s = some r) FU ?_ ?_))))))))
   ·exact fun a ha=>⟨[],0,ha.sb rfl,a1,(a2.sel [0] rfl),c⟩
   ·rintro t a ar ⟨z,s,ha,aa,au,c⟩ db b3
    refine BE ?_ ha
    cases t with
    | zero=>exact Bg c
    | succ t =>
     obtain ⟨dc,a3⟩:∃ k,k = CR l t:=⟨_,rfl⟩
     rw [CR,← a3] at c
     refine An 1 rfl (Ap fun _ b4=>(A3 rfl c (fun _ c=>?_) (fun _ c=>?_)))
     ·refine Au (b4 ?_)
      refine Ap fun _ b5=>A0 (Ak fun _ b6=>(wp 1 rfl (bB c fun b7 b8 c=>(H6 (e:=Ci) (i:=0) Tryz.underlying155 rfl rfl rfl au rfl b8 ?_))))
      rintro dd _ ⟨a4,rfl,a5⟩ b9 de
      refine BZ Fu rfl b9 rfl (Aq 2 rfl (b6 (Ap fun ca cb=>?_)))
      obtain ⟨cc,cd,c⟩:=Cj c
      have a6:∀ (av:(List Ai)) (u:Ae) (o:rdS Ar (· ∈ x) u a4 b7) (_:cc av = some r) (_:Bl d u) (_:Sp d u [Ab Ci x p l.1]),∀ a,St 56 [(9,(.string (B1 av))),(11,a4),(29,p),(30,(iv (List.length l.1:Int))),(31,(iv s))] a → ca a u:=by
       intro av u o c ce a7
       subst cd
       refine cb (AQ B4 [] ce a7 fun a8 cf cg ab=>?_)
       have o:=o.keep (fun b hb=>cf.block b (((a7.get (i:=0) rfl).2.1 b hb).2))
       have n:=KeepX.refl a8 []
       refine Ax 0 rfl g n (Ax 1 rfl g n (bB c fun ch ci c=>(Ad 2 rfl g n (BB (e:=Ar) Tryz.underlying36 rfl rfl rfl (o.mono (fun b hb=>((ab.get (i:=0) rfl).2.1 b hb).2)) ci ?_))))
       rintro df _ rfl cj
       refine Ad 3 rfl g n (BL A4 rfl (cj.kx0) rfl (Ax 6 rfl g n (bB c fun ck cl c=>(Ad 7 rfl g n (BB (e:=Ar) Tryz.underlying36 rfl rfl rfl (o.mono (fun b hb=>((ab.get (i:=0) rfl).2.1 b hb).2)) cl ?_)))))
       rintro dg _ rfl cn
       refine Ad 8 rfl g n (BL A4 rfl (cn.kx0) rfl (Av 4 rfl (bB c fun dh co c=>(Bu rfl Tryz.call69 cg ab (GX a8 ch _ co) rfl fun cp a9 cq ba=>?_))))
       have cr:=o.keep (fun b hb=>a9.block b (((ab.get (i:=0) rfl).2.1 b hb).2))
       have aw:=n.ext a9
       refine Ah (Am aw (bB c fun di cs c=>(Ad 5 rfl g aw (ER rfl rfl rfl cs (Av 9 rfl (bB c fun dj ct c=>(Bu rfl Tryz.call69 cq ba (GX cp ck _ ct) rfl fun dk bb cu cv=>?_)))))))
       have cw:=cr.keep (fun b hb=>bb.block b (((ba.get (i:=0) rfl).2.1 b hb).2))
       have ac:=aw.ext bb
       refine Ah (Am ac (bB c fun dl cx c=>(Ad 10 rfl g ac (ER rfl rfl rfl cx (bB c fun cy cz c=>(Ad 11 rfl g ac (ER rfl rfl rfl cz (Ad 12 rfl g ac (AC rfl rfl (Ba ?_))))))))))
       have o:=cw
       refine b5 (As (Aq 2 rfl ?_))
       rw [a3] at c
       exact fun a ha=>b3 a _ t (AB t) ⟨cy,(Ag (s + 1)),ha.sb rfl,cu,(cv.sel [0] rfl),c⟩
      refine An 2 rfl (A3 rfl c (fun _ c=>?_) (fun _ c=>?_))
      ·refine As ?_
       refine wp 1 rfl (bB c fun c0 c1 c=>(Hf rfl rfl rfl c1 (Aq 1 rfl ?_)))
       exact jx (a6 c0 _ a5 c aa (au.sel [0] rfl)) rfl
      ·refine Au ?_
       exact jx (a6 z _ a5 c aa (au.sel [0] rfl)) rfl
     ·refine Bd (b1 ?_)
      refine Ap fun _ c2=>Ak fun _ c3=>wp 1 rfl (AP rfl rfl rfl (Ah (c3 (A3 rfl c (fun _ c=>?_) (fun _ c=>?_)))))
      ·refine An 1 rfl ?_
       refine Ay (rt hQ rfl rfl (by cases c; exact ⟨rfl,aa⟩))
      ·refine Au (c2 ?_)
       refine An 2 rfl (Ay (rt hQ rfl rfl (by cases c; exact ⟨rfl,aa⟩)))
 refine As (wp 3 rfl ?_)
 rcases bE (!v.2) with j | j
 ·replace c:=BA j c
  refine wo rfl j (wo rfl j (AA rfl rfl j rfl (Ah ?_)))
  exact jx (a0 true _ c ay (az.sel [0] rfl)) rfl
 ·replace c:=Cf j c
  refine wn rfl j (wp 1 rfl (wn rfl j (wp 1 rfl (A9 rfl rfl j rfl (Ah ?_)))))
  exact jx (a0 ((!l.2)) _ c ay (az.sel [0] rfl)) rfl
theorem V2 (g:Ae) (f:(Ae1 × Ae1 × Int × (List Int))) (k:Ac) (q:RO Ao g k f.1) (l:Ac) (t:RO Ao g l f.2.1) (m:Ac) (u:RO Ar g m f.2.2.2) (r:Bool) (b:L5 f = some r) :
  A1 148 [(.agg #[k,l,(iv f.2.2.1),m])] g fun e w'=>e = .returned (.bool r) ∧ Bl g w':=by
 refine cm Tryz.func148 Tryz.ntmps148 rfl fun Q v hP w x=>?_
 unfold L5 at b
 refine Ak fun _ y=>CK rfl w x fun b2 z _ i s=>Aq 1 rfl (y (Ap fun K7 ab=>?_))
 obtain ⟨ac,ad,b⟩:=Cj b
 have n:∀ (o:Bool) (j:Ae) (_:ac o = some r) (_:Bl g j) (_:Sp g j []),∀ a,St 16 [(2,(.bool o))] a → K7 a j:=by
  intro o j b ae aj
  subst ad
  refine ab (Ay (rt v rfl rfl (by cases b; exact ⟨rfl,ae⟩)))
 refine As (AO 0 Bo rfl s rfl rfl (bB b fun af ag b=>(Bu rfl Tryz.call144 i s (Nl z f k (q.ro i) l (t.ro i) m (u.ro i) _ ag) rfl fun ak _ p h=>(wp 1 rfl ?_))))
 rcases bE af with d | d
 ·replace b:=BA d b
  refine wn rfl d (Bp KQ rfl (wn rfl d (AO 0 A4 rfl h rfl rfl (wn rfl d (wp 1 rfl (AA rfl rfl d rfl (wp 1 rfl ?_)))))))
  rcases bE (decide (f.2.2.1 ≤ 16)) with c | c
  ·replace b:=BA c b
   refine wn rfl c (Bp E0 rfl (wn rfl c (AO 0 Cm rfl h rfl rfl (wn rfl c (BX q Tryz.underlying26 rfl (wn rfl c (wp 1 rfl (AA rfl rfl c rfl (Aq 1 rfl ?_)))))))))
   exact jx (n ((decide ((List.length f.1:Int) ≤ 6))) _ b p (h.sel [] rfl)) rfl
  ·replace b:=Cf c b
   refine wo rfl c (wo rfl c (wo rfl c (wo rfl c (A9 rfl rfl c rfl (Aq 1 rfl ?_)))))
   exact jx (n false _ b p (h.sel [] rfl)) rfl
 ·replace b:=Cf d b
  refine wo rfl d (wo rfl d (wo rfl d (A9 rfl rfl d rfl (wp 1 rfl (wo rfl rfl (wo rfl rfl (wo rfl rfl (wo rfl rfl (A9 rfl rfl rfl rfl (Aq 1 rfl ?_))))))))))
  exact jx (n false _ b p (h.sel [] rfl)) rfl
theorem X4 (f:Ae) (d:Ae3) (g:Int) (r:(Int × Int)) (h:Lz d g = some r) :
  A1 270 [(.agg #[(iv d.1.1),(iv d.1.2),(iv d.2.1.1),(iv d.2.1.2),(iv d.2.2)]),(iv g)] f fun e w'=>e = .returned (.tuple #[(iv r.1),(iv r.2)]) ∧ Bl f w':=by
 refine cm Tryz.func270 Tryz.ntmps270 rfl fun Q i a j k=>?_
 unfold Lz at h
 refine Ak fun _ l=>CK rfl j k fun s t _ m n=>Aq 2 rfl (l (Ap fun _ o=>(AQ B4 [] m n fun p _ q c=>?_)))
 have b:=KeepX.refl p []
 refine Ad 0 rfl a b (C9 Fz rfl (Ad 1 rfl a b (C9 CJ rfl (Ad 2 rfl a b (CQ 0 A4 rfl c rfl (by simp) (Ad 3 rfl a b (C9 HS rfl (Ad 4 rfl a b (CQ 0 A4 rfl c rfl (by simp) (Ad 5 rfl a b (Jl rfl rfl rfl (Ad 6 rfl a b (C9 Gt rfl (Ad 7 rfl a b (C9 CJ rfl (Ad 8 rfl a b (CQ 0 A4 rfl c rfl (by simp) (Ad 9 rfl a b (C9 Fz rfl (Ad 10 rfl a b (C9 CJ rfl (Ad 11 rfl a b (CQ 0 A4 rfl c rfl (by simp) (Ad 12 rfl a b (GM rfl rfl rfl (Ax 13 rfl a b (Ad 14 rfl a b (Jl rfl rfl rfl (Ad 15 rfl a b (E7 rfl rfl rfl (Ad 16 rfl a b (C9 Fz rfl (Ad 17 rfl a b (C9 CI rfl (Ad 18 rfl a b (CQ 0 A4 rfl c rfl (by simp) (Ad 19 rfl a b (C9 HS rfl (Ad 20 rfl a b (CQ 0 A4 rfl c rfl (by simp) (Ad 21 rfl a b (Jl rfl rfl rfl (Ad 22 rfl a b (C9 Gt rfl (Ad 23 rfl a b (C9 CI rfl (Ad 24 rfl a b (CQ 0 A4 rfl c rfl (by simp) (Ad 25 rfl a b (C9 Fz rfl (Ad 26 rfl a b (C9 CI rfl (Ad 27 rfl a b (CQ 0 A4 rfl c rfl (by simp) (Ad 28 rfl a b (GM rfl rfl rfl (Ax 29 rfl a b (Ad 30 rfl a b (Jl rfl rfl rfl (Ad 31 rfl a b (E7 rfl rfl rfl (Ad 32 rfl a b (AC rfl rfl (Ad 33 rfl a b (AC rfl rfl (Ba (o (Ay (rt i rfl rfl (by cases h; exact ⟨rfl,q⟩))))))))))))))))))))))))))))))))))))))))))))))))))))))))))))))))))))))
theorem MN (i:Ae) (b:Ae3) (g:Int) (h:Int) (r:(Int × Int)) (c:Ip b g h = some r) :
  A1 247 [(.agg #[(iv b.1.1),(iv b.1.2),(iv b.2.1.1),(iv b.2.1.2),(iv b.2.2)]),(iv g),(iv h)] i fun e w'=>e = .returned (.tuple #[(iv r.1),(iv r.2)]) ∧ Bl i w':=by
 refine cm Tryz.func247 Tryz.ntmps247 rfl fun Q q a s t=>?_
 unfold Ip at c
 refine Ak fun _ u=>CK rfl s t fun b2 w3 _ v w=>Aq 2 rfl (u (Ap fun _ x=>(AQ B4 [] v w fun j _ y k=>?_)))
 have d:=KeepX.refl j []
 refine Ad 0 rfl a d (CQ 0 Cz rfl k rfl (by simp) (Ad 1 rfl a d (C9 HS rfl (Ad 2 rfl a d (CQ 0 A4 rfl k rfl (by simp) (Ax 3 rfl a d (Ax 4 rfl a d (Ad 5 rfl a d (GM rfl rfl rfl (Av 6 rfl (bB c fun z aa c=>(A7 rfl Tryz.call225 (GD j b.2.2 (Ag (h - g)) _ aa) rfl ?_))))))))))))
 rintro _ ab ⟨rfl,l⟩
 refine ⟨_,rfl,?_⟩
 have ac:=tm y l
 have m:=d.ext l
 refine Ah (Am m (Av 7 rfl (bB c fun ad ae c=>(A7 rfl Tryz.call246 (Ni ab 0 z _ ae) rfl ?_))))
 rintro _ af ⟨rfl,n⟩
 refine ⟨_,rfl,?_⟩
 have ag:=tm ac n
 have o:=m.ext n
 refine Ah (Am o (Av 8 rfl (bB c fun al ah c=>(A7 rfl Tryz.call270 (X4 af b ad _ ah) rfl ?_))))
 rintro _ am ⟨rfl,p⟩
 refine ⟨_,rfl,?_⟩
 have ai:=tm ag p
 have f:=o.ext p
 refine Ah (Am f (Ad 9 rfl a f (AV rfl rfl rfl (Ad 10 rfl a f (AV rfl rfl rfl (Ad 11 rfl a f (AC rfl rfl (Ad 12 rfl a f (AC rfl rfl (Ba (x (Ay (rt q rfl rfl (by cases c; exact ⟨rfl,ai⟩))))))))))))))
theorem V1 (j:Ae) (c:Int) (d:Int) (f:Int) (g:Int) (r:(Int × Int)) (b:Kk c d f g = some r) :
  A1 248 [(iv c),(iv d),(iv f),(iv g)] j fun e w'=>e = .returned (.tuple #[(iv r.1),(iv r.2)]) ∧ Bl j w':=by
 refine cm Tryz.func248 Tryz.ntmps248 rfl fun Q l hP m n=>?_
 unfold Kk at b
 refine An 2 rfl (An 8 rfl (An 17 rfl (Ap fun _ q=>(Ap fun s t=>?_))))
 obtain ⟨u,v,b⟩:=Cj b
 have o:∀ (k:Bool) (i:Ae) (_:u k = some r) (_:Bl j i) (_:Sp j i []),∀ a,St 69 [(0,(iv c)),(1,(iv d)),(2,(iv f)),(3,(iv g)),(13,(iv (Ag ((Ag ((Ag (f - c)) * (Ag (f - c)))) + (Ag ((Ag (g - d)) * (Ag (g - d)))))))),(42,(.bool k))] a → s a i:=by
  intro k i b p ab
  subst v
  refine t (A3 rfl b (fun _ b=>?_) (fun _ b=>?_))
  ·refine An 8 rfl ?_
   refine An 6 rfl (Ay (rt l rfl rfl (by cases b; exact ⟨rfl,p⟩)))
  ·refine Au (q ?_)
   refine Ak fun _ w=>wp 14 rfl (bB b fun ac x b=>(A7 rfl Tryz.call225 (GD i (Ag ((Ag (c * c)) + (Ag (d * d)))) (Ag ((Ag (f * f)) + (Ag (g * g)))) _ x) rfl ?_))
   rintro _ ad ⟨rfl,y⟩
   refine ⟨_,rfl,?_⟩
   have z:=tm p y
   refine Aq 2 rfl (w (Ay (rt l rfl rfl (by cases b; exact ⟨rfl,z⟩))))
 refine As (wp 3 rfl ?_)
 rcases bE (decide (0 < (Ag (0 - (Ag ((Ag (c * (Ag (f - c)))) + (Ag (d * (Ag (g - d)))))))))) with h | h
 ·replace b:=BA h b
  refine wn rfl h (wp 1 rfl (wn rfl h (wp 1 rfl (wn rfl h (wp 1 rfl (AA rfl rfl h rfl (Ah ?_)))))))
  exact jx (o ((decide ((Ag (0 - (Ag ((Ag (c * (Ag (f - c)))) + (Ag (d * (Ag (g - d)))))))) < (Ag ((Ag ((Ag (f - c)) * (Ag (f - c)))) + (Ag ((Ag (g - d)) * (Ag (g - d))))))))) _ b m (n.sel [] rfl)) rfl
 ·replace b:=Cf h b
  refine wo rfl h (wo rfl h (wo rfl h (A9 rfl rfl h rfl (Ah ?_))))
  exact jx (o false _ b m (n.sel [] rfl)) rfl
theorem V9 (o:Ae) (p:Int) (g:Int) (q:Int) (h:Int) (r:Bool) (b:Ko p g q h = some r) :
  A1 249 [(iv p),(iv g),(iv q),(iv h)] o fun e w'=>e = .returned (.bool r) ∧ Bl o w':=by
 refine cm Tryz.func249 Tryz.ntmps249 rfl fun Q s a v w=>?_
 unfold Ko at b
 refine An 1 rfl (Ap fun _ x=>(Ap fun _ y=>(AQ B4 [] v w fun z _ t u=>?_)))
 have f:=KeepX.refl z []
 refine Ax 0 rfl a f (Ax 1 rfl a f ?_)
 have i:g ≠ 0:=fun i=>Bg (BA i b)
 replace b:=Lp i b
 refine Ad 2 rfl a f (LX rfl rfl rfl i (Ax 3 rfl a f (Ax 4 rfl a f ?_)))
 have j:h ≠ 0:=fun j=>Bg (BA j b)
 replace b:=Lp j b
 refine Ad 5 rfl a f (LX rfl rfl rfl j (Ad 6 rfl a f (Acs rfl rfl rfl (Ba (y (A3 rfl b (fun _ b=>?_) (fun _ b=>?_)))))))
 ·refine Ap fun _ aa=>?_
  refine AQ B4 [] t u fun ab _ ac _=>?_
  have d:=KeepX.refl ab []
  refine Ax 0 rfl a d (Ax 1 rfl a d ?_)
  have k:g ≠ 0:=fun k=>Bg (BA k b)
  replace b:=Lp k b
  refine Ad 2 rfl a d (LX rfl rfl rfl k (Ax 3 rfl a d (Ax 4 rfl a d ?_)))
  have l:h ≠ 0:=fun l=>Bg (BA l b)
  replace b:=Lp l b
  refine Ad 5 rfl a d (LX rfl rfl rfl l (Ad 6 rfl a d (LY rfl rfl rfl (Ad 7 rfl a d (AC rfl rfl (Ba (aa (Ay (rt s rfl rfl (by cases b; exact ⟨rfl,ac⟩))))))))))
 ·refine Au (x ?_)
  refine Ap fun _ ad=>AQ B4 [] t u fun ae _ af _=>?_
  have c:=KeepX.refl ae []
  refine Ax 0 rfl a c (Ax 1 rfl a c ?_)
  have m:g ≠ 0:=fun m=>Bg (BA m b)
  replace b:=Lp m b
  refine Ad 2 rfl a c (Te rfl rfl rfl m (Ax 3 rfl a c (Ad 4 rfl a c (Jl rfl rfl rfl (Ax 5 rfl a c (Ax 6 rfl a c ?_))))))
  have n:h ≠ 0:=fun n=>Bg (BA n b)
  replace b:=Lp n b
  refine Ad 7 rfl a c (Te rfl rfl rfl n (Ax 8 rfl a c (Ad 9 rfl a c (Jl rfl rfl rfl (Ad 10 rfl a c (LY rfl rfl rfl (Ad 11 rfl a c (AC rfl rfl (Ba (ad (Ay (rt s rfl rfl (by cases b; exact ⟨rfl,af⟩)))))))))))))
theorem U2 (j:Ae) (c:Ae3) (d:Ae3) (g:Int) (h:Int) (r:(Int × Int)) (b:Iw c d g h = some r) :
  A1 228 [(.agg #[(iv c.1.1),(iv c.1.2),(iv c.2.1.1),(iv c.2.1.2),(iv c.2.2)]),(.agg #[(iv d.1.1),(iv d.1.2),(iv d.2.1.1),(iv d.2.1.2),(iv d.2.2)]),(iv g),(iv h)] j fun e w'=>e = .returned (.tuple #[(iv r.1),(iv r.2)]) ∧ Bl j w':=by
 refine cm Tryz.func228 Tryz.ntmps228 rfl fun Q hQ n hB hS=>?_
 unfold Iw at b
 refine Ak fun _ a0=>CK rfl hB hS fun p w3 _ a1 a2=>CK rfl a1 a2 fun q w8 _ a3 a4=>Aq 2 rfl (a0 (An 2 rfl (Ap fun _ a5=>(An 1 rfl (A0 (AU (fun m a aa=>∃ (l:Int) (o:Int) (i:Int),St 101 [(2,(iv g)),(3,(iv h)),(4,(.pointer (some ⟨p,0,none⟩))),(5,(.pointer (some ⟨q,0,none⟩))),(10,(iv l)),(11,(iv o)),(12,(iv i))] a ∧ Bl j aa ∧ Sp j aa [A5 p 187 [(iv c.1.1),(iv c.1.2),(iv c.2.1.1),(iv c.2.1.2),(iv c.2.2)],A5 q 187 [(iv d.1.1),(iv d.1.2),(iv d.2.1.1),(iv d.2.1.2),(iv d.2.2)]] ∧ EU g h c d m l o i = some r) FU ?_ ?_))))))
 ·exact fun a ha=>⟨(-1),1,0,ha.sb rfl,a3,(a4.sel [1,0] rfl),b⟩
 ·rintro u a aa ⟨l,o,i,ha,a6,a7,b⟩ cl a8
  refine BE ?_ ha
  cases u with
  | zero=>exact Bg b
  | succ u =>
   obtain ⟨cn,ad⟩:∃ k,k = EU g h c d u:=⟨_,rfl⟩
   rw [EU,← ad] at b
   refine Ap fun _ a9=>Ap fun _ ba=>AQ B4 [] a6 a7 fun ae _ bb af=>?_
   have s:=KeepX.refl ae []
   refine Ax 0 rfl n s (Ad 1 rfl n s (C9 HS rfl (Ad 2 rfl n s (CQ 0 A4 rfl af rfl (by simp) (Ax 3 rfl n s (Ax 4 rfl n s (Av 5 rfl (bB b fun co bc b=>(Bu rfl Tryz.call246 bb af (Ni ae g h _ bc) rfl fun ag bd ah v=>?_)))))))))
   have ab:=s.ext bd
   refine Ah (Am ab (Ad 6 rfl n ab (E7 rfl rfl rfl (Ad 7 rfl n ab (LY rfl rfl rfl (Ba (ba (A3 rfl b (fun _ b=>?_) (fun _ b=>?_)))))))))
   ·refine Au (a9 ?_)
    refine Ap fun be bf=>?_
    obtain ⟨bg,bh,b⟩:=Nn b
    have ai:∀ (w:Int) (x:Int) (y:Ae) (_:bg w x = some r) (_:Bl j y) (_:Sp j y [A5 p 187 [(iv c.1.1),(iv c.1.2),(iv c.2.1.1),(iv c.2.1.2),(iv c.2.2)],A5 q 187 [(iv d.1.1),(iv d.1.2),(iv d.2.1.1),(iv d.2.1.2),(iv d.2.2)]]),∀ a,St 101 [(2,(iv g)),(3,(iv h)),(4,(.pointer (some ⟨p,0,none⟩))),(5,(.pointer (some ⟨q,0,none⟩))),(10,(iv w)),(11,(iv x)),(12,(iv i))] a → be a y:=by
     intro w x y b bi bj
     subst bh
     refine bf (As (Aq 3 rfl ?_))
     rw [ad] at b
     exact fun a ha=>a8 a _ u (AB u) ⟨w,x,(Ag (i + 1)),ha.sb rfl,bi,(bj.sel [0,1] rfl),b⟩
    refine A0 (Ak fun _ bk=>(AO 0 Cz rfl v rfl rfl (wp 2 rfl (bB b fun aj bl b=>(Bu rfl Tryz.call247 ah v (MN ag c g i _ bl) rfl fun bm _ bn ak=>(Aq 5 rfl (bk (Ak fun _ bo=>(AO 1 Cz rfl ak rfl rfl (wp 2 rfl (bB b fun al bp b=>(Bu rfl Tryz.call247 bn ak (MN bm d h i _ bp) rfl fun bq _ br am=>(Aq 5 rfl (bo (Ak fun _ bs=>(AO 0 Cz rfl am rfl rfl (wp 3 rfl (bB b fun an bt b=>(Bu rfl Tryz.call247 br am (MN bq c g (Ag (i + 1)) _ bt) rfl fun bu _ bv ao=>(Aq 5 rfl (bs (Ak fun _ bw=>(AO 1 Cz rfl ao rfl rfl (wp 3 rfl (bB b fun ap bx b=>(Bu rfl Tryz.call247 bv ao (MN bu d h (Ag (i + 1)) _ bx) rfl fun bz _ b0 b1=>(Aq 5 rfl (bw (Ak fun _ b3=>(wp 12 rfl (bB b fun t b4 b=>(Bu rfl Tryz.call248 b0 b1 (V1 bz (Ag (aj.1 - al.1)) (Ag (aj.2 - al.2)) (Ag (an.1 - ap.1)) (Ag (an.2 - ap.2)) _ b4) rfl fun b5 _ aq ar=>Aq 5 rfl (b3 (Ap fun b6 b8=>?_))))))))))))))))))))))))))))))))))
    obtain ⟨b9,ca,b⟩:=Cj b
    have au:∀ (ac:Bool) (z:Ae) (_:b9 ac = some r) (_:Bl j z) (_:Sp j z [A5 p 187 [(iv c.1.1),(iv c.1.2),(iv c.2.1.1),(iv c.2.1.2),(iv c.2.2)],A5 q 187 [(iv d.1.1),(iv d.1.2),(iv d.2.1.1),(iv d.2.1.2),(iv d.2.2)]]),∀ a,St 101 [(2,(iv g)),(3,(iv h)),(4,(.pointer (some ⟨p,0,none⟩))),(5,(.pointer (some ⟨q,0,none⟩))),(10,(iv l)),(11,(iv o)),(12,(iv i)),(21,(iv t.1)),(22,(iv t.2)),(87,(.bool ac))] a → b6 a z:=by
     intro ac z b av aw
     subst ca
     refine b8 (A3 rfl b (fun _ b=>?_) (fun _ b=>?_))
     ·refine An 2 rfl ?_
      refine As (Aq 2 rfl ?_)
      exact jx (ai (t.1) (t.2) _ b av (aw.sel [0,1] rfl)) rfl
     ·refine Au ?_
      exact jx (ai l o _ b av (aw.sel [0,1] rfl)) rfl
    refine As (wp 3 rfl ?_)
    rcases bE (decide (l < 0)) with f | f
    ·replace b:=BA f b
     refine wo rfl f (wo rfl f (wo rfl f (wo rfl f (wo rfl f (AA rfl rfl f rfl (Ah ?_))))))
     exact jx (au true _ b aq (ar.sel [0,1] rfl)) rfl
    ·replace b:=Cf f b
     refine wn rfl f (wp 1 rfl (wn rfl f (wp 1 rfl (wn rfl f (wp 1 rfl (wn rfl f (wp 1 rfl (wn rfl f (bB b fun cb cc b=>(Bu rfl Tryz.call249 aq ar (V9 b5 t.1 t.2 l o _ cc) rfl fun cp _ cd ce=>(A9 rfl rfl f rfl (Ah ?_))))))))))))
     exact jx (au cb _ b cd (ce.sel [0,1] rfl)) rfl
   ·refine Bd (a5 ?_)
    refine Ak fun _ cf=>wp 2 rfl (Bp HS rfl (AO 0 A4 rfl v rfl rfl (wp 1 rfl (Bp HS rfl (AO 0 A4 rfl v rfl rfl (wp 1 rfl (bB b fun cq cg b=>(A7 rfl Tryz.call250 (Qo ag l (Ag ((Ag (o * c.2.2)) * c.2.2)) _ cg) rfl ?_))))))))
    rintro _ cr ⟨rfl,ch⟩
    refine ⟨_,rfl,?_⟩
    have ci:=tm ah ch
    refine Aq 4 rfl (cf (Ay (rt hQ rfl rfl (by cases b; exact ⟨rfl,ci⟩))))
theorem Qn (h:Ae) (a:Ae3) (b:Ae3) (f:Int) (g:Int) (i:Int) (r:Bool) (c:IZ a b f g i = some r) :
  A1 199 [(.agg #[(iv a.1.1),(iv a.1.2),(iv a.2.1.1),(iv a.2.1.2),(iv a.2.2)]),(.agg #[(iv b.1.1),(iv b.1.2),(iv b.2.1.1),(iv b.2.1.2),(iv b.2.2)]),(iv f),(iv g),(iv i)] h fun e w'=>e = .returned (.bool r) ∧ Bl h w':=by
 refine cm Tryz.func199 Tryz.ntmps199 rfl fun Q k z l m=>?_
 unfold IZ at c
 refine Ak fun _ n=>CK rfl l m fun b2 w3 _ o p=>CK rfl o p fun b7 q _ s j=>Aq 1 rfl (n (Ak fun _ t=>(AO 1 Cz rfl j rfl rfl (AO 0 Cz rfl j rfl rfl (wp 2 rfl (bB c fun u v c=>(A7 rfl Tryz.call228 (U2 q a b f g _ v) rfl ?_)))))))
 rintro _ ad ⟨rfl,w⟩
 refine ⟨_,rfl,?_⟩
 have x:=tm s w
 refine Aq 5 rfl (t (Ak fun _ y=>(wp 2 rfl ?_)))
 have d:u.2 ≠ 0:=fun d=>Bg (BA d c)
 replace c:=Lp d c
 refine MO rfl rfl rfl d (Aq 5 rfl (y (Ay (rt k rfl rfl (by cases c; exact ⟨rfl,x⟩)))))
theorem P1 (g:Ae) (p:(Ae1 × Ae1 × Int × (List Int))) (ag:Ac) (a9:RO Ao g ag p.1) (ah:Ac) (ba:RO Ao g ah p.2.1) (ai:Ac) (bb:RO Ar g ai p.2.2.2) (q:(List Int)) (s:Ac) (ar:RO Ar g s q) (j:Int) (r:Ae6) (b:Ix p q j = some r) :
  A1 150 [(.agg #[ag,ah,(iv p.2.2.1),ai]),s,(iv j)] g fun e w'=>∃ (q0:Ac) (G0:Al),e = .returned q0 ∧ Bl g w' ∧ Sp g w' [Ab Ci G0 q0 r]:=by
 refine cm Tryz.func150 Tryz.ntmps150 rfl fun Q hQ c hB hS=>?_
 unfold Ix at b
 refine Ak fun _ bg=>CK rfl hB hS fun b2 w3 _ y av=>Aq 1 rfl (bg (Ak fun _ bi=>(AO 0 Bo rfl av rfl rfl (bB b fun u8 bj b=>(E6 rfl Tryz.call196 y av (Lk w3 p ag (a9.ro y) ah (ba.ro y) ai (bb.ro y) _ bj) rfl fun n aj c0 _ _ bk aw=>(Aq 1 rfl (bi (An 1 rfl (Ap fun _ bl=>(Ak fun _ bm=>(wp 1 rfl (BX (aw.own_ro (i:=0) rfl) Tryz.underlying184 rfl (Aq 1 rfl (bm (A0 (AU (fun m a ak=>∃ (z:Ae6) (f:Int) (t:Ac) (aa:Al),St 53 [(1,s),(2,(iv j)),(7,n),(8,t),(14,n),(15,(iv (List.length u8:Int))),(16,(iv f))] a ∧ Bl g ak ∧ Sp g ak [Ab C4 aj n u8,Ab Ci aa t z] ∧ EW u8 q j m z f = some r) FU ?_ ?_))))))))))))))))
 ·have bn:=aw.push0 (r:=Ab Ci [] (.slice none 0 0) []) rfl fun _=>.inl ⟨rfl,rfl,rfl⟩
  exact fun a ha=>⟨[],0,(.slice none 0 0),[],ha.sb rfl,bk,(bn.sel [1,0] rfl),b⟩
 ·rintro u a ak ⟨z,f,t,aa,ha,ax,al,b⟩ c1 bo
  refine BE ?_ ha
  cases u with
  | zero=>exact Bg b
  | succ u =>
   obtain ⟨ay,az⟩:∃ k,k = EW u8 q j u:=⟨_,rfl⟩
   rw [EW,← az] at b
   refine An 1 rfl (Ap fun _ bp=>(A3 rfl b (fun _ b=>?_) (fun _ b=>?_)))
   ·refine Au (bp ?_)
    refine Ap fun _ bq=>A0 (Ak fun _ br=>(wp 1 rfl (bB b fun h bs b=>(Cw (e:=C4) (i:=0) Tryz.underlying184 rfl rfl rfl al rfl bs ?_))))
    rintro c2 _ rfl bt c3
    refine BZ Cz rfl bt rfl (Ei Cz rfl ax al fun ab c4 _ bu bv=>(wp 1 rfl (Gj 0 Cz rfl rfl bu bv rfl rfl rfl fun c5 _ bw bx=>(Ah (br (An 3 rfl (A0 (AU (fun m a am=>∃ (v:Ae6) (o:Int) (w:Ac) (ac:Al),St 53 [(1,s),(2,(iv j)),(7,n),(8,w),(9,(iv f)),(10,(.pointer (some ⟨ab,0,none⟩))),(11,(iv o)),(14,n),(15,(iv (List.length u8:Int))),(16,(iv f))] a ∧ Bl g am ∧ Sp g am [Ab C4 aj n u8,Ab Ci ac w v,A5 ab 187 [(iv h.1.1),(iv h.1.2),(iv h.2.1.1),(iv h.2.1.2),(iv h.2.2)]] ∧ EV u8 q f h j ay m v o = some r) FU ?_ ?_))))))))
    ·exact fun a ha=>⟨z,(Ag (f + 1)),t,aa,ha.sb rfl,bw,(bx.sel [1,2,0] rfl),b⟩
    ·rintro x a am ⟨v,o,w,ac,ha,a0,an,b⟩ c6 bz
     refine BE ?_ ha
     cases x with
     | zero=>exact Bg b
     | succ x =>
      obtain ⟨c7,a1⟩:∃ k,k = EV u8 q f h j ay x:=⟨_,rfl⟩
      rw [EV,← a1] at b
      refine Ap fun _ b0=>Ak fun _ b1=>wp 2 rfl (BX (an.own_ro (i:=0) rfl) Tryz.underlying184 rfl (Aq 1 rfl (b1 (A3 rfl b (fun _ b=>?_) (fun _ b=>?_)))))
      ·refine Au (b0 ?_)
       refine Ap fun b3 b4=>?_
       obtain ⟨b5,b6,b⟩:=Cj b
       have a2:∀ (ad:Ae6) (ae:Ac) (ao:Al) (af:Ae) (_:b5 ad = some r) (_:Bl g af) (_:Sp g af [Ab C4 aj n u8,Ab Ci ao ae ad,A5 ab 187 [(iv h.1.1),(iv h.1.2),(iv h.2.1.1),(iv h.2.1.2),(iv h.2.2)]]),∀ a,St 53 [(1,s),(2,(iv j)),(7,n),(8,ae),(9,(iv f)),(10,(.pointer (some ⟨ab,0,none⟩))),(11,(iv o)),(14,n),(15,(iv (List.length u8:Int))),(16,(iv f))] a → b3 a af:=by
        intro ad ae ao af b b7 b8
        subst b6
        refine b4 (As (Aq 3 rfl ?_))
        rw [a1] at b
        exact fun a ha=>bz a _ x (AB x) ⟨ad,(Ag (o + 1)),ae,ao,ha.sb rfl,b7,(b8.sel [0,1,2] rfl),b⟩
       refine A0 (Ap fun _ b9=>(AQ B4 [] a0 an fun a3 _ ap aq=>?_))
       have d:=KeepX.refl a3 []
       refine Ad 0 rfl c d (CQ 2 Cz rfl aq rfl (by simp) (Ax 1 rfl c d (Ax 2 rfl c d (bB b fun ca cb b=>(Ad 3 rfl c d (Bv (e:=C4) (i:=0) Tryz.underlying184 rfl rfl rfl aq rfl cb ?_))))))
       rintro c8 _ rfl cc c9
       refine Ad 4 rfl c d (BL Cz rfl (cc.kx0) rfl (Ax 5 rfl c d (Ax 6 rfl c d (bB b fun cd ce b=>(Ad 7 rfl c d (BB (e:=Ar) Tryz.underlying36 rfl rfl rfl ar ce ?_))))))
       rintro da _ rfl cf
       refine Ad 8 rfl c d (BL A4 rfl (cf.kx ap (by simp)) rfl (Ax 9 rfl c d (Ax 10 rfl c d (bB b fun cg ch b=>(Ad 11 rfl c d (BB (e:=Ar) Tryz.underlying36 rfl rfl rfl ar ch ?_))))))
       rintro db _ rfl ci
       refine Ad 12 rfl c d (BL A4 rfl (ci.kx ap (by simp)) rfl (Ax 13 rfl c d (Av 14 rfl (bB b fun dc cj b=>(Bu rfl Tryz.call199 ap aq (Qn a3 h ca cd cg j _ cj) rfl fun dd ck a4 a5=>?_)))))
       have a6:=d.ext ck
       refine Ah (Am a6 (Ad 15 rfl c a6 (KM rfl rfl (Ba (b9 (A3 rfl b (fun _ b=>?_) (fun _ b=>?_)))))))
       ·refine As ?_
        refine wp 3 rfl (Bc (vs:=[(iv f),(iv o)]) (l:=[f,o]) Co Tryz.underlying36 rfl rfl rfl rfl rfl rfl a4 a5 fun a7 cl de _ cn a8=>?_)
        have co:=a8.sel [0,1,2,3] rfl
        have cp:=co.head (r':=Qc Ci cl [a7] [f,o]) (rfl) fun _ h0=>⟨_,rfl,h0⟩
        refine N5 (e:=Ci) (vs:=[a7]) Tryz.underlying155 rfl rfl (Ce (a8.own_ro (i:=0) rfl).one) rfl cn cp fun df dg dh _ _ cr cs=>bB b fun ct cu b=>Lb (e:=Ci) Tryz.underlying155 rfl rfl rfl cr (cs.sel [2,0,1,3] rfl) cu fun cv cw di _ cx cy=>Aq 1 rfl ?_
        exact jx (a2 ct cv cw _ b cx (cy.sel [1,0,2] rfl)) rfl
       ·refine Au ?_
        exact jx (a2 v w ac _ b a4 (a5.sel [0,1,2] rfl)) rfl
      ·refine Bd (bq ?_)
       refine As (Aq 2 rfl ?_)
       rw [az] at b
       exact fun a ha=>bo a _ u (AB u) ⟨v,(Ag (f + 1)),w,ac,ha.sb rfl,a0,(an.sel [0,1] rfl),b⟩
   ·refine Bd (bl ?_)
    refine An 2 rfl (Ay (rt hQ rfl rfl (by cases b; exact ⟨t,aa,rfl,ax,al.sel [1] rfl⟩)))
theorem V7 (m:Ae) (g:(Ae1 × Ae1 × Int × (List Int))) (y:Ac) (av:RO Ao m y g.1) (z:Ac) (aw:RO Ao m z g.2.1) (aa:Ac) (ab:RO Ar m aa g.2.2.2) (x1:Int) (x2:Int) (r:(Ae1 × Ae1 × Int × (List Int))) (c:Km g x1 x2 = some r) :
  A1 200 [(.agg #[y,z,(iv g.2.2.1),aa]),(iv x1),(iv x2)] m fun e w'=>∃ (q0:Ac) (G0:Al) (q1:Ac) (G1:Al) (q2:Ac) (G2:Al),e = .returned (.agg #[q0,q1,(iv r.2.2.1),q2]) ∧ Bl m w' ∧ Sp m w' [Ab Ao G0 q0 r.1,Ab Ao G1 q1 r.2.1,Ab Ar G2 q2 r.2.2.2]:=by
 refine cm Tryz.func200 Tryz.ntmps200 rfl fun Q hQ a hB hS=>?_
 unfold Km at c
 refine Ak fun _ a3=>CK rfl hB hS fun b2 w3 _ a4 a5=>Ei Bo rfl a4 a5 fun b7 w8 _ s t=>Ah (a3 (Ak fun _ a7=>(Bp E0 rfl (AO 1 Cm rfl t rfl rfl (Bp KR rfl (AO 1 Cm rfl t rfl rfl (Bp KQ rfl (AO 1 A4 rfl t rfl rfl (Bp Gu rfl (AO 1 Fu rfl t rfl rfl (bB c fun u a8 c=>(A7 rfl Tryz.call142 (Nk w8 g.1 y (av.ro s) g.2.1 z (aw.ro s) g.2.2.1 g.2.2.2 aa (ab.ro s) _ a8) rfl ?_))))))))))))
 rintro _ b1 ⟨n,a9,p,ba,q,v,rfl,ai,bb⟩
 refine ⟨_,rfl,?_⟩
 have bc:=tm s ai
 have bd:=t.join ai bb s.size
 refine Ei Bo rfl bc bd fun aj b3 _ be x=>B9 (i:=0) (vs:=[n,p,(iv u.2.2.1),q]) (cs':=[n,p,(iv u.2.2.1),q]) Bo rfl rfl rfl rfl be x rfl rfl ⟨(x.own_ro (i:=1) rfl).one,(x.own_ro (i:=2) rfl).one,rfl,(x.own_ro (i:=3) rfl).one,trivial⟩ rfl fun b4 _ bf bg=>Ah (a7 (Ap fun _ bh=>(AQ B4 v bf bg fun bi _ ak k=>?_)))
 have d:=KeepX.refl bi v
 refine Ad 0 rfl a d (C9 Gu rfl (Ad 1 rfl a d (CQ 0 Fu rfl k rfl (k.disj (i:=0) (j:=3) rfl rfl rfl aj (by simp [A5])) (Ax 2 rfl a d (Ad 3 rfl a d (C9 Gu rfl (Ad 4 rfl a d (CQ 5 Fu rfl k rfl (k.disj (i:=5) (j:=3) rfl rfl rfl b2 (by simp [A5])) (Ax 5 rfl a d (bB c fun al bj c=>(Ad 6 rfl a d (BB (e:=Ar) Tryz.underlying36 rfl rfl rfl ab bj ?_))))))))))))
 rintro b5 _ rfl bk
 refine Ad 7 rfl a d (BL A4 rfl (bk.kx ak (fun b hb=>(((k.get (i:=3) rfl).2.1 b hb).1))) rfl (bB c fun b6 am c=>(Ad 8 rfl a d (Bv (e:=Ar) (i:=3) Tryz.underlying36 rfl rfl rfl k rfl am ?_))))
 rintro b8 _ rfl b9 bl
 refine Av 9 rfl (BT (i:=3) (o:=0) (vs:=[(iv al)]) (u':=al) Co A4 rfl rfl rfl rfl bl am ak k rfl rfl ⟨rfl,trivial⟩ rfl fun ca an bm bn=>?_)
 have bo:=d.wr' an.1 an.2.1 (fun _ _ h=>h)
 refine Ah (Am bo (Ba (bh (Ap fun _ bp=>(AQ B4 v bm bn fun bq _ ao l=>?_)))))
 have f:=KeepX.refl bq v
 refine Ad 0 rfl a f (C9 Gu rfl (Ad 1 rfl a f (CQ 0 Fu rfl l rfl (l.disj (i:=0) (j:=3) rfl rfl rfl aj (by simp [A5])) (Ax 2 rfl a f (Ad 3 rfl a f (C9 Gu rfl (Ad 4 rfl a f (CQ 5 Fu rfl l rfl (l.disj (i:=5) (j:=3) rfl rfl rfl b2 (by simp [A5])) (Ax 5 rfl a f (bB c fun ap br c=>(Ad 6 rfl a f (BB (e:=Ar) Tryz.underlying36 rfl rfl rfl ab br ?_))))))))))))
 rintro cb _ rfl bs
 refine Ad 7 rfl a f (BL A4 rfl (bs.kx ao (fun b hb=>(((l.get (i:=3) rfl).2.1 b hb).1))) rfl (bB c fun cc aq c=>(Ad 8 rfl a f (Bv (e:=Ar) (i:=3) Tryz.underlying36 rfl rfl rfl l rfl aq ?_))))
 rintro cd _ rfl ce bt
 refine Av 9 rfl (BT (i:=3) (o:=0) (vs:=[(iv ap)]) (u':=ap) Co A4 rfl rfl rfl rfl bt aq ao l rfl rfl ⟨rfl,trivial⟩ rfl fun cf ar bu w=>?_)
 have bv:=f.wr' ar.1 ar.2.1 (fun _ _ h=>h)
 refine Ah (Am bv (Ba (bp (Ak fun _ bw=>(AO 0 Bo rfl w rfl rfl (B9 (i:=4) (vs:=[n,p,(iv u.2.2.1),q]) (cs':=[n,p,(iv u.2.2.1),q]) Bo rfl rfl rfl rfl bu w rfl rfl ⟨(w.own_ro (i:=1) rfl).one,(w.own_ro (i:=2) rfl).one,rfl,(w.own_ro (i:=3) rfl).one,trivial⟩ rfl fun cg _ bx au=>(Ah (bw (Ay ?_)))))))))
 obtain rfl:=Option.some.inj c
 exact IM (vs:=[(.agg #[n,p,(iv u.2.2.1),q])]) hQ rfl ⟨Ha (i:=4) Bo rfl au rfl rfl rfl,trivial⟩ ⟨n,a9,p,ba,q,v,rfl,bx,au.sel [1,2,3] rfl⟩
theorem V0 (f:Ae) (c:(Ae1 × Ae1 × Int × (List Int))) (j:Ac) (u:RO Ao f j c.1) (l:Ac) (ak:RO Ao f l c.2.1) (n:Ac) (al:RO Ar f n c.2.2.2) (g:Int) (r:(Int × Int)) (b:Kj c g = some r) :
  A1 151 [(.agg #[j,l,(iv c.2.2.1),n]),(iv g)] f fun e w'=>e = .returned (.tuple #[(iv r.1),(iv r.2)]) ∧ Bl f w':=by
 refine cm Tryz.func151 Tryz.ntmps151 rfl fun Q z hP hB hS=>?_
 unfold Kj at b
 refine Ak fun _ ao=>CK rfl hB hS fun v w3 _ ap aa=>Aq 2 rfl (ao (Ak fun _ aq=>(Bp E0 rfl (AO 0 Cm rfl aa rfl rfl (BX u Tryz.underlying26 rfl (bB b fun u8 ar b=>(N4 (e:=Ar) Tryz.underlying36 rfl rfl ar ap aa fun o ab bh _ au ac=>(Aq 1 rfl (aq (Ap fun _ av=>(Ak fun _ aw=>(Bp E0 rfl (AO 1 Cm rfl ac rfl rfl (BX u Tryz.underlying26 rfl (Aq 1 rfl (aw (A0 (AU (fun m a y=>∃ (d:Int),St 40 [(1,(iv g)),(2,(.pointer (some ⟨v,0,none⟩))),(6,o),(15,(iv (List.length c.1:Int))),(16,(iv d))] a ∧ Bl f y ∧ Sp f y [A5 v 128 [j,l,(iv c.2.2.1),n],Ab Ar ab o u8] ∧ Ek c u8 g m d = some r) FU ?_ ?_))))))))))))))))))
 ·exact fun a ha=>⟨0,ha.sb rfl,au,(ac.sel [1,0] rfl),b⟩
 ·rintro p a y ⟨d,ha,ad,ax,b⟩ bi ay
  refine BE ?_ ha
  cases p with
  | zero=>exact Bg b
  | succ p =>
   obtain ⟨ae,af⟩:∃ k,k = Ek c u8 g p:=⟨_,rfl⟩
   rw [Ek,← af] at b
   refine An 1 rfl (Ap fun _ az=>(A3 rfl b (fun _ b=>?_) (fun _ b=>?_)))
   ·refine Au (az ?_)
    refine Ap fun _ a0=>A0 (An 2 rfl (An 3 rfl (A0 (AU (fun m a w=>∃ (q:Int),St 40 [(1,(iv g)),(2,(.pointer (some ⟨v,0,none⟩))),(6,o),(7,(iv d)),(8,(iv q)),(15,(iv (List.length c.1:Int))),(16,(iv d))] a ∧ Bl f w ∧ Sp f w [A5 v 128 [j,l,(iv c.2.2.1),n],Ab Ar ab o u8] ∧ FB c d u8 g ae m q = some r) FU ?_ ?_))))
    ·exact fun a ha=>⟨(Ag (d + 1)),ha.sb rfl,ad,(ax.sel [0,1] rfl),b⟩
    ·rintro s a w ⟨q,ha,h,x,b⟩ bj a1
     refine BE ?_ ha
     cases s with
     | zero=>exact Bg b
     | succ s =>
      obtain ⟨bk,ag⟩:∃ k,k = FB c d u8 g ae s:=⟨_,rfl⟩
      rw [FB,← ag] at b
      refine Ap fun _ a2=>Ak fun _ a3=>wp 1 rfl (Bp E0 rfl (AO 0 Cm rfl x rfl rfl (BX u Tryz.underlying26 rfl (Aq 1 rfl (a3 (A3 rfl b (fun _ b=>?_) (fun _ b=>?_)))))))
      ·refine Au (a2 ?_)
       refine Ap fun _ a4=>A0 (Ak fun _ a5=>(AO 0 Bo rfl x rfl rfl (wp 2 rfl (bB b fun a6 a7 b=>(A7 rfl Tryz.call200 (V7 w c j (u.ro h) l (ak.ro h) n (al.ro h) d q _ a7) rfl ?_)))))
       rintro _ a8 ⟨a9,bl,ba,bm,bb,bn,rfl,ah,bc⟩
       refine ⟨_,rfl,?_⟩
       have bd:=tm h ah
       have t:=x.join ah bc h.size
       refine wp 2 rfl (bB b fun bo be b=>(E6 rfl Tryz.call150 bd t (P1 a8 a6 a9 (t.own_ro (i:=0) rfl) ba (t.own_ro (i:=1) rfl) bb (t.own_ro (i:=2) rfl) u8 o (t.own_ro (i:=4) rfl) g _ be) rfl fun bp bq br _ _ ai aj=>(BX (aj.own_ro (i:=0) rfl) Tryz.underlying155 rfl (Aq 1 rfl (a5 (A3 rfl b (fun _ b=>?_) (fun _ b=>?_)))))))
       ·refine An 4 rfl ?_
        refine Ay (rt z rfl rfl (by cases b; exact ⟨rfl,ai⟩))
       ·refine Au (a4 ?_)
        refine As (Aq 3 rfl ?_)
        rw [ag] at b
        exact fun a ha=>a1 a _ s (AB s) ⟨(Ag (q + 1)),ha.sb rfl,ai,(aj.sel [4,5] rfl),b⟩
      ·refine Bd (a0 ?_)
       refine As (Aq 2 rfl ?_)
       rw [af] at b
       exact fun a ha=>ay a _ p (AB p) ⟨(Ag (d + 1)),ha.sb rfl,h,(x.sel [0,1] rfl),b⟩
   ·refine Bd (av ?_)
    refine An 2 rfl (Ay (rt z rfl rfl (by cases b; exact ⟨rfl,ad⟩)))
theorem Py (c:Ae) (d:((List Ae3) × Int × (List Int))) (f:Nat) (k:Al) (o:Int) (p:Int) (m:Int) (n:Int) (ax:Sep 0 c [A2 Cc 198 k f d]) (r:(Bool × ((List Ae3) × Int × (List Int)))) (b:G7 d o p m n = some r) :
  A1 229 [(.pointer (some ⟨f,0,none⟩)),(iv o),(iv p),(iv m),(iv n)] c fun e w'=>∃ (H_0:Al),e = .returned (.bool r.1) ∧ Below 0 (wE c) w' ∧ Sep 0 w' [A6 c (Be [A2 Cc 198 k f d]),A2 Cc 198 H_0 f r.2]:=by
 refine G4 Tryz.func229 rfl Tryz.ntmps229 rfl rfl fun Q hQ h=>?_
 have hB:Bl (wE c) c:=Ej c
 have hS:Sp (wE c) c [A6 c (Be [A2 Cc 198 k f d]),A2 Cc 198 k f d]:=ax.rest
 unfold G7 at b
 refine An 1 rfl (Ap fun K2 a1=>?_)
 obtain ⟨a2,a3,b⟩:=Cj b
 have ae:∀ (q:((List Ae3) × Int × (List Int))) (af:Al) (t:Ae) (_:a2 q = some r) (_:Bl (wE c) t) (_:Sp (wE c) t [A6 c (Be [A2 Cc 198 k f d]),A2 Cc 198 af f q]),∀ a,St 71 [(0,(.pointer (some ⟨f,0,none⟩))),(1,(iv o)),(2,(iv p)),(3,(iv m)),(4,(iv n))] a → K2 a t:=by
  intro q af t b a4 a5
  subst a3
  refine a1 (Ak fun _ a6=>(wp 5 rfl (BC rfl rfl (Bp Sz rfl ?_))))
  have ag:=Hl b
  replace b:=BA ag b
  refine HY Tryz.underlying196 Tryz.sizeOf194 ag rfl rfl rfl ?_
  have ah:=Hl b
  replace b:=BA ah b
  refine HY Tryz.underlying194 Tryz.sizeOf193 ah rfl rfl rfl ?_
  have ai:=Hl b
  replace b:=BA ai b
  refine HY Tryz.underlying193 Tryz.sizeOf192 ai rfl rfl rfl ?_
  have aj:=Hl b
  replace b:=BA aj b
  refine HY Tryz.underlying192 Tryz.sizeOf3 aj rfl rfl rfl ?_
  obtain ⟨a7,cd,a8,ak⟩:=NT (a5.sel [1,0] rfl)
  refine bB b fun ce a9 b=>lda 0 (pre:=[a7,(iv q.2.1)]) (arr:=(MG q.2.2)) (j:=o.toNat * 150 + p.toNat * 25 + m.toNat * 5 + n.toNat * 1) A4 rfl rfl ak rfl (Ade a9) (by simp only [List.length_nil,List.length_cons]; omega) (Aq 2 rfl (a6 (Ay ?_)))
  obtain ⟨ba,bb⟩:∃ F,Sp (wE c) t [A2 Cc 198 F f q,A6 c (Be [A2 Cc 198 k f d])]:=⟨_,Io a8 (ak.sel [0,1,2] rfl)⟩
  refine rt hQ rfl rfl (by cases b; exact ⟨ba,rfl,a4,bb.sel [1,0] rfl⟩)
 refine Ak fun _ bc=>wp 5 rfl (BC rfl rfl (Bp Sz rfl ?_))
 have v:=Hl b
 replace b:=BA v b
 refine HY Tryz.underlying196 Tryz.sizeOf194 v rfl rfl rfl ?_
 have w:=Hl b
 replace b:=BA w b
 refine HY Tryz.underlying194 Tryz.sizeOf193 w rfl rfl rfl ?_
 have x:=Hl b
 replace b:=BA x b
 refine HY Tryz.underlying193 Tryz.sizeOf192 x rfl rfl rfl ?_
 have y:=Hl b
 replace b:=BA y b
 refine HY Tryz.underlying192 Tryz.sizeOf3 y rfl rfl rfl ?_
 obtain ⟨bd,cf,al,z⟩:=NT (hS.sel [1,0] rfl)
 refine bB b fun cg be b=>lda 0 (pre:=[bd,(iv d.2.1)]) (arr:=(MG d.2.2)) (j:=o.toNat * 150 + p.toNat * 25 + m.toNat * 5 + n.toNat * 1) A4 rfl rfl z rfl (Ade be) (by simp only [List.length_nil,List.length_cons]; omega) (Aq 1 rfl (bc (A3 rfl b (fun _ b=>?_) (fun _ b=>?_))))
 ·refine An 1 rfl ?_
  refine Ap fun bf bg=>?_
  obtain ⟨ch,bh⟩:∃ F,Sp (wE c) c [A2 Cc 198 F f d,A6 c (Be [A2 Cc 198 k f d])]:=⟨_,Io al (z.sel [0,1,2] rfl)⟩
  obtain ⟨bi,bj,b⟩:=Nn b
  have am:∀ (l:((List Ae3) × Int × (List Int))) (aa:Int) (an:Al) (u:Ae) (_:bi l aa = some r) (_:Bl (wE c) u) (_:Sp (wE c) u [A6 c (Be [A2 Cc 198 k f d]),A2 Cc 198 an f l]),∀ a,St 71 [(0,(.pointer (some ⟨f,0,none⟩))),(1,(iv o)),(2,(iv p)),(3,(iv m)),(4,(iv n)),(11,(iv aa))] a → bf a u:=by
   intro l aa an u b bk bl
   subst bj
   refine bg (As (wp 6 rfl (BC rfl rfl (Bp Sz rfl (HY Tryz.underlying196 Tryz.sizeOf194 v rfl rfl rfl (HY Tryz.underlying194 Tryz.sizeOf193 w rfl rfl rfl (HY Tryz.underlying193 Tryz.sizeOf192 x rfl rfl rfl (HY Tryz.underlying192 Tryz.sizeOf3 y rfl rfl rfl ?_))))))))
   obtain ⟨bm,ci,bn,bo⟩:=NT (bl.sel [1,0] rfl)
   refine bB b fun ao ab b=>sta 0 (pre:=[bm,(iv l.2.1)]) (arr:=(MG l.2.2)) (j:=o.toNat * 150 + p.toNat * 25 + m.toNat * 5 + n.toNat * 1) A4 rfl rfl rfl bk bo rfl (ZM ab) (by simp only [List.length_nil,List.length_cons]; omega) fun bp _ bq ap=>?_
   rw [Acp ab] at ap
   refine Ah ?_
   obtain ⟨br,bs⟩:∃ F,Sp (wE c) bp [A2 Cc 198 F f (l.1,l.2.1,ao),A6 c (Be [A2 Cc 198 k f d])]:=⟨_,Io (Sn ab bn) (ap.sel [0,1,2] rfl)⟩
   exact jx (ae ((l.1,l.2.1,ao)) br _ b bq (bs.sel [1,0] rfl)) rfl
  refine Ap fun _ bt=>?_
  obtain ⟨ac,cj,aq,bu⟩:=NT (bh.sel [0,1] rfl)
  refine AQ B4 [] hB bu fun ar _ bv s=>?_
  have g:=KeepX.refl ar []
  refine Ax 0 rfl h g (Ad 1 rfl h g (B8 rfl rfl (Ad 2 rfl h g (C9 S0 rfl (Ad 3 rfl h g (Wr 0 (pre:=[ac,(iv d.2.1)]) VX rfl rfl s rfl rfl (by simp) (Ax 4 rfl h g (bB b fun bw bx b=>(Ad 5 rfl h g (Bv (e:=C4) (i:=1) Tryz.underlying184 rfl rfl rfl s rfl bx ?_))))))))))
  rintro ck _ rfl bz cl
  refine Ad 6 rfl h g (BL Cz rfl (bz.kx0) rfl (Ax 7 rfl h g (Ad 8 rfl h g (B8 rfl rfl (Ad 9 rfl h g (C9 S0 rfl (Ad 10 rfl h g (Wr 0 (pre:=[ac,(iv d.2.1)]) VX rfl rfl s rfl rfl (by simp) (Ax 11 rfl h g (bB b fun b1 b2 b=>(Ad 12 rfl h g (Bv (e:=C4) (i:=1) Tryz.underlying184 rfl rfl rfl s rfl b2 ?_))))))))))))
  rintro cm _ rfl b3 cn
  refine Ad 13 rfl h g (BL Cz rfl (b3.kx0) rfl (Ax 14 rfl h g (Ax 15 rfl h g (Ax 16 rfl h g (Ad 17 rfl h g (B8 rfl rfl (Ad 18 rfl h g (C9 Aao rfl (Ad 19 rfl h g (Wr 0 (pre:=[ac,(iv d.2.1)]) A4 rfl rfl s rfl rfl (by simp) (Av 20 rfl (bB b fun co b4 b=>(Bu rfl Tryz.call199 bv s (Qn ar bw b1 m n d.2.1 _ b4) rfl fun au b5 av aw=>?_)))))))))))))
  have b6:=g.ext b5
  refine Ah (Am b6 (Ba (bt (A3 rfl b (fun _ b=>?_) (fun _ b=>?_)))))
  ·refine As ?_
   refine Aq 1 rfl ?_
   obtain ⟨b7,b8⟩:∃ F,Sp (wE c) au [A2 Cc 198 F f d,A6 c (Be [A2 Cc 198 k f d])]:=⟨_,Io aq (aw.sel [0,1,2] rfl)⟩
   exact jx (am d 1 b7 _ b av (b8.sel [1,0] rfl)) rfl
  ·refine Au ?_
   obtain ⟨b9,ca⟩:∃ F,Sp (wE c) au [A2 Cc 198 F f d,A6 c (Be [A2 Cc 198 k f d])]:=⟨_,Io aq (aw.sel [0,1,2] rfl)⟩
   exact jx (am d 2 b9 _ b av (ca.sel [1,0] rfl)) rfl
 ·refine Au ?_
  obtain ⟨cb,cc⟩:∃ F,Sp (wE c) c [A2 Cc 198 F f d,A6 c (Be [A2 Cc 198 k f d])]:=⟨_,Io al (z.sel [0,1,2] rfl)⟩
  exact jx (ae d cb _ b hB (cc.sel [1,0] rfl)) rfl
theorem Pd:∀ (m:Nat) (d:Ae) (j:((List Ae3) × Int × (List Int))) (f:Nat) (o:Al) (c:(List Int)) (g:Ac) (h:Al) (p:Int) (al:Sep 0 d [A2 Cc 198 o f j,Ab Ar h g c]) (r:((List Int) × ((List Ae3) × Int × (List Int)))) (b:Db m j c p = some r),
  A1 201 [(.pointer (some ⟨f,0,none⟩)),g,(iv p)] d fun e w'=>∃ (q0:Ac) (G0:Al) (H_0:Al),e = .returned q0 ∧ Below 0 (wE d) w' ∧ Sep 0 w' [A6 d (Be [A2 Cc 198 o f j,Ab Ar h g c]),A2 Cc 198 H_0 f r.2,Ab Ar G0 q0 r.1]:=by
 intro m
 induction m with
 | zero =>
  intro d j f o c g h p al r b
  exact Bg b
 | succ m ih =>
  intro d j f o c g h p al r b
  replace b:FSx (Db m) j c p = some r:=b
  obtain ⟨rec,hrec⟩:∃ k,k = Db m:=⟨_,rfl⟩
  rw [← hrec] at b ih
  refine G4 Tryz.func201 rfl Tryz.ntmps201 rfl rfl fun Q hQ hP=>?_
  have hB:Bl (wE d) d:=Ej d
  have hS:Sp (wE d) d [A6 d (Be [A2 Cc 198 o f j,Ab Ar h g c]),A2 Cc 198 o f j,Ab Ar h g c]:=al.rest
  unfold FSx at b
  refine An 1 rfl (Ak fun _ bi=>(wp 1 rfl (BX (hS.own_ro (i:=2) rfl) Tryz.underlying36 rfl (Aq 1 rfl (bi (Ap fun _ bj=>(Ak fun _ bk=>(wp 2 rfl (BC rfl rfl (Bp S0 rfl ?_))))))))))
  obtain ⟨v5,F6,an,w⟩:=NT (hS.sel [1,0,2] rfl)
  refine ldr 0 (pre:=[v5,(iv j.2.1)]) VX rfl w rfl rfl (BX (w.own_ro (i:=1) rfl) Tryz.underlying184 rfl (Aq 1 rfl (bk (A3 rfl b (fun _ b=>?_) (fun _ b=>?_)))))
  ·refine Ap fun _ bm=>?_
   refine An 2 rfl (A3 rfl b (fun _ b=>?_) (fun _ b=>?_))
   ·refine An 1 rfl ?_
    refine Ay ?_
    obtain ⟨bn,bo⟩:∃ F,Sp (wE d) d [A2 Cc 198 F f j,A6 d (Be [A2 Cc 198 o f j,Ab Ar h g c]),Ab Ar h g c]:=⟨_,Io an (w.sel [0,1,2,3] rfl)⟩
    have bp:=bo.push0 (r:=Ab Ar [] (.slice none 0 0) []) rfl fun _=>.inl ⟨rfl,rfl,rfl⟩
    refine rt hQ rfl rfl (by cases b; exact ⟨(.slice none 0 0),[],bn,rfl,hB,bp.sel [2,1,0] rfl⟩)
   ·refine Au (bm ?_)
    refine An 2 rfl (Ay ?_)
    obtain ⟨bq,br⟩:∃ F,Sp (wE d) d [A2 Cc 198 F f j,A6 d (Be [A2 Cc 198 o f j,Ab Ar h g c]),Ab Ar h g c]:=⟨_,Io an (w.sel [0,1,2,3] rfl)⟩
    refine rt hQ rfl rfl (by cases b; exact ⟨g,h,bq,rfl,hB,br.sel [1,0,2] rfl⟩)
  ·refine Au (bj ?_)
   refine Ap fun _ bs=>An 1 rfl (A0 ?_)
   obtain ⟨bt,bu⟩:∃ F,Sp (wE d) d [A2 Cc 198 F f j,A6 d (Be [A2 Cc 198 o f j,Ab Ar h g c]),Ab Ar h g c]:=⟨_,Io an (w.sel [0,1,2,3] rfl)⟩
   refine AU (fun m a ac=>∃ (ad:((List Ae3) × Int × (List Int))) (q:Int) (ae:Al),St 64 [(0,(.pointer (some ⟨f,0,none⟩))),(1,g),(2,(iv p)),(7,(iv (List.length c:Int))),(8,(iv q))] a ∧ Bl (wE d) ac ∧ Sp (wE d) ac [A6 d (Be [A2 Cc 198 o f j,Ab Ar h g c]),A2 Cc 198 ae f ad,Ab Ar h g c] ∧ CP p c rec m ad q = some r) FU ?_ ?_
   ·exact fun a ha=>⟨j,0,bt,ha.sb rfl,hB,(bu.sel [1,0,2] rfl),b⟩
   ·rintro x a ac ⟨ad,q,ae,ha,bv,bw,b⟩ c9 bx
    refine BE ?_ ha
    cases x with
    | zero=>exact Bg b
    | succ x =>
     obtain ⟨da,a4⟩:∃ k,k = CP p c rec x:=⟨_,rfl⟩
     rw [CP,← a4] at b
     refine Ap fun _ bz=>Ak fun _ b1=>wp 2 rfl (bB b fun db b2 b=>(Bu rfl Tryz.call225 bv bw (GD ac p 4 _ b2) rfl fun dc _ a5 ao=>(Aq 1 rfl (b1 (A3 rfl b (fun _ b=>?_) (fun _ b=>?_))))))
     ·refine Au (bz ?_)
      refine Ap fun b3 b4=>?_
      obtain ⟨ap,b5,b⟩:=Cj b
      have a6:∀ (af:((List Ae3) × Int × (List Int))) (aq:Al) (ag:Ae) (_:ap af = some r) (_:Bl (wE d) ag) (_:Sp (wE d) ag [A6 d (Be [A2 Cc 198 o f j,Ab Ar h g c]),A2 Cc 198 aq f af,Ab Ar h g c]),∀ a,St 64 [(0,(.pointer (some ⟨f,0,none⟩))),(1,g),(2,(iv p)),(7,(iv (List.length c:Int))),(8,(iv q))] a → b3 a ag:=by
       intro af aq ag b b6 b7
       subst b5
       refine b4 (As (Aq 3 rfl ?_))
       rw [a4] at b
       exact fun a ha=>bx a _ x (AB x) ⟨af,(Ag (q + 1)),aq,ha.sb rfl,b6,(b7.sel [0,1,2] rfl),b⟩
      refine A0 (An 1 rfl (Ap fun _ b8=>(Ak fun _ b9=>(wp 1 rfl (BX (ao.own_ro (i:=2) rfl) Tryz.underlying36 rfl (Aq 1 rfl (b9 (A0 (AU (fun m a y=>∃ (s:((List Ae3) × Int × (List Int))) (ah:Bool) (v:Int) (t:Al),St 64 [(0,(.pointer (some ⟨f,0,none⟩))),(1,g),(2,(iv p)),(7,(iv (List.length c:Int))),(8,(iv q)),(9,(.bool ah)),(31,g),(32,(iv (List.length c:Int))),(33,(iv v))] a ∧ Bl (wE d) y ∧ Sp (wE d) y [A6 d (Be [A2 Cc 198 o f j,Ab Ar h g c]),A2 Cc 198 t f s,Ab Ar h g c] ∧ CN c q ap rec p m s ah v = some r) FU ?_ ?_)))))))))
      ·exact fun a ha=>⟨ad,true,0,ae,ha.sb rfl,a5,(ao.sel [0,1,2] rfl),b⟩
      ·rintro z a y ⟨s,ah,v,t,ha,aa,u,b⟩ dd ca
       refine BE ?_ ha
       cases z with
       | zero=>exact Bg b
       | succ z =>
        obtain ⟨de,a7⟩:∃ k,k = CN c q ap rec p z:=⟨_,rfl⟩
        rw [CN,← a7] at b
        refine An 1 rfl (Ap fun _ cb=>(A3 rfl b (fun _ b=>?_) (fun _ b=>?_)))
        ·refine Au (cb ?_)
         refine Ap fun cc cd=>?_
         obtain ⟨ce,cf,b⟩:=Nn b
         have a8:∀ (ai:((List Ae3) × Int × (List Int))) (aj:Bool) (ar:Al) (ak:Ae) (_:ce ai aj = some r) (_:Bl (wE d) ak) (_:Sp (wE d) ak [A6 d (Be [A2 Cc 198 o f j,Ab Ar h g c]),A2 Cc 198 ar f ai,Ab Ar h g c]),∀ a,St 64 [(0,(.pointer (some ⟨f,0,none⟩))),(1,g),(2,(iv p)),(7,(iv (List.length c:Int))),(8,(iv q)),(9,(.bool aj)),(31,g),(32,(iv (List.length c:Int))),(33,(iv v))] a → cc a ak:=by
          intro ai aj ar ak b cg ch
          subst cf
          refine cd (As (Aq 2 rfl ?_))
          rw [a7] at b
          exact fun a ha=>ca a _ z (AB z) ⟨ai,aj,(Ag (v + 1)),ar,ha.sb rfl,cg,(ch.sel [0,1,2] rfl),b⟩
         refine A0 (Ak fun _ ci=>(wp 1 rfl (bB b fun cj ck b=>(Cw (e:=Ar) (i:=2) Tryz.underlying36 rfl rfl rfl u rfl ck ?_))))
         rintro df _ rfl cl dg
         refine BZ A4 rfl cl rfl (Aq 2 rfl (ci (As (wp 2 rfl ?_))))
         rcases bE ah with n | n
         ·replace b:=BA n b
          refine wn rfl n (wp 1 rfl (wn rfl n (wp 1 rfl (wn rfl n (wp 1 rfl (wn rfl n (wp 1 rfl (wn rfl n (wp 1 rfl (wn rfl n (bB b fun au cm b=>(A7 rfl Tryz.call229 (Py y s f t v (List.length c:Int) cj q (u.sel [1] rfl).base0 _ cm) rfl ?_))))))))))))
          rintro _ cn ⟨a9,rfl,co,ba⟩
          refine ⟨_,rfl,?_⟩
          have cp:=u.takeB [1] rfl (M:=[A2 Cc 198 t f s]) rfl aa co ba
          have cq:Sp (wE d) cn [A2 Cc 198 a9 f au.2,A6 d (Be [A2 Cc 198 o f j,Ab Ar h g c]),Ab Ar h g c]:=u.take [1] [0,2] rfl (M:=[A2 Cc 198 t f s]) rfl ba aa.size
          refine AA rfl rfl n rfl (Aq 1 rfl ?_)
          exact jx (a8 (au.2) (au.1) a9 _ b cp (cq.sel [1,0,2] rfl)) rfl
         ·replace b:=Cf n b
          refine wo rfl n (wo rfl n (wo rfl n (wo rfl n (wo rfl n (wo rfl n (A9 rfl rfl n rfl (Aq 1 rfl ?_)))))))
          exact jx (a8 s false t _ b aa (u.sel [0,1,2] rfl)) rfl
        ·refine Bd (b8 ?_)
         refine Ap fun _ cr=>An 2 rfl (A3 rfl b (fun _ b=>?_) (fun _ b=>?_))
         ·refine Bd ?_
          exact jx (a6 s t _ b aa (u.sel [0,1,2] rfl)) rfl
         ·refine Au (cr ?_)
          refine Ak fun _ cs=>wp 2 rfl (bB b fun dh ct b=>(E6 rfl Tryz.call52 aa u (Rd y c g (u.own_ro (i:=2) rfl) _ ct) rfl fun di dj dk _ _ cu cv=>(wp 1 rfl (Bc (vs:=[(iv q)]) (l:=[q]) Co Tryz.underlying36 rfl rfl rfl rfl rfl rfl cu cv fun cw cx cy _ cz bb=>(bB b fun av c0 b=>(AF (i:=1) (S:=(· < cy.heap.size)) Co Tryz.underlying36 rfl rfl rfl cz bb rfl (bb.own_ro (i:=0) rfl) c0 fun aw ax c1 _ bc ay=>(wp 3 rfl (bB b fun az c2 b=>(A7 rfl Tryz.call201 (ih c1 s f t av aw ax (Ag (p - q)) (ay.sel [3,1] rfl).base0 _ c2) rfl ?_)))))))))
          rintro _ c3 ⟨bd,be,a0,rfl,c4,bf⟩
          refine ⟨_,rfl,?_⟩
          have bg:=ay.takeB [3,1] rfl (M:=[A2 Cc 198 t f s,Ab Ar ax aw av]) rfl bc c4 bf
          have a1:Sp (wE d) c3 [A2 Cc 198 a0 f az.2,Ab Ar be bd az.1,Ab Ar cx cw [q],A6 d (Be [A2 Cc 198 o f j,Ab Ar h g c]),Ab Ar h g c]:=ay.take [3,1] [0,2,4] rfl (M:=[A2 Cc 198 t f s,Ab Ar ax aw av]) rfl bf bc.size
          refine Aq 1 rfl (cs (Ak fun _ c5=>(wp 1 rfl (BX (a1.own_ro (i:=1) rfl) Tryz.underlying36 rfl (Aq 1 rfl (c5 (A3 rfl b (fun _ b=>?_) (fun _ b=>?_))))))))
          ·refine An 2 rfl ?_
           refine Ay (rt hQ rfl rfl (by cases b; exact ⟨bd,be,a0,rfl,bg,a1.sel [3,0,1] rfl⟩))
          ·refine Au ?_
           exact jx (a6 (az.2) a0 _ b bg (a1.sel [3,0,4] rfl)) rfl
     ·refine Bd (bs ?_)
      refine An 1 rfl (Ay ?_)
      have c6:=ao.push0 (r:=Ab Ar [] (.slice none 0 0) []) rfl fun _=>.inl ⟨rfl,rfl,rfl⟩
      refine rt hQ rfl rfl (by cases b; exact ⟨(.slice none 0 0),[],ae,rfl,a5,c6.sel [1,2,0] rfl⟩)
theorem Pz (a:Ae) (c:((List Ae3) × Int × (List Int))) (b:Nat) (g:Al) (d:(List Int)) (f:Ac) (h:Al) (i:Int) (k:Sep 0 a [A2 Cc 198 g b c,Ab Ar h f d]) (r:((List Int) × ((List Ae3) × Int × (List Int)))) (l:HP c d i = some r) :
  A1 201 [(.pointer (some ⟨b,0,none⟩)),f,(iv i)] a fun e w'=>∃ (j:Ac) (m:Al) (H_0:Al),e = .returned j ∧ Below 0 (wE a) w' ∧ Sep 0 w' [A6 a (Be [A2 Cc 198 g b c,Ab Ar h f d]),A2 Cc 198 H_0 b r.2,Ab Ar m j r.1] :=
 Pd FU a c b g d f h i k r l
theorem T9 (d:Ae) (c:(Ae1 × Ae1 × Int × (List Int))) (h:Ac) (ab:RO Ao d h c.1) (j:Ac) (am:RO Ao d j c.2.1) (l:Ac) (an:RO Ar d l c.2.2.2) (f:Int) (r:Ae7) (b:Jr c f = some r) :
  A1 152 [(.agg #[h,j,(iv c.2.2.1),l]),(iv f)] d fun e w'=>∃ (q0:Ac) (G0:Al),e = .returned (.tuple #[q0,(iv r.2)]) ∧ Bl d w' ∧ Sp d w' [Ab Ar G0 q0 r.1]:=by
 refine cm Tryz.func152 Tryz.ntmps152 rfl fun Q hQ hP hB hS=>?_
 unfold Jr at b
 refine Ak fun _ ar=>CK rfl hB hS fun s w3 _ t ae=>Aq 2 rfl (ar (Ak fun _ av=>(AO 0 Bo rfl ae rfl rfl (bB b fun u8 aw b=>(E6 rfl Tryz.call196 t ae (Lk w3 c h (ab.ro t) j (am.ro t) l (an.ro t) _ aw) rfl fun v bf bg _ _ ax af=>(wp 1 rfl (DV (zs:=([(.slice none 0 0),(iv 0)] ++ ((MG (List.replicate 900 0)) ++ []))) (out:=([v,(iv f)] ++ ((MG (List.replicate 900 0)) ++ []))) (vs:=[v,(iv f)]) (css:=[[v],[(iv f)]]) Ack Acy rfl rfl (by simp only [List.map_cons,List.map_nil,Ce ((af.own_ro (i:=0) rfl).one)] <;> rfl) (by kernel_rfl) (by kernel_rfl) (CK rfl ax af fun g ay _ az a0=>(Aq 1 rfl (av (Ap fun _ a1=>(An 1 rfl (A0 ?_)))))))))))))
 obtain ⟨a2,a3⟩:∃ F,Sp d ay [A2 Cc 198 F g (u8,f,(List.replicate 900 0)),A5 s 128 [h,j,(iv c.2.2.1),l]]:=⟨_,Io (by rw [List.length_replicate]) (a0.sel [0,1,2] rfl)⟩
 refine AU (fun m a u=>∃ (n:((List Ae3) × Int × (List Int))) (o:Int) (p:Al),St 30 [(2,(.pointer (some ⟨s,0,none⟩))),(6,(.pointer (some ⟨g,0,none⟩))),(7,(iv o))] a ∧ Bl d u ∧ Sp d u [A5 s 128 [h,j,(iv c.2.2.1),l],A2 Cc 198 p g n] ∧ Ea c m n o = some r) FU ?_ ?_
 ·exact fun a ha=>⟨(u8,f,(List.replicate 900 0)),0,a2,ha.sb rfl,az,(a3.sel [1,0] rfl),b⟩
 ·rintro q a u ⟨n,o,p,ha,w,x,b⟩ bh a4
  refine BE ?_ ha
  cases q with
  | zero=>exact Bg b
  | succ q =>
   obtain ⟨bi,ag⟩:∃ k,k = Ea c q:=⟨_,rfl⟩
   rw [Ea,← ag] at b
   refine Ap fun _ a5=>Ak fun _ a6=>wp 1 rfl (Bp E0 rfl (AO 0 Cm rfl x rfl rfl (BX ab Tryz.underlying26 rfl (Aq 2 rfl (a6 (A3 rfl b (fun _ b=>?_) (fun _ b=>?_)))))))
   ·refine Au (a5 ?_)
    refine Ap fun _ a7=>A0 (Ak fun _ a8=>(wp 2 rfl ?_))
    have y:=x.push0 (r:=Ab Ar [] (.slice none 0 0) []) rfl fun _=>.inl ⟨rfl,rfl,rfl⟩
    refine bB b fun z a9 b=>A7 rfl Tryz.call201 (Pz u n g p [] (.slice none 0 0) [] o (y.sel [2,0] rfl).base0 _ a9) rfl ?_
    rintro _ ba ⟨ah,ai,aj,rfl,bb,ak⟩
    refine ⟨_,rfl,?_⟩
    have al:=y.takeB [2,0] rfl (M:=[A2 Cc 198 p g n,Ab Ar [] (.slice none 0 0) []]) rfl w bb ak
    have aa:Sp d ba [A2 Cc 198 aj g z.2,Ab Ar ai ah z.1,A5 s 128 [h,j,(iv c.2.2.1),l]]:=y.take [2,0] [1] rfl (M:=[A2 Cc 198 p g n,Ab Ar [] (.slice none 0 0) []]) rfl ak w.size
    refine Aq 1 rfl (a8 (Ak fun _ bc=>(wp 1 rfl (BX (aa.own_ro (i:=1) rfl) Tryz.underlying36 rfl (Aq 1 rfl (bc (A3 rfl b (fun _ b=>?_) (fun _ b=>?_))))))))
    ·refine An 4 rfl ?_
     refine Ay (rt hQ rfl rfl (by cases b; exact ⟨ah,ai,rfl,al,aa.sel [1] rfl⟩))
    ·refine Au (a7 ?_)
     refine As (Aq 3 rfl ?_)
     rw [ag] at b
     exact fun a ha=>a4 a _ q (AB q) ⟨z.2,(Ag (o + 1)),aj,ha.sb rfl,al,(aa.sel [2,0] rfl),b⟩
   ·refine Bd (a1 ?_)
    refine An 2 rfl (Ay ?_)
    have bd:=x.push0 (r:=Ab Ar [] (.slice none 0 0) []) rfl fun _=>.inl ⟨rfl,rfl,rfl⟩
    refine rt hQ rfl rfl (by cases b; exact ⟨(.slice none 0 0),[],rfl,w,bd.sel [0] rfl⟩)
theorem RE (f:Ae) (c:(Ae1 × Ae1 × Int × (List Int))) (g:Ac) (o:RO Ao f g c.1) (h:Ac) (t:RO Ao f h c.2.1) (j:Ac) (u:RO Ar f j c.2.2.2) (k:Int) (r:(Int × Bool)) (b:Ia c k = some r) :
  A1 101 [(.agg #[g,h,(iv c.2.2.1),j]),(iv k)] f fun e w'=>e = .returned (.tuple #[(iv r.1),(.bool r.2)]) ∧ Bl f w':=by
 refine cm Tryz.func101 Tryz.ntmps101 rfl fun Q p m hB hS=>?_
 unfold Ia at b
 refine Ak fun _ ar=>CK rfl hB hS fun b2 w3 _ v ae=>Aq 2 rfl (ar (Ap fun _ av=>(Ap fun K8 ax=>?_)))
 obtain ⟨ay,az,b⟩:=Cj b
 have af:∀ (y:Bool) (w:Ae) (_:ay y = some r) (_:Bl f w) (_:Sp f w [A5 b2 128 [g,h,(iv c.2.2.1),j]]),∀ a,St 44 [(1,(iv k)),(2,(.pointer (some ⟨b2,0,none⟩))),(17,(.bool y))] a → K8 a w:=by
  intro y w b ag a0
  subst az
  refine ax (A3 rfl b (fun _ b=>?_) (fun _ b=>?_))
  ·refine An 2 rfl ?_
   refine Ay (rt p rfl rfl (by cases b; exact ⟨rfl,ag⟩))
  ·refine Au (av ?_)
   refine Ap fun _ a1=>Ap fun _ a2=>AQ B4 [] ag a0 fun ah _ ai z=>?_
   have n:=KeepX.refl ah []
   refine Ad 0 rfl m n (CQ 0 Bo rfl z rfl (by simp) (Ad 1 rfl m n (C9 E0 rfl (Ad 2 rfl m n (CQ 0 Cm rfl z rfl (by simp) (Ad 3 rfl m n (M8 (e:=Ao) (l:=c.1) Tryz.underlying26 rfl rfl o (Ax 5 rfl m n (Av 4 rfl (bB b fun a3 a4 b=>(N4 (e:=Ar) Tryz.underlying36 rfl rfl a4 (Bf ah) (Sep.nil _ _) fun a5 bs a6 aa _ a7=>?_)))))))))))
   have x:=tm ai aa
   have aj:=z.join aa a7 ai.size
   have ak:=n.ext aa
   refine Ah (Am ak (Av 6 rfl (bB b fun a8 a9 b=>(E6 rfl Tryz.call150 x aj (P1 a6 c g (o.ro x) h (t.ro x) j (u.ro x) a3 a5 (aj.own_ro (i:=0) rfl) k _ a9) rfl fun bt bu ba bb _ q ab=>?_))))
   have ac:=ak.ext bb
   refine Ah (Am ac (Ad 7 rfl m ac (M8 (e:=Ci) (l:=a8) Tryz.underlying155 rfl rfl (ab.own_ro (i:=0) rfl) (Ad 8 rfl m ac (Pn rfl rfl rfl (Ba (a2 (A3 rfl b (fun _ b=>?_) (fun _ b=>?_)))))))))
   ·refine An 2 rfl ?_
    refine Ay (rt p rfl rfl (by cases b; exact ⟨rfl,q⟩))
   ·refine Au (a1 ?_)
    refine Ap fun _ bc=>Ak fun _ bd=>AO 2 Bo rfl ab rfl rfl (wp 1 rfl (bB b fun bv be b=>(Bu rfl Tryz.call151 q ab (V0 ba c g (o.ro q) h (t.ro q) j (u.ro q) k _ be) rfl fun bf _ s al=>(Aq 5 rfl (bd (An 2 rfl (A3 rfl b (fun _ b=>?_) (fun _ b=>?_))))))))
    ·refine An 2 rfl ?_
     refine Ay (rt p rfl rfl (by cases b; exact ⟨rfl,s⟩))
    ·refine Au (bc ?_)
     refine Ap fun _ bg=>Ak fun _ bh=>AO 2 Bo rfl al rfl rfl (wp 1 rfl (bB b fun bw bi b=>(E6 rfl Tryz.call152 s al (T9 bf c g (o.ro s) h (t.ro s) j (u.ro s) k _ bi) rfl fun bx bz b0 _ _ am bj=>(Aq 5 rfl (bh (Ak fun _ bk=>(wp 1 rfl (BX (bj.own_ro (i:=0) rfl) Tryz.underlying36 rfl (Aq 1 rfl (bk (A3 rfl b (fun _ b=>?_) (fun _ b=>?_))))))))))))
     ·refine An 2 rfl ?_
      refine Ay (rt p rfl rfl (by cases b; exact ⟨rfl,am⟩))
     ·refine Au (bg ?_)
      refine An 2 rfl (Ay (rt p rfl rfl (by cases b; exact ⟨rfl,am⟩)))
 refine As (AO 0 Bo rfl ae rfl rfl (bB b fun bl bm b=>(Bu rfl Tryz.call148 v ae (V2 w3 c g (o.ro v) h (t.ro v) j (u.ro v) _ bm) rfl fun bn _ an ao=>(wp 2 rfl ?_))))
 rcases bE (!bl) with d | d
 ·replace b:=BA d b
  refine wo rfl d (wo rfl d (wo rfl d (AA rfl rfl d rfl (Ah ?_))))
  exact jx (af true _ b an (ao.sel [0] rfl)) rfl
 ·replace b:=Cf d b
  refine wn rfl d (wp 1 rfl (wn rfl d (bB b fun bo bp b=>(Bu rfl Tryz.call149 an ao (Ns bn k _ bp) rfl fun b1 _ bq br=>(wn rfl d (wp 1 rfl (A9 rfl rfl d rfl (Ah ?_))))))))
  exact jx (af ((!bo)) _ b bq (br.sel [0] rfl)) rfl
theorem U9 (d:Ae) (g:Ae1) (h:Ac) (v:RO Ao d h g) (r:(Int × Int × Int)) (b:JI g = some r) :
  A1 153 [h] d fun e w'=>e = .returned (.tuple #[(iv r.1),(iv r.2.1),(iv r.2.2)]) ∧ Bl d w':=by
 refine cm Tryz.func153 Tryz.ntmps153 rfl fun Q hQ n hB hS=>?_
 unfold JI at b
 refine An 3 rfl (An 3 rfl (Ap fun _ a2=>(Ak fun _ a3=>(wp 1 rfl (BX v Tryz.underlying26 rfl (Aq 1 rfl (a3 (A0 (AU (fun m a w5=>∃ (w:Int) (x:Int) (y:Int) (c:Int),St 47 [(0,h),(5,(iv w)),(6,(iv x)),(7,(iv y)),(12,h),(13,(iv (List.length g:Int))),(14,(iv c))] a ∧ Bl d w5 ∧ Sp d w5 [] ∧ Fc g m w x y c = some r) FU ?_ ?_)))))))))
 ·exact fun a ha=>⟨0,0,(-1),0,ha.sb rfl,hB,(hS.sel [] rfl),b⟩
 ·rintro t a w5 ⟨w,x,y,c,ha,af,a4,b⟩ bz a5
  refine BE ?_ ha
  cases t with
  | zero=>exact Bg b
  | succ t =>
   obtain ⟨ai,aj⟩:∃ k,k = Fc g t:=⟨_,rfl⟩
   rw [Fc,← aj] at b
   refine An 1 rfl (Ap fun _ a6=>(A3 rfl b (fun _ b=>?_) (fun _ b=>?_)))
   ·refine Au (a6 ?_)
    refine Ap fun _ a7=>A0 (Ak fun _ a8=>(wp 1 rfl (bB b fun i a9 b=>(BP (e:=Ao) Tryz.underlying26 rfl rfl rfl v a9 ?_))))
    rintro b0 _ rfl ba
    refine BZ Bs rfl (ba.ro af) rfl (Ei Bs rfl af a4 fun o b1 _ bb bc=>(wp 1 rfl (Gj 0 Bs rfl rfl bb bc rfl rfl rfl fun b2 _ bd be=>(Ah (a8 (An 3 rfl (A0 (AU (fun m a ag=>∃ (p:Int) (q:Int) (j:Int) (l:Int),St 47 [(0,h),(5,(iv p)),(6,(iv q)),(7,(iv j)),(8,(iv c)),(9,(.pointer (some ⟨o,0,none⟩))),(10,(iv l)),(12,h),(13,(iv (List.length g:Int))),(14,(iv c))] a ∧ Bl d ag ∧ Sp d ag [A5 o 79 [(iv i.1),(iv i.2)]] ∧ D2 g i c ai m p q j l = some r) FU ?_ ?_))))))))
    ·exact fun a ha=>⟨w,x,y,(Ag (c + 1)),ha.sb rfl,bd,(be.sel [0] rfl),b⟩
    ·rintro u a ag ⟨p,q,j,l,ha,ak,al,b⟩ b3 bf
     refine BE ?_ ha
     cases u with
     | zero=>exact Bg b
     | succ u =>
      obtain ⟨b4,am⟩:∃ k,k = D2 g i c ai u:=⟨_,rfl⟩
      rw [D2,← am] at b
      refine Ap fun _ bg=>Ak fun _ bh=>wp 2 rfl (BX v Tryz.underlying26 rfl (Aq 1 rfl (bh (A3 rfl b (fun _ b=>?_) (fun _ b=>?_)))))
      ·refine Au (bg ?_)
       refine Ap fun bi bj=>?_
       obtain ⟨bk,bl,b⟩:=jE3 b
       have an:∀ (z:Int) (aa:Int) (ab:Int) (ac:Ae) (_:bk z aa ab = some r) (_:Bl d ac) (_:Sp d ac [A5 o 79 [(iv i.1),(iv i.2)]]),∀ a,St 47 [(0,h),(5,(iv z)),(6,(iv aa)),(7,(iv ab)),(8,(iv c)),(9,(.pointer (some ⟨o,0,none⟩))),(10,(iv l)),(12,h),(13,(iv (List.length g:Int))),(14,(iv c))] a → bi a ac:=by
        intro z aa ab ac b bm bn
        subst bl
        refine bj (As (Aq 3 rfl ?_))
        rw [am] at b
        exact fun a ha=>bf a _ u (AB u) ⟨z,aa,ab,(Ag (l + 1)),ha.sb rfl,bm,(bn.sel [0] rfl),b⟩
       refine A0 (Ap fun _ bo=>(AQ B4 [] ak al fun ao _ ap aq=>?_))
       have s:=KeepX.refl ao []
       refine Ad 0 rfl n s (CQ 0 Bs rfl aq rfl (by simp) (Ax 1 rfl n s (Ax 2 rfl n s (bB b fun bp bq b=>(Ad 3 rfl n s (BB (e:=Ao) Tryz.underlying26 rfl rfl rfl v bq ?_))))))
       rintro b5 _ rfl br
       refine Ad 4 rfl n s (BL Bs rfl (br.kx ap (by simp)) rfl (Av 5 rfl (bB b fun u64 bs b=>(Bu rfl Tryz.call194 ap aq (KG ao i bp _ bs) rfl fun b6 bt ar au=>?_))))
       have av:=s.ext bt
       refine Ah (Am av (Ad 6 rfl n av (AC rfl rfl (Ba (bo (Ap fun bu bv=>?_))))))
       obtain ⟨bw,bx,b⟩:=Cj b
       have aw:∀ (ah:Bool) (ad:Ae) (_:bw ah = some r) (_:Bl d ad) (_:Sp d ad [A5 o 79 [(iv i.1),(iv i.2)]]),∀ a,St 47 [(0,h),(5,(iv p)),(6,(iv q)),(7,(iv j)),(8,(iv c)),(9,(.pointer (some ⟨o,0,none⟩))),(10,(iv l)),(11,(iv u64)),(12,h),(13,(iv (List.length g:Int))),(14,(iv c)),(39,(.bool ah))] a → bu a ad:=by
        intro ah ad b ax ay
        subst bx
        refine bv (A3 rfl b (fun _ b=>?_) (fun _ b=>?_))
        ·refine An 2 rfl ?_
         refine An 2 rfl (As (Aq 2 rfl ?_))
         exact jx (an c l u64 _ b ax (ay.sel [0] rfl)) rfl
        ·refine Au ?_
         exact jx (an p q j _ b ax (ay.sel [0] rfl)) rfl
       refine As (wp 3 rfl ?_)
       rcases bE (decide (j < 0)) with f | f
       ·replace b:=BA f b
        refine wo rfl f (wo rfl f (wo rfl f (AA rfl rfl f rfl (Ah ?_))))
        exact jx (aw true _ b ar (au.sel [0] rfl)) rfl
       ·replace b:=Cf f b
        refine wn rfl f (wp 1 rfl (wn rfl f (wp 1 rfl (wn rfl f (wp 1 rfl (A9 rfl rfl f rfl (Ah ?_)))))))
        exact jx (aw ((decide (u64 < j))) _ b ar (au.sel [0] rfl)) rfl
      ·refine Bd (a7 ?_)
       refine As (Aq 2 rfl ?_)
       rw [aj] at b
       exact fun a ha=>a5 a _ t (AB t) ⟨p,q,j,(Ag (c + 1)),ha.sb rfl,ak,(al.sel [] rfl),b⟩
   ·refine Bd (a2 ?_)
    refine An 6 rfl (Ay (rt hQ rfl rfl (by cases b; exact ⟨rfl,af⟩)))
theorem Rg (d:Ae) (f:Ae1) (g:Ac) (i:RO Ao d g f) (r:(Int × Bool)) (b:Ec f = some r) :
  A1 102 [g] d fun e w'=>e = .returned (.tuple #[(iv r.1),(.bool r.2)]) ∧ Bl d w':=by
 refine cm Tryz.func102 Tryz.ntmps102 rfl fun Q l hP m q=>?_
 unfold Ec at b
 refine An 2 rfl (Ap fun _ s=>(Ap fun t u=>?_))
 obtain ⟨v,w,b⟩:=Cj b
 have n:∀ (j:Bool) (h:Ae) (_:v j = some r) (_:Bl d h) (_:Sp d h []),∀ a,St 22 [(0,g),(14,(.bool j))] a → t a h:=by
  intro j h b k ae
  subst w
  refine u (A3 rfl b (fun _ b=>?_) (fun _ b=>?_))
  ·refine An 2 rfl ?_
   refine Ay (rt l rfl rfl (by cases b; exact ⟨rfl,k⟩))
  ·refine Au (s ?_)
   refine Ak fun _ x=>wp 1 rfl (bB b fun af y b=>(A7 rfl Tryz.call153 (U9 h f g (i.ro k) _ y) rfl ?_))
   rintro _ ag ⟨rfl,z⟩
   refine ⟨_,rfl,?_⟩
   have aa:=tm k z
   refine Aq 7 rfl (x (An 3 rfl (Ay (rt l rfl rfl (by cases b; exact ⟨rfl,aa⟩)))))
 refine As (wp 1 rfl (bB b fun ab ac b=>(Bu rfl Tryz.call132 m q (Ji d f g (i.ro m) _ ac) rfl fun ah _ o p=>(wp 2 rfl ?_))))
 rcases bE (!ab) with c | c
 ·replace b:=BA c b
  refine wo rfl c (wo rfl c (wo rfl c (AA rfl rfl c rfl (Ah ?_))))
  exact jx (n true _ b o (p.sel [] rfl)) rfl
 ·replace b:=Cf c b
  refine wn rfl c (wp 1 rfl (wn rfl c (BX i Tryz.underlying26 rfl (wn rfl c (wp 1 rfl (A9 rfl rfl c rfl (Ah ?_)))))))
  exact jx (n ((decide ((List.length f:Int) < 2))) _ b o (p.sel [] rfl)) rfl
theorem TA (c:Ae) (d:Ae1) (i:Ac) (n:RO BN c i d) (r:Int) (b:Js d = some r) :
  A1 202 [i] c fun e w'=>e = .returned (iv r) ∧ Bl c w':=by
 refine cm Tryz.func202 Tryz.ntmps202 rfl fun Q q hP s t=>?_
 unfold Js at b
 refine An 1 rfl (An 1 rfl (Ap fun _ u=>(Ak fun _ v=>(wp 1 rfl (BX n Tryz.underlying31 rfl (Aq 1 rfl (v (A0 (AU (fun m a j=>∃ (g:Int) (h:Int),St 18 [(3,(iv g)),(6,i),(7,(iv (List.length d:Int))),(8,(iv h))] a ∧ Bl c j ∧ Sp c j [] ∧ E8 d m g h = some r) FU ?_ ?_)))))))))
 ·exact fun a ha=>⟨0,0,ha.sb rfl,s,(t.sel [] rfl),b⟩
 ·rintro f a j ⟨g,h,ha,l,w,b⟩ ai x
  refine BE ?_ ha
  cases f with
  | zero=>exact Bg b
  | succ f =>
   obtain ⟨aj,o⟩:∃ k,k = E8 d f:=⟨_,rfl⟩
   rw [E8,← o] at b
   refine An 1 rfl (Ap fun _ y=>(A3 rfl b (fun _ b=>?_) (fun _ b=>?_)))
   ·refine Au (y ?_)
    refine Ap fun _ z=>A0 (Ak fun _ aa=>(bB b fun ab ac b=>(BP (e:=BN) Tryz.underlying31 rfl rfl rfl n ac ?_)))
    rintro ak _ rfl ad
    refine BZ GL rfl (ad.ro l) rfl (Ei GL rfl l w fun al am _ ae af=>(Gj 0 GL rfl rfl ae af rfl rfl rfl fun an _ ag p=>(Ah (aa (As (wp 1 rfl (Bp Kx rfl (AO 0 A4 rfl p rfl rfl (Aq 2 rfl (z (As (Aq 2 rfl ?_))))))))))))
    rw [o] at b
    exact fun a ha=>x a _ f (AB f) ⟨(Ag (g + ab.1)),(Ag (h + 1)),ha.sb rfl,ag,(p.sel [] rfl),b⟩
   ·refine Bd (u ?_)
    refine An 2 rfl (Ay (rt q rfl rfl (by cases b; exact ⟨rfl,l⟩)))
theorem V3 (d:Ae) (f:Ae1) (g:Ac) (l:RO BN d g f) (i:Int) (r:Bool) (b:L6 f i = some r) :
  A1 154 [g,(iv i)] d fun e w'=>e = .returned (.bool r) ∧ Bl d w':=by
 refine cm Tryz.func154 Tryz.ntmps154 rfl fun Q p hP m q=>?_
 unfold L6 at b
 refine An 1 rfl (Ap fun s t=>?_)
 obtain ⟨u,v,b⟩:=Cj b
 have n:∀ (j:Bool) (h:Ae) (_:u j = some r) (_:Bl d h) (_:Sp d h []),∀ a,St 13 [(4,(.bool j))] a → s a h:=by
  intro j h b w ak
  subst v
  refine t (Ay (rt p rfl rfl (by cases b; exact ⟨rfl,w⟩)))
 refine As (wp 1 rfl (bB b fun x y b=>(Bu rfl Tryz.call93 m q (Qp d f g (l.ro m) _ y) rfl fun z _ k o=>(wp 1 rfl ?_))))
 rcases bE x with c | c
 ·replace b:=BA c b
  refine wn rfl c (wp 1 rfl (wn rfl c (wp 1 rfl (wn rfl c (bB b fun aa ab b=>(Bu rfl Tryz.call202 k o (TA z f g (l.ro k) _ ab) rfl fun ac _ ad ae=>(wn rfl c (bB b fun af ag b=>(Bu rfl Tryz.call77 ad ae (Cd ac i 0 aa _ ag) rfl fun al _ ah ai=>(AA rfl rfl c rfl (Aq 1 rfl ?_)))))))))))
  exact jx (n af _ b ah (ai.sel [] rfl)) rfl
 ·replace b:=Cf c b
  refine wo rfl c (wo rfl c (wo rfl c (wo rfl c (A9 rfl rfl c rfl (Aq 1 rfl ?_)))))
  exact jx (n false _ b k (o.sel [] rfl)) rfl
theorem P2 (d:Ae) (f:Int) (c:Int) (r:Int) (a:Hw f c = some r) :
  A1 203 [(iv f),(iv c)] d fun e w'=>e = .returned (iv r) ∧ Bl d w':=by
 refine cm Tryz.func203 Tryz.ntmps203 rfl fun Q g j h _=>?_
 unfold Hw at a
 refine An 1 rfl (Ak fun _ i=>(wp 3 rfl ?_))
 have b:c ≠ 0:=fun b=>Bg (BA b a)
 replace a:=Lp b a
 refine MO rfl rfl rfl b (Aq 1 rfl (i (Ay (rt g rfl rfl (by cases a; exact ⟨rfl,h⟩)))))
theorem V4 (c:Ae) (d:Ae1) (n:Ac) (s:RO BN c n d) (o:Int) (r:Int) (b:FI d o = some r) :
  A1 155 [n,(iv o)] c fun e w'=>e = .returned (iv r) ∧ Bl c w':=by
 refine cm Tryz.func155 Tryz.ntmps155 rfl fun Q t hP y z=>?_
 unfold FI at b
 refine An 1 rfl (An 1 rfl (Ap fun _ aa=>(Ak fun _ ab=>(wp 1 rfl (BX s Tryz.underlying31 rfl (Aq 1 rfl (ab (A0 (AU (fun m a p=>∃ (f:Int) (i:Int) (j:Int),St 37 [(1,(iv f)),(5,(iv i)),(8,n),(9,(iv (List.length d:Int))),(10,(iv j))] a ∧ Bl c p ∧ Sp c p [] ∧ Di d m f i j = some r) FU ?_ ?_)))))))))
 ·exact fun a ha=>⟨o,0,0,ha.sb rfl,y,(z.sel [] rfl),b⟩
 ·rintro g a p ⟨f,i,j,ha,q,ac,b⟩ ay ad
  refine BE ?_ ha
  cases g with
  | zero=>exact Bg b
  | succ g =>
   obtain ⟨az,u⟩:∃ k,k = Di d g:=⟨_,rfl⟩
   rw [Di,← u] at b
   refine An 1 rfl (Ap fun _ ae=>(A3 rfl b (fun _ b=>?_) (fun _ b=>?_)))
   ·refine Au (ae ?_)
    refine Ap fun _ af=>A0 (Ak fun _ ag=>(bB b fun l ah b=>(BP (e:=BN) Tryz.underlying31 rfl rfl rfl s ah ?_)))
    rintro a0 _ rfl ai
    refine BZ GL rfl (ai.ro q) rfl (Ei GL rfl q ac fun a1 a2 _ aj ak=>(Gj 0 GL rfl rfl aj ak rfl rfl rfl fun v _ w h=>(Ah (ag (Ap fun _ al=>(Ak fun _ am=>(wp 1 rfl (Bp Kx rfl (AO 0 A4 rfl h rfl rfl (Aq 1 rfl (am (A3 rfl b (fun _ b=>?_) (fun _ b=>?_)))))))))))))
    ·refine Ak fun _ an=>?_
     refine wp 2 rfl (Bp NE rfl (AO 0 A4 rfl h rfl rfl (bB b fun a3 ao b=>(A7 rfl Tryz.call203 (P2 v f l.2 _ ao) rfl ?_))))
     rintro _ a4 ⟨rfl,ap⟩
     refine ⟨_,rfl,?_⟩
     have aq:=tm w ap
     refine Aq 2 rfl (an (Ay (rt t rfl rfl (by cases b; exact ⟨rfl,aq⟩))))
    ·refine Au (al ?_)
     refine Ak fun _ ar=>wp 1 rfl (Bp Kx rfl (AO 0 A4 rfl h rfl rfl (Bp NE rfl (AO 0 A4 rfl h rfl rfl (bB b fun au av b=>(Bu rfl Tryz.call203 w h (P2 v l.1 l.2 _ av) rfl fun a5 _ aw x=>(Aq 2 rfl (ar (As (wp 1 rfl (Bp Kx rfl (AO 0 A4 rfl x rfl rfl (Aq 2 rfl (af (As (Aq 2 rfl ?_))))))))))))))))
     rw [u] at b
     exact fun a ha=>ad a _ g (AB g) ⟨(Ag (f - l.1)),(Ag (i + au)),(Ag (j + 1)),ha.sb rfl,aw,(x.sel [] rfl),b⟩
   ·refine Bd (aa ?_)
    refine An 2 rfl (Ay (rt t rfl rfl (by cases b; exact ⟨rfl,q⟩)))
theorem VA (b:Ae) (c:Ae1) (d:Ac) (h:RO BN b d c) (f:Int) (r:(Int × Bool)) (a:Kq c f = some r) :
  A1 103 [d,(iv f)] b fun e w'=>e = .returned (.tuple #[(iv r.1),(.bool r.2)]) ∧ Bl b w':=by
 refine cm Tryz.func103 Tryz.ntmps103 rfl fun Q i u j _=>?_
 unfold Kq at a
 refine An 2 rfl (Ap fun _ k=>(Ak fun _ l=>(wp 2 rfl (bB a fun v m a=>(A7 rfl Tryz.call154 (V3 b c d (h.ro j) f _ m) rfl ?_)))))
 rintro _ n ⟨rfl,o⟩
 refine ⟨_,rfl,?_⟩
 have g:=tm j o
 refine Aq 1 rfl (l (A3 rfl a (fun _ a=>?_) (fun _ a=>?_)))
 ·refine An 2 rfl ?_
  refine Ay (rt i rfl rfl (by cases a; exact ⟨rfl,g⟩))
 ·refine Au (k ?_)
  refine Ak fun _ p=>wp 2 rfl (bB a fun w q a=>(A7 rfl Tryz.call155 (V4 n c d (h.ro g) f _ q) rfl ?_))
  rintro _ x ⟨rfl,s⟩
  refine ⟨_,rfl,?_⟩
  have t:=tm g s
  refine Aq 2 rfl (p (Ay (rt i rfl rfl (by cases a; exact ⟨rfl,t⟩))))
theorem UC (b:Ae) (c:Int) (r:Bool) (a:Lh c = some r) :
  A1 157 [(iv c)] b fun e w'=>e = .returned (.bool r) ∧ Bl b w':=by
 refine cm Tryz.func157 Tryz.ntmps157 rfl fun Q d k f _=>?_
 unfold Lh at a
 refine An 1 rfl (Ak fun _ g=>(wp 1 rfl (bB a fun l h a=>(A7 rfl Tryz.call77 (Cd b c 0 999 _ h) rfl ?_))))
 rintro _ m ⟨rfl,i⟩
 refine ⟨_,rfl,?_⟩
 have j:=tm f i
 refine Aq 1 rfl (g (Ay (rt d rfl rfl (by cases a; exact ⟨rfl,j⟩))))
theorem Sg (q:Ae) (u:Ae2) (x:Ac) (ad:RO Az q x u) (p:Int) (n:Int) (o:Int) (r:Int) (b:Kz u p n o = some r) :
  A1 158 [x,(iv p),(iv n),(iv o)] q fun e w'=>e = .returned (iv r) ∧ Bl q w':=by
 refine cm Tryz.func158 Tryz.ntmps158 rfl fun Q hQ hP hB hS=>?_
 unfold Kz at b
 refine An 1 rfl (Ap fun _ aj=>(Ak fun _ ak=>(wp 1 rfl (BX ad Tryz.underlying72 rfl (Aq 1 rfl (ak (A0 (AU (fun m a w4=>∃ (v:Int),St 47 [(1,(iv p)),(2,(iv n)),(3,(iv o)),(11,x),(12,(iv (List.length u:Int))),(13,(iv v))] a ∧ Bl q w4 ∧ Sp q w4 [] ∧ G9 u p n o m v = some r) FU ?_ ?_))))))))
 ·exact fun a ha=>⟨0,ha.sb rfl,hB,(hS.sel [] rfl),b⟩
 ·rintro w a w4 ⟨v,ha,ab,al,b⟩ bi am
  refine BE ?_ ha
  cases w with
  | zero=>exact Bg b
  | succ w =>
   obtain ⟨bj,af⟩:∃ k,k = G9 u p n o w:=⟨_,rfl⟩
   rw [G9,← af] at b
   refine An 1 rfl (Ap fun _ an=>(A3 rfl b (fun _ b=>?_) (fun _ b=>?_)))
   ·refine Au (an ?_)
    refine Ap fun _ ao=>A0 (Ak fun _ ap=>(wp 1 rfl (bB b fun l aq b=>(BP (e:=Az) Tryz.underlying72 rfl rfl rfl ad aq ?_))))
    rintro bk _ rfl ar
    refine BZ BD rfl (ar.ro ab) rfl (Ei BD rfl ab al fun bl bm _ au av=>(wp 1 rfl (Gj 0 BD rfl rfl au av rfl rfl rfl fun y _ s f=>(Ah (ap (Ap fun aw ax=>?_))))))
    obtain ⟨ay,az,b⟩:=Cj b
    have t:∀ (ac:Bool) (z:Ae) (_:ay ac = some r) (_:Bl q z) (_:Sp q z []),∀ a,St 47 [(1,(iv p)),(2,(iv n)),(3,(iv o)),(9,(iv v)),(11,x),(12,(iv (List.length u:Int))),(13,(iv v)),(44,(.bool ac))] a → aw a z:=by
     intro ac z b ag a0
     subst az
     refine ax (A3 rfl b (fun _ b=>?_) (fun _ b=>?_))
     ·refine An 2 rfl ?_
      refine Ay (rt hQ rfl rfl (by cases b; exact ⟨rfl,ag⟩))
     ·refine Au (ao ?_)
      refine As (Aq 2 rfl ?_)
      rw [af] at b
      exact fun a ha=>am a _ w (AB w) ⟨(Ag (v + 1)),ha.sb rfl,ag,(a0.sel [] rfl),b⟩
    refine As (wp 3 rfl ?_)
    rcases bE (p == 0) with h | h
    ·replace b:=BA h b
     refine wo rfl h (wo rfl h (wo rfl h (wo rfl h (AA rfl rfl h rfl (wp 1 rfl (wn rfl rfl (wp 1 rfl (wn rfl rfl (wp 1 rfl (wn rfl rfl (wp 1 rfl ?_)))))))))))
     rcases bE (n == 0) with i | i
     ·replace b:=BA i b
      refine wo rfl i (wo rfl i (wo rfl i (wo rfl i (wn rfl rfl (AA rfl rfl i rfl (AA rfl rfl rfl rfl (wp 1 rfl (wn rfl rfl (wp 1 rfl (wn rfl rfl (Bp DB rfl (wn rfl rfl (AO 0 A4 rfl f rfl rfl (wn rfl rfl (Bp GP rfl (wn rfl rfl (AO 0 A4 rfl f rfl rfl (wn rfl rfl (wp 1 rfl (wn rfl rfl (bB b fun a1 a2 b=>(Bu rfl Tryz.call77 s f (Cd y o l.2.2.1 (Ag (l.2.2.2 - 1)) _ a2) rfl fun bn _ a3 a4=>(AA rfl rfl rfl rfl (Ah ?_))))))))))))))))))))))))
      exact jx (t a1 _ b a3 (a4.sel [] rfl)) rfl
     ·replace b:=Cf i b
      refine wn rfl i (Bp J4 rfl (wn rfl i (AO 0 A4 rfl f rfl rfl (wn rfl i (wp 1 rfl (wn rfl i (wp 1 rfl (wn rfl rfl (A9 rfl rfl i rfl (AA rfl rfl rfl rfl (wp 1 rfl ?_)))))))))))
      rcases bE (l.1 == n) with c | c
      ·replace b:=BA c b
       refine wn rfl c (wp 1 rfl (wn rfl c (Bp DB rfl (wn rfl c (AO 0 A4 rfl f rfl rfl (wn rfl c (Bp GP rfl (wn rfl c (AO 0 A4 rfl f rfl rfl (wn rfl c (wp 1 rfl (wn rfl c (bB b fun a5 a6 b=>(Bu rfl Tryz.call77 s f (Cd y o l.2.2.1 (Ag (l.2.2.2 - 1)) _ a6) rfl fun bo _ a7 a8=>AA rfl rfl c rfl (Ah ?_)))))))))))))))
       exact jx (t a5 _ b a7 (a8.sel [] rfl)) rfl
      ·replace b:=Cf c b
       refine wo rfl c (wo rfl c (wo rfl c (wo rfl c (wo rfl c (wo rfl c (wo rfl c (A9 rfl rfl c rfl (Ah ?_))))))))
       exact jx (t false _ b s (f.sel [] rfl)) rfl
    ·replace b:=Cf h b
     refine wn rfl h (Bp HT rfl (wn rfl h (AO 0 A4 rfl f rfl rfl (wn rfl h (wp 1 rfl (wn rfl h (wp 1 rfl (A9 rfl rfl h rfl (wp 1 rfl ?_)))))))))
     rcases bE (l.2.1 == p) with g | g
     ·replace b:=BA g b
      refine wn rfl g (wp 1 rfl (wn rfl g (wp 1 rfl (wn rfl g (wp 1 rfl ?_)))))
      rcases bE (n == 0) with j | j
      ·replace b:=BA j b
       refine wo rfl j (wo rfl j (wo rfl j (wo rfl j (wn rfl g (AA rfl rfl j rfl (AA rfl rfl g rfl (wp 1 rfl (wn rfl rfl (wp 1 rfl (wn rfl rfl (Bp DB rfl (wn rfl rfl (AO 0 A4 rfl f rfl rfl (wn rfl rfl (Bp GP rfl (wn rfl rfl (AO 0 A4 rfl f rfl rfl (wn rfl rfl (wp 1 rfl (wn rfl rfl (bB b fun a9 ba b=>(Bu rfl Tryz.call77 s f (Cd y o l.2.2.1 (Ag (l.2.2.2 - 1)) _ ba) rfl fun bp _ bb bc=>(AA rfl rfl rfl rfl (Ah ?_))))))))))))))))))))))))
       exact jx (t a9 _ b bb (bc.sel [] rfl)) rfl
      ·replace b:=Cf j b
       refine wn rfl j (Bp J4 rfl (wn rfl j (AO 0 A4 rfl f rfl rfl (wn rfl j (wp 1 rfl (wn rfl j (wp 1 rfl (wn rfl g (A9 rfl rfl j rfl (AA rfl rfl g rfl (wp 1 rfl ?_)))))))))))
       rcases bE (l.1 == n) with d | d
       ·replace b:=BA d b
        refine wn rfl d (wp 1 rfl (wn rfl d (Bp DB rfl (wn rfl d (AO 0 A4 rfl f rfl rfl (wn rfl d (Bp GP rfl (wn rfl d (AO 0 A4 rfl f rfl rfl (wn rfl d (wp 1 rfl (wn rfl d (bB b fun bd be b=>(Bu rfl Tryz.call77 s f (Cd y o l.2.2.1 (Ag (l.2.2.2 - 1)) _ be) rfl fun bq _ bf bg=>AA rfl rfl d rfl (Ah ?_)))))))))))))))
        exact jx (t bd _ b bf (bg.sel [] rfl)) rfl
       ·replace b:=Cf d b
        refine wo rfl d (wo rfl d (wo rfl d (wo rfl d (wo rfl d (wo rfl d (wo rfl d (A9 rfl rfl d rfl (Ah ?_))))))))
        exact jx (t false _ b s (f.sel [] rfl)) rfl
     ·replace b:=Cf g b
      refine wo rfl g (wo rfl g (wo rfl g (Dn rfl rfl rfl (Dn rfl rfl rfl (Dn rfl rfl rfl (Dn rfl rfl rfl (wo rfl g (A9 rfl rfl g rfl (wp 1 rfl (wo rfl rfl (wo rfl rfl (wo rfl rfl (wo rfl rfl (wo rfl rfl (wo rfl rfl (wo rfl rfl (A9 rfl rfl rfl rfl (Ah ?_))))))))))))))))))
      exact jx (t false _ b s (f.sel [] rfl)) rfl
   ·refine Bd (aj ?_)
    refine An 1 rfl (Ay (rt hQ rfl rfl (by cases b; exact ⟨rfl,ab⟩)))
theorem S8 (g:Ae) (k:Ae2) (h:Ac) (m:RO Az g h k) (i:Int) (j:Int) (r:(Int × Bool)) (b:I9 k i j = some r) :
  A1 104 [h,(iv i),(iv j)] g fun e w'=>e = .returned (.tuple #[(iv r.1),(.bool r.2)]) ∧ Bl g w':=by
 refine cm Tryz.func104 Tryz.ntmps104 rfl fun Q t hP u hS=>?_
 unfold I9 at b
 refine An 2 rfl (Ap fun _ ac=>(Ap fun K3 ae=>?_))
 obtain ⟨k8,ag,b⟩:=Cj b
 have n:∀ (p:Bool) (l:Ae) (_:k8 p = some r) (_:Bl g l) (_:Sp g l []),∀ a,St 36 [(0,h),(1,(iv i)),(2,(iv j)),(27,(.bool p))] a → K3 a l:=by
  intro p l b q a2
  subst ag
  refine ae (A3 rfl b (fun _ b=>?_) (fun _ b=>?_))
  ·refine An 2 rfl ?_
   refine Ay (rt t rfl rfl (by cases b; exact ⟨rfl,q⟩))
  ·refine Au (ac ?_)
   refine Ak fun _ ah=>wp 4 rfl (bB b fun a3 ai b=>(A7 rfl Tryz.call158 (Sg l k h (m.ro q) i 0 j _ ai) rfl ?_))
   rintro _ a4 ⟨rfl,aj⟩
   refine ⟨_,rfl,?_⟩
   have v:=tm q aj
   refine bB b fun a5 ak b=>BP (e:=Az) Tryz.underlying72 rfl rfl rfl m ak ?_
   rintro a6 _ rfl al
   refine JT (o:=0) J4 rfl rfl (BZ A4 rfl ((al.ro v).add 0) rfl (Aq 2 rfl (ah (Ay (rt t rfl rfl (by cases b; exact ⟨rfl,v⟩))))))
 refine As (wp 1 rfl (bB b fun am an b=>(Bu rfl Tryz.call137 u hS (Qs g k h (m.ro u) _ an) rfl fun ao _ w x=>(wp 2 rfl ?_))))
 rcases bE (!am) with d | d
 ·replace b:=BA d b
  refine wo rfl d (wo rfl d (wo rfl d (AA rfl rfl d rfl (wp 1 rfl (wo rfl rfl (wo rfl rfl (wo rfl rfl (AA rfl rfl rfl rfl (wp 1 rfl (wo rfl rfl (wo rfl rfl (wo rfl rfl (wo rfl rfl (wo rfl rfl (AA rfl rfl rfl rfl (Ah ?_))))))))))))))))
  exact jx (n true _ b w (x.sel [] rfl)) rfl
 ·replace b:=Cf d b
  refine wn rfl d (wp 1 rfl (wn rfl d (bB b fun ap aq b=>(Bu rfl Tryz.call156 w x (Qr ao i _ aq) rfl fun ar _ y z=>(wn rfl d (wp 1 rfl (A9 rfl rfl d rfl (wp 1 rfl ?_))))))))
  rcases bE (!ap) with f | f
  ·replace b:=BA f b
   refine wo rfl f (wo rfl f (wo rfl f (AA rfl rfl f rfl (wp 1 rfl (wo rfl rfl (wo rfl rfl (wo rfl rfl (wo rfl rfl (wo rfl rfl (AA rfl rfl rfl rfl (Ah ?_)))))))))))
   exact jx (n true _ b y (z.sel [] rfl)) rfl
  ·replace b:=Cf f b
   refine wn rfl f (wp 1 rfl (wn rfl f (bB b fun au av b=>(Bu rfl Tryz.call157 y z (UC ar j _ av) rfl fun aw _ s aa=>(wn rfl f (wp 1 rfl (A9 rfl rfl f rfl (wp 1 rfl ?_))))))))
   rcases bE (!au) with c | c
   ·replace b:=BA c b
    refine wo rfl c (wo rfl c (wo rfl c (wo rfl c (wo rfl c (AA rfl rfl c rfl (Ah ?_))))))
    exact jx (n true _ b s (aa.sel [] rfl)) rfl
   ·replace b:=Cf c b
    refine wn rfl c (wp 1 rfl (wn rfl c (wp 1 rfl (wn rfl c (wp 1 rfl (wn rfl c (bB b fun ax ay b=>(Bu rfl Tryz.call158 s aa (Sg aw k h (m.ro s) i 0 j _ ay) rfl fun a7 _ az a0=>(wn rfl c (wp 1 rfl (A9 rfl rfl c rfl (Ah ?_))))))))))))
    exact jx (n ((decide (ax < 0))) _ b az (a0.sel [] rfl)) rfl
theorem Xb (d:Ae) (f:Ae4) (h:Ac) (k:RO Ch d h f) (i:Int) (r:Bool) (b:Ml f i = some r) :
  A1 159 [h,(iv i)] d fun e w'=>e = .returned (.bool r) ∧ Bl d w':=by
 refine cm Tryz.func159 Tryz.ntmps159 rfl fun Q p hP l q=>?_
 unfold Ml at b
 refine An 1 rfl (Ap fun s t=>?_)
 obtain ⟨u,v,b⟩:=Cj b
 have m:∀ (j:Bool) (g:Ae) (_:u j = some r) (_:Bl d g) (_:Sp d g []),∀ a,St 14 [(4,(.bool j))] a → s a g:=by
  intro j g b w af
  subst v
  refine t (Ay (rt p rfl rfl (by cases b; exact ⟨rfl,w⟩)))
 refine As (wp 1 rfl (bB b fun x y b=>(Bu rfl Tryz.call138 l q (Ng d f h (k.ro l) _ y) rfl fun z _ n o=>(wp 1 rfl ?_))))
 rcases bE x with c | c
 ·replace b:=BA c b
  refine wn rfl c (wp 1 rfl (wn rfl c (wp 1 rfl (wn rfl c (BX k Tryz.underlying41 rfl (wn rfl c (wp 1 rfl (wn rfl c (bB b fun aa ab b=>(Bu rfl Tryz.call77 n o (Cd z i 0 (Ag ((List.length f:Int) - 1)) _ ab) rfl fun ag _ ac ad=>(AA rfl rfl c rfl (Aq 1 rfl ?_))))))))))))
  exact jx (m aa _ b ac (ad.sel [] rfl)) rfl
 ·replace b:=Cf c b
  refine wo rfl c (wo rfl c (wo rfl c (wo rfl c (wo rfl c (A9 rfl rfl c rfl (Aq 1 rfl ?_))))))
  exact jx (m false _ b n (o.sel [] rfl)) rfl
theorem Xa (c:Ae) (g:Ae4) (j:Ac) (z:RO Ch c j g) (n:Int) (r:(List Int)) (b:KT g n = some r) :
  A1 204 [j,(iv n)] c fun e w'=>∃ (t:Ac) (G0:Al),e = .returned t ∧ Bl c w' ∧ Sp c w' [Ab Ar G0 t r]:=by
 refine cm Tryz.func204 Tryz.ntmps204 rfl fun Q hQ hP hB hS=>?_
 unfold KT at b
 refine An 1 rfl (An 1 rfl (Ap fun _ ae=>(A0 (AU (fun m a p=>∃ (d:Int) (q:(List Int)) (h:Ac) (s:Al),St 18 [(0,j),(1,(iv d)),(5,h)] a ∧ Bl c p ∧ Sp c p [Ab Ar s h q] ∧ E4 g m d q = some r) FU ?_ ?_))))
 ·have af:=hS.push0 (r:=Ab Ar [] (.slice none 0 0) []) rfl fun _=>.inl ⟨rfl,rfl,rfl⟩
  exact fun a ha=>⟨n,[],(.slice none 0 0),[],ha.sb rfl,hB,(af.sel [0] rfl),b⟩
 ·rintro f a p ⟨d,q,h,s,ha,u,v,b⟩ aw ag
  refine BE ?_ ha
  cases f with
  | zero=>exact Bg b
  | succ f =>
   obtain ⟨ax,w⟩:∃ k,k = E4 g f:=⟨_,rfl⟩
   rw [E4,← w] at b
   refine Ap fun _ ah=>An 2 rfl (A3 rfl b (fun _ b=>?_) (fun _ b=>?_))
   ·refine Au (ah ?_)
    refine Ap fun _ ai=>A0 (As (wp 1 rfl (Bc (vs:=[(iv d)]) (l:=[d]) Co Tryz.underlying36 rfl rfl rfl rfl rfl rfl u v fun ay az aj _ ak x=>(wp 1 rfl (bB b fun al am b=>(AF (i:=0) (S:=(· < aj.heap.size)) Co Tryz.underlying36 rfl rfl rfl ak x rfl (x.own_ro (i:=1) rfl) am fun an ao a0 _ y ap=>(Aq 1 rfl (ai (As (wp 2 rfl (bB b fun aq ar b=>(BP (e:=Ch) Tryz.underlying41 rfl rfl rfl z ar ?_))))))))))))
    rintro a1 _ rfl au
    refine JT (o:=0) ND rfl rfl (BZ A4 rfl ((au.ro y).add 0) rfl (Aq 1 rfl ?_))
    rw [w] at b
    exact fun a ha=>ag a _ f (AB f) ⟨aq.1,al,an,ao,ha.sb rfl,y,(ap.sel [0] rfl),b⟩
   ·refine Bd (ae ?_)
    refine An 2 rfl (Ay (rt hQ rfl rfl (by cases b; exact ⟨h,s,rfl,u,v.sel [0] rfl⟩)))
theorem U0 (g:Ae) (j:Ae4) (q:Ac) (ac:RO Ch g q j) (n:Int) (r:(List Int)) (c:JC j n = some r) :
  A1 160 [q,(iv n)] g fun e w'=>∃ (q0:Ac) (G0:Al),e = .returned q0 ∧ Bl g w' ∧ Sp g w' [Ab Ar G0 q0 r]:=by
 refine cm Tryz.func160 Tryz.ntmps160 rfl fun Q hQ f hB hS=>?_
 unfold JC at c
 refine An 1 rfl (An 1 rfl (Ap fun _ az=>(A0 (AU (fun m a v=>∃ (w:(List Int)) (x:Ac) (F9:Al),St 36 [(0,q),(1,(iv n)),(5,x)] a ∧ Bl g v ∧ Sp g v [Ab Ar F9 x w] ∧ ET j n m w = some r) FU ?_ ?_))))
 ·have a0:=hS.push0 (r:=Ab Ar [] (.slice none 0 0) []) rfl fun _=>.inl ⟨rfl,rfl,rfl⟩
  exact fun a ha=>⟨[],(.slice none 0 0),[],ha.sb rfl,hB,(a0.sel [0] rfl),c⟩
 ·rintro s a v ⟨w,x,F9,ha,ae,af,c⟩ bw a1
  refine BE ?_ ha
  cases s with
  | zero=>exact Bg c
  | succ s =>
   obtain ⟨bx,al⟩:∃ k,k = ET j n s:=⟨_,rfl⟩
   rw [ET,← al] at c
   refine Ap fun _ a2=>Ak fun _ a3=>wp 1 rfl (BX (af.own_ro (i:=0) rfl) Tryz.underlying36 rfl (Aq 1 rfl (a3 (A3 rfl c (fun _ c=>?_) (fun _ c=>?_)))))
   ·refine Au (a2 ?_)
    refine A0 (As (wp 1 rfl (Bc (vs:=[(iv (-1))]) (l:=[(-1)]) Co Tryz.underlying36 rfl rfl rfl rfl rfl rfl ae af fun bz b0 a4 _ a5 am=>(bB c fun a6 a7 c=>(AF (i:=1) (S:=(· < a4.heap.size)) Co Tryz.underlying36 rfl rfl rfl a5 am rfl (am.own_ro (i:=0) rfl) a7 fun a8 a9 b1 _ ba bb=>(Aq 1 rfl ?_))))))
    rw [al] at c
    exact fun a ha=>a1 a _ s (AB s) ⟨a6,a8,a9,ha.sb rfl,ba,(bb.sel [1] rfl),c⟩
   ·refine Bd (az ?_)
    refine Ap fun _ bc=>Ak fun _ bd=>wp 2 rfl (bB c fun y be c=>(E6 rfl Tryz.call204 ae af (Xa v j q (ac.ro ae) n _ be) rfl fun an bf b2 _ _ bg ao=>(BX (ao.own_ro (i:=0) rfl) Tryz.underlying36 rfl (Aq 1 rfl (bd (A0 (AU (fun m a ag=>∃ (z:(List Int)) (aa:Int) (t:Ac) (p:Al),St 36 [(0,q),(5,t),(16,an),(17,(iv (List.length y:Int))),(18,(iv aa))] a ∧ Bl g ag ∧ Sp g ag [Ab Ar p t z,Ab Ar bf an y] ∧ ES y j m z aa = some r) FU ?_ ?_)))))))
    ·exact fun a ha=>⟨w,0,x,F9,ha.sb rfl,bg,(ao.sel [1,0] rfl),c⟩
    ·rintro u a ag ⟨z,aa,t,p,ha,ap,ah,c⟩ b3 bh
     refine BE ?_ ha
     cases u with
     | zero=>exact Bg c
     | succ u =>
      obtain ⟨b4,aq⟩:∃ k,k = ES y j u:=⟨_,rfl⟩
      rw [ES,← aq] at c
      refine An 1 rfl (Ap fun _ bi=>(A3 rfl c (fun _ c=>?_) (fun _ c=>?_)))
      ·refine Au (bi ?_)
       refine Ap fun _ bj=>A0 (Ak fun _ bk=>(bB c fun b5 bl c=>(Cw (e:=Ar) (i:=1) Tryz.underlying36 rfl rfl rfl ah rfl bl ?_)))
       rintro b6 _ rfl bm b7
       refine BZ A4 rfl bm rfl (Aq 1 rfl (bk (AQ B4 p ap ah fun bn _ ai ab=>?_)))
       have d:=KeepX.refl bn p
       refine Ax 0 rfl f d (Ax 1 rfl f d (Ax 2 rfl f d (bB c fun u64 bo c=>(Ad 3 rfl f d (BB (e:=Ch) Tryz.underlying41 rfl rfl rfl ac bo ?_)))))
       rintro b8 _ rfl bp
       refine Ad 4 rfl f d (C6 (o:=1) NC rfl rfl (Ad 5 rfl f d (BL A4 rfl (EAt.addk (bp.kx ai (fun b hb=>(((ab.get (i:=0) rfl).2.1 b hb).1))) 1) rfl (Ax 6 rfl f d (Ax 7 rfl f d (bB c fun aj bq c=>(Ad 8 rfl f d (BB (e:=Ch) Tryz.underlying41 rfl rfl rfl ac bq ?_))))))))
       rintro b9 _ rfl br
       refine Ad 9 rfl f d (C6 (o:=2) NB rfl rfl (Ad 10 rfl f d (BL A4 rfl (EAt.addk (br.kx ai (fun b hb=>(((ab.get (i:=0) rfl).2.1 b hb).1))) 2) rfl (bB c fun ca ar c=>(Ad 11 rfl f d (Bv (e:=Ar) (i:=0) Tryz.underlying36 rfl rfl rfl ab rfl ar ?_))))))
       rintro cb _ rfl cc bs
       refine Av 12 rfl (BT (i:=0) (o:=0) (vs:=[(iv aj.2.2)]) (u':=aj.2.2) Co A4 rfl rfl rfl rfl bs ar ai ab rfl rfl ⟨rfl,trivial⟩ rfl fun cd au bt bu=>?_)
       have bv:=d.wr' au.1 au.2.1 (fun _ _ h=>h)
       refine Ah (Am bv (Ba (bj (As (Aq 2 rfl ?_)))))
       rw [aq] at c
       exact fun a ha=>bh a _ u (AB u) ⟨(BG z u64.2.1 aj.2.2),(Ag (aa + 1)),t,p,ha.sb rfl,bt,(bu.sel [0,1] rfl),c⟩
      ·refine Bd (bc ?_)
       refine An 2 rfl (Ay (rt hQ rfl rfl (by cases c; exact ⟨t,p,rfl,ap,ah.sel [0] rfl⟩)))
theorem UG (b:Ae) (c:Ae4) (d:Ac) (h:RO Ch b d c) (f:Int) (r:((List Int) × Bool)) (a:JM c f = some r) :
  A1 105 [d,(iv f)] b fun e w'=>∃ (i:Ac) (m:Al),e = .returned (.tuple #[i,(.bool r.2)]) ∧ Bl b w' ∧ Sp b w' [Ab Ar m i r.1]:=by
 refine cm Tryz.func105 Tryz.ntmps105 rfl fun Q j hP k n=>?_
 unfold JM at a
 refine An 2 rfl (Ap fun _ o=>(Ak fun _ p=>(wp 2 rfl (bB a fun u4 q a=>(Bu rfl Tryz.call159 k n (Xb b c d (h.ro k) f _ q) rfl fun s _ g l=>(Aq 1 rfl (p (A3 rfl a (fun _ a=>?_) (fun _ a=>?_)))))))))
 ·refine An 2 rfl ?_
  refine Ay ?_
  have t:=l.push0 (r:=Ab Ar [] (.slice none 0 0) []) rfl fun _=>.inl ⟨rfl,rfl,rfl⟩
  refine rt j rfl rfl (by cases a; exact ⟨(.slice none 0 0),[],rfl,g,t.sel [0] rfl⟩)
 ·refine Au (o ?_)
  refine Ak fun _ u=>wp 2 rfl (bB a fun ac v a=>(E6 rfl Tryz.call160 g l (U0 s c d (h.ro g) f _ v) rfl fun w x ad _ _ y z=>(Aq 2 rfl (u (Ay (rt j rfl rfl (by cases a; exact ⟨w,x,rfl,y,z.sel [0] rfl⟩)))))))
theorem U5 (c:Ae) (d:(List Int)) (g:Ac) (s:RO Ar c g d) (r:(List Ai)) (b:JG d = some r) :
  A1 106 [g] c fun e w'=>e = .returned (.string (B1 r)) ∧ Bl c w':=by
 refine cm Tryz.func106 Tryz.ntmps106 rfl fun Q hQ hP hB hS=>?_
 unfold JG at b
 refine An 1 rfl (An 1 rfl (Ap fun _ ad=>(Ak fun _ ae=>(wp 1 rfl (BX s Tryz.underlying36 rfl (Aq 1 rfl (ae (A0 (AU (fun m a p=>∃ (j:(List Ai)) (f:Int),St 27 [(3,(.string (B1 j))),(6,g),(7,(iv (List.length d:Int))),(8,(iv f))] a ∧ Bl c p ∧ Sp c p [] ∧ D1 d m j f = some r) FU ?_ ?_)))))))))
 ·exact fun a ha=>⟨[],0,ha.sb rfl,hB,(hS.sel [] rfl),b⟩
 ·rintro h a p ⟨j,f,ha,l,t,b⟩ a6 af
  refine BE ?_ ha
  cases h with
  | zero=>exact Bg b
  | succ h =>
   obtain ⟨a7,u⟩:∃ k,k = D1 d h:=⟨_,rfl⟩
   rw [D1,← u] at b
   refine An 1 rfl (Ap fun _ ag=>(A3 rfl b (fun _ b=>?_) (fun _ b=>?_)))
   ·refine Au (ag ?_)
    refine Ap fun ah ai=>?_
    obtain ⟨aj,ak,b⟩:=Cj b
    have v:∀ (n:(List Ai)) (o:Ae) (_:aj n = some r) (_:Bl c o) (_:Sp c o []),∀ a,St 27 [(3,(.string (B1 n))),(6,g),(7,(iv (List.length d:Int))),(8,(iv f))] a → ah a o:=by
     intro n o b al am
     subst ak
     refine ai (As (Aq 2 rfl ?_))
     rw [u] at b
     exact fun a ha=>af a _ h (AB h) ⟨n,(Ag (f + 1)),ha.sb rfl,al,(am.sel [] rfl),b⟩
    refine A0 (Ak fun _ an=>(wp 1 rfl (bB b fun w ao b=>(BP (e:=Ar) Tryz.underlying36 rfl rfl rfl s ao ?_))))
    rintro a8 _ rfl ap
    refine BZ A4 rfl (ap.ro l) rfl (Aq 2 rfl (an (Ap fun aq ar=>?_)))
    obtain ⟨au,av,b⟩:=Cj b
    have x:∀ (q:(List Ai)) (i:Ae) (_:au q = some r) (_:Bl c i) (_:Sp c i []),∀ a,St 27 [(3,(.string (B1 q))),(5,(iv w)),(6,g),(7,(iv (List.length d:Int))),(8,(iv f))] a → aq a i:=by
     intro q i b y z
     subst av
     refine ar (An 2 rfl (A3 rfl b (fun _ b=>?_) (fun _ b=>?_)))
     ·refine As ?_
      refine wp 1 rfl (bB b fun aw ax b=>(Hf rfl rfl rfl ax (Aq 1 rfl ?_)))
      exact jx (v aw _ b y (z.sel [] rfl)) rfl
     ·refine As ?_
      refine wp 2 rfl (bB b fun a9 ay b=>(Bu rfl Tryz.call69 y z (GX i w _ ay) rfl fun ba _ az a0=>(bB b fun a1 a2 b=>(Hf rfl rfl rfl a2 (Aq 1 rfl ?_)))))
      exact jx (v a1 _ b az (a0.sel [] rfl)) rfl
    refine An 2 rfl (A3 rfl b (fun _ b=>?_) (fun _ b=>?_))
    ·refine As ?_
     refine wp 1 rfl (bB b fun a3 a4 b=>(Hf rfl rfl rfl a4 (Aq 1 rfl ?_)))
     exact jx (x a3 _ b l (t.sel [] rfl)) rfl
    ·refine Au ?_
     exact jx (x j _ b l (t.sel [] rfl)) rfl
   ·refine Bd (ad ?_)
    refine An 2 rfl (Ay (rt hQ rfl rfl (by cases b; exact ⟨rfl,l⟩)))
theorem Qm (c:Ae) (b:Int) (r:(List Ai)) (a:IY b = some r) :
  A1 161 [(iv b)] c fun e w'=>e = .returned (.string (B1 r)) ∧ Bl c w':=by
 refine cm Tryz.func161 Tryz.ntmps161 rfl fun Q d x f _=>?_
 unfold IY at a
 refine An 1 rfl (Ap fun _ g=>(Ak fun _ h=>(wp 1 rfl (Q5 rfl rfl rfl (by decide) (Aq 1 rfl (h (A3 rfl a (fun _ a=>?_) (fun _ a=>?_))))))))
 ·refine Ak fun _ i=>?_
  refine wp 1 rfl (MO rfl rfl rfl (by decide) (bB a fun y j a=>(A7 rfl Tryz.call69 (GX c (Ag (Int.tdiv b 8)) _ j) rfl ?_)))
  rintro _ z ⟨rfl,k⟩
  refine ⟨_,rfl,?_⟩
  have l:=tm f k
  refine Aq 1 rfl (i (Ay (rt d rfl rfl (by cases a; exact ⟨rfl,l⟩))))
 ·refine Au (g ?_)
  refine Ak fun _ m=>wp 1 rfl (MO rfl rfl rfl (by decide) (bB a fun aa n a=>(A7 rfl Tryz.call69 (GX c (Ag (Int.tdiv b 8)) _ n) rfl ?_)))
  rintro _ o ⟨rfl,p⟩
  refine ⟨_,rfl,?_⟩
  have q:=tm f p
  refine bB a fun ab s a=>Hf rfl rfl rfl s (wp 1 rfl (Q5 rfl rfl rfl (by decide) (bB a fun ac t a=>(A7 rfl Tryz.call69 (GX o (Int.tmod b 8) _ t) rfl ?_))))
  rintro _ ad ⟨rfl,u⟩
  refine ⟨_,rfl,?_⟩
  have v:=tm q u
  refine bB a fun ae w a=>Hf rfl rfl rfl w (Aq 1 rfl (m (Ay (rt d rfl rfl (by cases a; exact ⟨rfl,v⟩)))))
theorem Vy (h:Ae) (c:(Int × Int)) (r:(List Ai)) (a:Kh c = some r) :
  A1 107 [(.agg #[(iv c.1),(iv c.2)])] h fun e w'=>e = .returned (.string (B1 r)) ∧ Bl h w':=by
 refine cm Tryz.func107 Tryz.ntmps107 rfl fun Q m b n o=>?_
 unfold Kh at a
 refine Ak fun _ p=>CK rfl n o fun b2 w3 _ q s=>Aq 1 rfl (p (Ap fun _ t=>(AQ B4 [] q s fun i _ u j=>?_)))
 have d:=KeepX.refl i []
 refine Ad 0 rfl b d (C9 CJ rfl (Ad 1 rfl b d (CQ 0 A4 rfl j rfl (by simp) (Ad 4 rfl b d (C9 CI rfl (Ad 5 rfl b d (CQ 0 A4 rfl j rfl (by simp) (Av 2 rfl (bB a fun ae v a=>(A7 rfl Tryz.call161 (Qm i c.1 _ v) rfl ?_))))))))))
 rintro _ w ⟨rfl,k⟩
 refine ⟨_,rfl,?_⟩
 have x:=tm u k
 have f:=d.ext k
 refine Ah (Am f (bB a fun af y a=>(Ad 3 rfl b f (ER rfl rfl rfl y (Av 6 rfl (bB a fun ag z a=>(A7 rfl Tryz.call161 (Qm w c.2 _ z) rfl ?_)))))))
 rintro _ ah ⟨rfl,l⟩
 refine ⟨_,rfl,?_⟩
 have aa:=tm x l
 have g:=f.ext l
 refine Ah (Am g (bB a fun ai ab a=>(Ad 7 rfl b g (ER rfl rfl rfl ab (Ad 8 rfl b g (AC rfl rfl (Ba (t (Ay (rt m rfl rfl (by cases a; exact ⟨rfl,aa⟩)))))))))))
theorem Xc (d:Ae) (f:(Int × Int)) (g:(Int × Int)) (r:Bool) (b:Mm f g = some r) :
  A1 162 [(.agg #[(iv f.1),(iv f.2)]),(.agg #[(iv g.1),(iv g.2)])] d fun e w'=>e = .returned (.bool r) ∧ Bl d w':=by
 refine cm Tryz.func162 Tryz.ntmps162 rfl fun Q n hP o p=>?_
 unfold Mm at b
 refine Ak fun _ q=>CK rfl o p fun b2 w3 _ s t=>CK rfl s t fun b7 u _ v k=>Aq 1 rfl (q (Ap fun w x=>?_))
 obtain ⟨y,z,b⟩:=Cj b
 have l:∀ (i:Bool) (h:Ae) (_:y i = some r) (_:Bl d h) (_:Sp d h []),∀ a,St 11 [(4,(.bool i))] a → w a h:=by
  intro i h b aa am
  subst z
  refine x (Ay (rt n rfl rfl (by cases b; exact ⟨rfl,aa⟩)))
 refine As (AO 1 Bs rfl k rfl rfl (bB b fun ab ac b=>(Bu rfl Tryz.call190 v k (Nh u f _ ac) rfl fun ad _ m j=>(wp 1 rfl ?_))))
 rcases bE ab with c | c
 ·replace b:=BA c b
  refine wn rfl c (AO 0 Bs rfl j rfl rfl (wn rfl c (bB b fun ae af b=>(Bu rfl Tryz.call190 m j (Nh ad g _ af) rfl fun an _ ag ah=>(AA rfl rfl c rfl (Aq 1 rfl ?_))))))
  exact jx (l ae _ b ag (ah.sel [] rfl)) rfl
 ·replace b:=Cf c b
  refine wo rfl c (wo rfl c (A9 rfl rfl c rfl (Aq 1 rfl ?_)))
  exact jx (l false _ b m (j.sel [] rfl)) rfl
theorem Vz (h:Ae) (g:Int) (r:Int) (b:Ki g = some r) :
  A1 205 [(iv g)] h fun e w'=>e = .returned (iv r) ∧ Bl h w':=by
 refine cm Tryz.func205 Tryz.ntmps205 rfl fun Q p w q s=>?_
 unfold Ki at b
 refine An 1 rfl (An 2 rfl (Ap fun _ t=>(A0 (AU (fun m a i=>∃ (d:Int) (f:Int),St 25 [(0,(iv g)),(3,(iv d)),(4,(iv f))] a ∧ Bl h i ∧ Sp h i [] ∧ EE g m d f = some r) FU ?_ ?_))))
 ·exact fun a ha=>⟨0,1000,ha.sb rfl,q,(s.sel [] rfl),b⟩
 ·rintro c a i ⟨d,f,ha,j,n,b⟩ x o
  refine BE ?_ ha
  cases c with
  | zero=>exact Bg b
  | succ c =>
   obtain ⟨y,l⟩:∃ k,k = EE g c:=⟨_,rfl⟩
   rw [EE,← l] at b
   refine Ap fun _ u=>An 3 rfl (A3 rfl b (fun _ b=>?_) (fun _ b=>?_))
   ·refine Au (u ?_)
    refine A0 (Ak fun _ v=>(wp 3 rfl (MO rfl rfl rfl (by decide) (Aq 1 rfl (v (An 8 rfl (A3 rfl b (fun _ b=>?_) (fun _ b=>?_))))))))
    ·refine As ?_
     refine Aq 2 rfl ?_
     rw [l] at b
     exact fun a ha=>o a _ c (AB c) ⟨d,(Ag (Int.tdiv (Ag (d + f)) 2)),ha.sb rfl,j,(n.sel [] rfl),b⟩
    ·refine As ?_
     refine Aq 3 rfl ?_
     rw [l] at b
     exact fun a ha=>o a _ c (AB c) ⟨(Ag ((Ag (Int.tdiv (Ag (d + f)) 2)) + 1)),f,ha.sb rfl,j,(n.sel [] rfl),b⟩
   ·refine Bd (t ?_)
    refine An 2 rfl (Ay (rt p rfl rfl (by cases b; exact ⟨rfl,j⟩)))
theorem U1 (d:Ae) (b:(Int × Int)) (c:(Int × Int)) (r:Int) (a:Le b c = some r) :
  A1 163 [(.agg #[(iv b.1),(iv b.2)]),(.agg #[(iv c.1),(iv c.2)])] d fun e w'=>e = .returned (iv r) ∧ Bl d w':=by
 refine cm Tryz.func163 Tryz.ntmps163 rfl fun Q g y h i=>?_
 unfold Le at a
 refine Ak fun _ j=>CK rfl h i fun z w3 _ k l=>CK rfl k l fun b7 m _ n f=>Aq 1 rfl (j (Ak fun _ o=>(AO 1 Bs rfl f rfl rfl (AO 0 Bs rfl f rfl rfl (bB a fun p q a=>(A7 rfl Tryz.call194 (KG m b c _ q) rfl ?_))))))
 rintro _ s ⟨rfl,t⟩
 refine ⟨_,rfl,?_⟩
 have u:=tm n t
 refine bB a fun ac v a=>A7 rfl Tryz.call205 (Vz s p _ v) rfl ?_
 rintro _ ad ⟨rfl,w⟩
 refine ⟨_,rfl,?_⟩
 have x:=tm u w
 refine Aq 1 rfl (o (Ay (rt g rfl rfl (by cases a; exact ⟨rfl,x⟩))))
theorem S7 (f:Ae) (b:(Int × Int)) (c:(Int × Int)) (r:(Int × Bool)) (a:Hy b c = some r) :
  A1 108 [(.agg #[(iv b.1),(iv b.2)]),(.agg #[(iv c.1),(iv c.2)])] f fun e w'=>e = .returned (.tuple #[(iv r.1),(.bool r.2)]) ∧ Bl f w':=by
 refine cm Tryz.func108 Tryz.ntmps108 rfl fun Q g z j k=>?_
 unfold Hy at a
 refine Ak fun _ l=>CK rfl j k fun b2 w3 _ m n=>CK rfl m n fun b7 o _ p d=>Aq 2 rfl (l (Ap fun _ q=>(Ak fun _ s=>(AO 1 Bs rfl d rfl rfl (AO 0 Bs rfl d rfl rfl (bB a fun ad t a=>(Bu rfl Tryz.call162 p d (Xc o b c _ t) rfl fun u _ h i=>(Aq 1 rfl (s (A3 rfl a (fun _ a=>?_) (fun _ a=>?_)))))))))))
 ·refine An 2 rfl ?_
  refine Ay (rt g rfl rfl (by cases a; exact ⟨rfl,h⟩))
 ·refine Au (q ?_)
  refine Ak fun _ v=>AO 1 Bs rfl i rfl rfl (AO 0 Bs rfl i rfl rfl (bB a fun ae w a=>(A7 rfl Tryz.call163 (U1 u b c _ w) rfl ?_)))
  rintro _ af ⟨rfl,x⟩
  refine ⟨_,rfl,?_⟩
  have y:=tm h x
  refine Aq 2 rfl (v (Ay (rt g rfl rfl (by cases a; exact ⟨rfl,y⟩))))
theorem Qx (j:Ae) (g:(Ae1 × Ae1 × Int × Ae1 × Ae2 × Ae4 × (List Int) × (List Int) × Int)) (p0:Addr) (z:Ac) (v:RO Ao j z g.1) (ae:Ac) (ax:RO Ao j ae g.2.1) (ak:Ac) (bm:RO BN j ak g.2.2.2.1) (al:Ac) (bn:RO Az j al g.2.2.2.2.1) (am:Ac) (bo:RO Ch j am g.2.2.2.2.2.1) (ay:Ac) (b7:RO Ar j ay g.2.2.2.2.2.2.1) (az:Ac) (b8:RO Ar j az g.2.2.2.2.2.2.2.1) (q:EAt (· < j.heap.size) j p0 [z,ae,(iv g.2.2.1),ak,al,am,ay,az,(iv g.2.2.2.2.2.2.2.2)]) (x1:(List Ai)) (x2:(List Int)) (a0:Ac) (s:RO Ar j a0 x2) (r:(List Ai)) (c:C5 g x1 x2 = some r) :
  A1 80 [(.pointer (some p0)),(.string (B1 x1)),a0] j fun e w'=>e = .returned (.string (B1 r)) ∧ Bl j w':=by
 refine cm Tryz.func80 Tryz.ntmps80 rfl fun Q n d f hS=>?_
 unfold C5 at c
 refine An 1 rfl (Ap fun _ dk=>(An 1 rfl (A0 (Ak fun _ dl=>(AP rfl rfl rfl (Aq 1 rfl (dl (A3 rfl c (fun _ c=>?_) (fun _ c=>?_)))))))))
 ·refine Ap fun K6 dn=>?_
  obtain ⟨dp,dq,c⟩:=jE5 c
  have b9:∀ (a1:Ae1) (a2:Ae1) (a3:Int) (a4:(List Int)) (bp:Bool) (a5:Ac) (ca:Al) (a6:Ac) (cb:Al) (a7:Ac) (cc:Al) (bq:Nat) (w7:Ae) (_:dp a1 a2 a3 a4 bp = some r) (_:Bl j w7) (_:Sp j w7 [Ab Ao ca a5 a1,Ab Ao cb a6 a2,Ab Ar cc a7 a4,A5 bq 128 [a5,a6,(iv a3),a7]]),∀ a,St 175 [(7,(.pointer (some ⟨bq,0,none⟩))),(8,(.bool bp))] a → K6 a w7:=by
   intro a1 a2 a3 a4 bp a5 ca a6 cb a7 cc bq w7 c cd a8
   subst dq
   refine dn (Ap fun _ dr=>(An 2 rfl (A3 rfl c (fun _ c=>?_) (fun _ c=>?_))))
   ·refine An 1 rfl ?_
    refine Ay (rt n rfl rfl (by cases c; exact ⟨rfl,cd⟩))
   ·refine Au (dr ?_)
    refine Ak fun _ ds=>AO 3 Bo rfl a8 rfl rfl (bB c fun ce dt c=>(A7 rfl Tryz.call98 (S6 w7 (a1,a2,a3,a4) a5 (a8.own_ro (i:=0) rfl) a6 (a8.own_ro (i:=1) rfl) a7 (a8.own_ro (i:=2) rfl) _ dt) rfl ?_))
    rintro _ du ⟨rfl,dv⟩
    refine ⟨_,rfl,?_⟩
    have dw:=tm cd dv
    refine wp 2 rfl (bB c fun hu dx c=>(A7 rfl Tryz.call97 (J0 du ce.1 ce.2 _ dx) rfl ?_))
    rintro _ hv ⟨rfl,dy⟩
    refine ⟨_,rfl,?_⟩
    have dz:=tm dw dy
    refine Aq 1 rfl (ds (Ay (rt n rfl rfl (by cases c; exact ⟨rfl,dz⟩))))
  refine AQ B4 [] f hS fun aa _ w cf=>?_
  have p:=KeepX.refl aa []
  refine Ax 0 rfl d p (Ad 1 rfl d p (B8 rfl rfl (Ad 2 rfl d p (C6 (o:=1) Un rfl rfl (Ad 3 rfl d p (BL Cm rfl (EAt.addk (q.kx w (by simp)) 1) rfl (Ax 4 rfl d p (Ad 5 rfl d p (B8 rfl rfl (Ad 6 rfl d p (C6 (o:=0) IU rfl rfl (Ad 7 rfl d p (BL Cm rfl (EAt.addk (q.kx w (by simp)) 0) rfl (Ax 8 rfl d p (Ad 9 rfl d p (B8 rfl rfl (Ad 10 rfl d p (C6 (o:=2) Um rfl rfl (Ad 11 rfl d p (BL A4 rfl (EAt.addk (q.kx w (by simp)) 2) rfl (C0 (is:=[12,16]) (by kernel_rfl) rfl (Bb.2 ⟨⟨_,rfl,?_⟩,Bb.2 ⟨⟨_,rfl,?_⟩,fun _ h=>by cases h⟩⟩))))))))))))))))))))))
  ·refine bB c fun ab d0 c=>?_
   refine A7 rfl Tryz.call96 (L0 aa g.2.1 ae (ax.ro w) g.1 z (v.ro w) g.2.2.1 _ d0) rfl ?_
   rintro _ d1 ⟨br,d2,bs,d3,bt,d4,rfl,a9,d5⟩
   refine ⟨_,rfl,?_⟩
   have cg:=tm w a9
   have d6:=cf.join a9 d5 w.size
   have aq:=p.ext a9
   have d7:=Aw (Nat.le_refl aa.heap.size) a9.size
   refine Ah (Am aq (Ax 13 rfl d aq (Ad 14 rfl d aq (AV rfl rfl rfl (Ad 15 rfl d aq (AV rfl rfl rfl (Av 16 rfl (Ei Bo rfl (Bf d1) (Sep.nil _ _) fun ch hw bu _ ci=>?_))))))))
   have d8:=tm cg bu
   have ba:=d6.join bu ci cg.size
   have d9:∀ b ∈ [ch],aa.heap.size ≤ b:=fun b hb=>Aw d7 ((ci.1 _ (List.mem_cons_self ..)).2.1 b hb).1
   have cj:=aq.ext bu
   refine Ah (Am cj (Av 17 rfl (B9 (i:=0) (vs:=[br,bs,(iv ab.1.2.2.1),bt]) (cs':=[br,bs,(iv ab.1.2.2.1),bt]) Bo rfl rfl rfl rfl d8 ba rfl rfl ⟨(ba.own_ro (i:=1) rfl).one,(ba.own_ro (i:=2) rfl).one,rfl,(ba.own_ro (i:=3) rfl).one,trivial⟩ rfl fun hx ck ea eb=>?_)))
   have cl:=cj.wr' ck.1 ck.2.1 (fun b hlt hb=>absurd hlt (AK.2 (d9 b hb)))
   refine Ah (Am cl (Ad 18 rfl d cl (AC rfl rfl (Ba ?_))))
   exact jx (b9 (ab.1.1) (ab.1.2.1) (ab.1.2.2.1) (ab.1.2.2.2) (ab.2) br d2 bs d3 bt d4 ch _ c ea (eb.sel [1,2,3,0] rfl)) rfl
  ·refine Ei Bo rfl (Bf aa) (Sep.nil _ _) fun cn ec bv _ co=>?_
   have bb:=tm w bv
   have ed:=cf.join bv co w.size
   have ee:∀ b ∈ [cn],aa.heap.size ≤ b:=fun b hb=>Aw (Nat.le_refl aa.heap.size) ((co.1 _ (List.mem_cons_self ..)).2.1 b hb).1
   have cp:=p.ext bv
   refine Ah (Am cp (Av 12 rfl (bB c fun ac ef c=>(A7 rfl Tryz.call96 (L0 ec g.2.1 ae (ax.ro bb) g.1 z (v.ro bb) g.2.2.1 _ ef) rfl ?_))))
   rintro _ hy ⟨bw,eg,bx,eh,bz,ei,rfl,b0,ej⟩
   refine ⟨_,rfl,?_⟩
   have ek:=tm bb b0
   have bc:=ed.join b0 ej bb.size
   have ar:=cp.ext b0
   refine Ah (Am ar (Ax 13 rfl d ar (Ad 14 rfl d ar (AV rfl rfl rfl (Ad 15 rfl d ar (AV rfl rfl rfl (Av 17 rfl (B9 (i:=3) (vs:=[bw,bx,(iv ac.1.2.2.1),bz]) (cs':=[bw,bx,(iv ac.1.2.2.1),bz]) Bo rfl rfl rfl rfl ek bc rfl rfl ⟨(bc.own_ro (i:=0) rfl).one,(bc.own_ro (i:=1) rfl).one,rfl,(bc.own_ro (i:=2) rfl).one,trivial⟩ rfl fun hz cq el em=>?_))))))))
   have cr:=ar.wr' cq.1 cq.2.1 (fun b hlt hb=>absurd hlt (AK.2 (ee b hb)))
   refine Ah (Am cr (Ad 18 rfl d cr (AC rfl rfl (Ba ?_))))
   exact jx (b9 (ac.1.1) (ac.1.2.1) (ac.1.2.2.1) (ac.1.2.2.2) (ac.2) bw eg bx eh bz ei cn _ c el (em.sel [0,1,2,3] rfl)) rfl
 ·refine Ak fun _ en=>?_
  refine AP rfl rfl rfl (Aq 1 rfl (en (A3 rfl c (fun _ c=>?_) (fun _ c=>?_))))
  ·refine Ak fun _ eo=>?_
   refine wp 2 rfl (bB c fun ep eq c=>(BP (e:=Ar) Tryz.underlying36 rfl rfl rfl s eq ?_))
   rintro h0 _ rfl er
   refine BZ A4 rfl (er.ro f) rfl (bB c fun h1 es c=>(A7 rfl Tryz.call99 (Ok j g p0 z (v.ro f) ae (ax.ro f) ak (bm.ro f) al (bn.ro f) am (bo.ro f) ay (b7.ro f) az (b8.ro f) (q.ro f) ep _ es) rfl ?_))
   rintro _ h2 ⟨rfl,et⟩
   refine ⟨_,rfl,?_⟩
   have eu:=tm f et
   refine Aq 1 rfl (eo (Ay (rt n rfl rfl (by cases c; exact ⟨rfl,eu⟩))))
  ·refine Ak fun _ ev=>?_
   refine AP rfl rfl rfl (Aq 1 rfl (ev (A3 rfl c (fun _ c=>?_) (fun _ c=>?_))))
   ·refine Ak fun _ ew=>?_
    refine wp 1 rfl (bB c fun b1 ex c=>(A7 rfl Tryz.call100 (Ll j g p0 z (v.ro f) ae (ax.ro f) ak (bm.ro f) al (bn.ro f) am (bo.ro f) ay (b7.ro f) az (b8.ro f) (q.ro f) _ ex) rfl ?_))
    rintro _ h3 ⟨b2,h4,b3,h5,b4,h6,rfl,cs,ey⟩
    refine ⟨_,rfl,?_⟩
    have ez:=tm f cs
    have e0:=hS.join cs ey f.size
    refine wp 3 rfl (Ei Bo rfl ez e0 fun h7 h8 _ e1 bd=>(B9 (i:=0) (vs:=[b2,b3,(iv b1.1.2.2.1),b4]) (cs':=[b2,b3,(iv b1.1.2.2.1),b4]) Bo rfl rfl rfl rfl e1 bd rfl rfl ⟨(bd.own_ro (i:=1) rfl).one,(bd.own_ro (i:=2) rfl).one,rfl,(bd.own_ro (i:=3) rfl).one,trivial⟩ rfl fun h9 _ ct e2=>(Aq 1 rfl (ew (Ap fun _ e3=>(An 2 rfl (A3 rfl c (fun _ c=>?_) (fun _ c=>?_))))))))
    ·refine An 1 rfl ?_
     refine Ay (rt n rfl rfl (by cases c; exact ⟨rfl,ct⟩))
    ·refine Au (e3 ?_)
     refine Ap fun _ e4=>AQ B4 [] ct e2 fun cu _ cv be=>?_
     have au:=KeepX.refl cu []
     refine Ad 0 rfl d au (CQ 0 Bo rfl be rfl (by simp) (Ax 1 rfl d au (bB c fun e5 e6 c=>(Ad 2 rfl d au (BB (e:=Ar) Tryz.underlying36 rfl rfl rfl s e6 ?_)))))
     rintro ia _ rfl e7
     refine Ad 3 rfl d au (BL A4 rfl (e7.kx cv (by simp)) rfl (Av 4 rfl (bB c fun cw e8 c=>(A7 rfl Tryz.call101 (RE cu b1.1 b2 (be.own_ro (i:=1) rfl) b3 (be.own_ro (i:=2) rfl) b4 (be.own_ro (i:=3) rfl) e5 _ e8) rfl ?_))))
     rintro _ e9 ⟨rfl,cx⟩
     refine ⟨_,rfl,?_⟩
     have fa:=tm cv cx
     have bf:=au.ext cx
     refine Ah (Am bf (Ad 5 rfl d bf (AV rfl rfl rfl (Ad 6 rfl d bf (AV rfl rfl rfl (Av 7 rfl (bB c fun ib fb c=>(A7 rfl Tryz.call97 (J0 e9 cw.1 cw.2 _ fb) rfl ?_))))))))
     rintro _ ic ⟨rfl,cy⟩
     refine ⟨_,rfl,?_⟩
     have fc:=tm fa cy
     have cz:=bf.ext cy
     refine Ah (Am cz (Ad 8 rfl d cz (AC rfl rfl (Ba (e4 (Ay (rt n rfl rfl (by cases c; exact ⟨rfl,fc⟩))))))))
   ·refine Ak fun _ fd=>?_
    refine AP rfl rfl rfl (Aq 1 rfl (fd (A3 rfl c (fun _ c=>?_) (fun _ c=>?_))))
    ·refine Ak fun _ fe=>?_
     refine wp 1 rfl (BC rfl rfl (JT (o:=0) IU rfl rfl (BZ Cm rfl ((q.ro f).add 0) rfl (bB c fun c0 ff c=>(A7 rfl Tryz.call102 (Rg j g.1 z (v.ro f) _ ff) rfl ?_)))))
     rintro _ fg ⟨rfl,fh⟩
     refine ⟨_,rfl,?_⟩
     have fi:=tm f fh
     refine wp 2 rfl (bB c fun ie fj c=>(A7 rfl Tryz.call97 (J0 fg c0.1 c0.2 _ fj) rfl ?_))
     rintro _ ig ⟨rfl,fk⟩
     refine ⟨_,rfl,?_⟩
     have fl:=tm fi fk
     refine Aq 1 rfl (fe (Ay (rt n rfl rfl (by cases c; exact ⟨rfl,fl⟩))))
    ·refine Ak fun _ fm=>?_
     refine AP rfl rfl rfl (Aq 1 rfl (fm (A3 rfl c (fun _ c=>?_) (fun _ c=>?_))))
     ·refine Ap fun _ fn=>?_
      refine AQ B4 [] f hS fun c1 _ bg _=>?_
      have x:=KeepX.refl c1 []
      refine Ax 0 rfl d x (Ad 1 rfl d x (B8 rfl rfl (Ad 2 rfl d x (C6 (o:=3) Ul rfl rfl (Ad 3 rfl d x (BL Ry rfl (EAt.addk (q.kx bg (by simp)) 3) rfl (Ax 4 rfl d x (bB c fun fo fp c=>(Ad 5 rfl d x (BB (e:=Ar) Tryz.underlying36 rfl rfl rfl s fp ?_))))))))))
      rintro ih _ rfl fq
      refine Ad 6 rfl d x (BL A4 rfl (fq.kx bg (by simp)) rfl (Av 7 rfl (bB c fun c2 fr c=>(A7 rfl Tryz.call103 (VA c1 g.2.2.2.1 ak (bm.ro bg) fo _ fr) rfl ?_))))
      rintro _ fs ⟨rfl,c3⟩
      refine ⟨_,rfl,?_⟩
      have ft:=tm bg c3
      have bh:=x.ext c3
      refine Ah (Am bh (Ad 8 rfl d bh (AV rfl rfl rfl (Ad 9 rfl d bh (AV rfl rfl rfl (Av 10 rfl (bB c fun ii fu c=>(A7 rfl Tryz.call97 (J0 fs c2.1 c2.2 _ fu) rfl ?_))))))))
      rintro _ ij ⟨rfl,c4⟩
      refine ⟨_,rfl,?_⟩
      have fv:=tm ft c4
      have c5:=bh.ext c4
      refine Ah (Am c5 (Ad 11 rfl d c5 (AC rfl rfl (Ba (fn (Ay (rt n rfl rfl (by cases c; exact ⟨rfl,fv⟩))))))))
     ·refine Ak fun _ fw=>?_
      refine AP rfl rfl rfl (Aq 1 rfl (fw (A3 rfl c (fun _ c=>?_) (fun _ c=>?_))))
      ·refine Ap fun _ fx=>?_
       refine AQ B4 [] f hS fun c6 _ av _=>?_
       have t:=KeepX.refl c6 []
       refine Ax 0 rfl d t (Ad 1 rfl d t (B8 rfl rfl (Ad 2 rfl d t (C6 (o:=4) Uk rfl rfl (Ad 3 rfl d t (BL Rw rfl (EAt.addk (q.kx av (by simp)) 4) rfl (Ax 4 rfl d t (bB c fun fy fz c=>(Ad 5 rfl d t (BB (e:=Ar) Tryz.underlying36 rfl rfl rfl s fz ?_))))))))))
       rintro ik _ rfl f0
       refine Ad 6 rfl d t (BL A4 rfl (f0.kx av (by simp)) rfl (Ax 7 rfl d t (bB c fun f1 f2 c=>(Ad 8 rfl d t (BB (e:=Ar) Tryz.underlying36 rfl rfl rfl s f2 ?_)))))
       rintro il _ rfl f3
       refine Ad 9 rfl d t (BL A4 rfl (f3.kx av (by simp)) rfl (Av 10 rfl (bB c fun f4 f5 c=>(A7 rfl Tryz.call104 (S8 c6 g.2.2.2.2.1 al (bn.ro av) fy f1 _ f5) rfl ?_))))
       rintro _ f6 ⟨rfl,c7⟩
       refine ⟨_,rfl,?_⟩
       have c8:=tm av c7
       have ag:=t.ext c7
       refine Ah (Am ag (Ax 11 rfl d ag (Ad 12 rfl d ag (AV rfl rfl rfl (Ad 13 rfl d ag (AV rfl rfl rfl (Ad 14 rfl d ag (AC rfl rfl (Ad 15 rfl d ag (AC rfl rfl (Ba (fx (Ap fun _ f7=>(An 2 rfl (A3 rfl c (fun _ c=>?_) (fun _ c=>?_))))))))))))))))
       ·refine An 1 rfl ?_
        refine Ay (rt n rfl rfl (by cases c; exact ⟨rfl,c8⟩))
       ·refine Au (f7 ?_)
        refine Ak fun _ f8=>wp 1 rfl (bB c fun im f9 c=>(A7 rfl Tryz.call69 (GX f6 f4.1 _ f9) rfl ?_))
        rintro _ io ⟨rfl,ga⟩
        refine ⟨_,rfl,?_⟩
        have gb:=tm c8 ga
        refine Aq 1 rfl (f8 (Ay (rt n rfl rfl (by cases c; exact ⟨rfl,gb⟩))))
      ·refine Ak fun _ gc=>?_
       refine AP rfl rfl rfl (Aq 1 rfl (gc (A3 rfl c (fun _ c=>?_) (fun _ c=>?_))))
       ·refine Ap fun _ gd=>?_
        refine AQ B4 [] f hS fun c9 _ bi ge=>?_
        have y:=KeepX.refl c9 []
        refine Ax 0 rfl d y (Ad 1 rfl d y (B8 rfl rfl (Ad 2 rfl d y (C6 (o:=5) Uj rfl rfl (Ad 3 rfl d y (BL Rx rfl (EAt.addk (q.kx bi (by simp)) 5) rfl (Ax 4 rfl d y (bB c fun gf gg c=>(Ad 5 rfl d y (BB (e:=Ar) Tryz.underlying36 rfl rfl rfl s gg ?_))))))))))
        rintro ip _ rfl gh
        refine Ad 6 rfl d y (BL A4 rfl (gh.kx bi (by simp)) rfl (Av 7 rfl (bB c fun gi gj c=>(E6 rfl Tryz.call105 bi ge (UG c9 g.2.2.2.2.2.1 am (bo.ro bi) gf _ gj) rfl fun gk iq gl gm _ da gn=>?_))))
        have ah:=y.ext gm
        refine Ah (Am ah (Ax 8 rfl d ah (Ad 9 rfl d ah (AV rfl rfl rfl (Ad 10 rfl d ah (AV rfl rfl rfl (Ad 11 rfl d ah (AC rfl rfl (Ad 12 rfl d ah (AC rfl rfl (Ba (gd (Ap fun _ go=>(An 2 rfl (A3 rfl c (fun _ c=>?_) (fun _ c=>?_))))))))))))))))
        ·refine An 1 rfl ?_
         refine Ay (rt n rfl rfl (by cases c; exact ⟨rfl,da⟩))
        ·refine Au (go ?_)
         refine Ak fun _ gp=>wp 1 rfl (bB c fun ir gq c=>(A7 rfl Tryz.call106 (U5 gl gi.1 gk (gn.own_ro (i:=0) rfl) _ gq) rfl ?_))
         rintro _ it ⟨rfl,gr⟩
         refine ⟨_,rfl,?_⟩
         have gs:=tm da gr
         refine Aq 1 rfl (gp (Ay (rt n rfl rfl (by cases c; exact ⟨rfl,gs⟩))))
       ·refine Au (dk ?_)
        refine Ap fun _ gt=>Ak fun _ gu=>wp 1 rfl (BX s Tryz.underlying36 rfl (Aq 1 rfl (gu (A0 (AU (fun m a b5=>∃ (bj:Int),St 175 [(0,(.pointer (some p0))),(1,(.string (B1 x1))),(2,a0),(127,a0),(128,(iv (List.length x2:Int))),(129,(iv bj))] a ∧ Bl j b5 ∧ Sp j b5 [] ∧ CB x2 g x1 m bj = some r) FU ?_ ?_)))))
        ·exact fun a ha=>⟨0,ha.sb rfl,f,(hS.sel [] rfl),c⟩
        ·rintro aw a b5 ⟨bj,ha,ai,b6,c⟩ iu gv
         refine BE ?_ ha
         cases aw with
         | zero=>exact Bg c
         | succ aw =>
          obtain ⟨iw,db⟩:∃ k,k = CB x2 g x1 aw:=⟨_,rfl⟩
          rw [CB,← db] at c
          refine An 1 rfl (Ap fun _ gw=>(A3 rfl c (fun _ c=>?_) (fun _ c=>?_)))
          ·refine Au (gw ?_)
           refine Ap fun _ gx=>A0 (Ak fun _ gy=>(bB c fun ix gz c=>(BP (e:=Ar) Tryz.underlying36 rfl rfl rfl s gz ?_)))
           rintro iy _ rfl g0
           refine BZ A4 rfl (g0.ro ai) rfl (Aq 1 rfl (gy (Ak fun _ g1=>(wp 2 rfl (BC rfl rfl (JT (o:=0) IU rfl rfl (BZ Cm rfl ((q.ro ai).add 0) rfl (BX v Tryz.underlying26 rfl (Aq 1 rfl (g1 (A3 rfl c (fun _ c=>?_) (fun _ c=>?_))))))))))))
           ·refine An 1 rfl ?_
            refine Ay (rt n rfl rfl (by cases c; exact ⟨rfl,ai⟩))
           ·refine Au (gx ?_)
            refine As (Aq 2 rfl ?_)
            rw [db] at c
            exact fun a ha=>gv a _ aw (AB aw) ⟨(Ag (bj + 1)),ha.sb rfl,ai,(b6.sel [] rfl),c⟩
          ·refine Bd (gt ?_)
           refine Ap fun _ g2=>Ak fun _ g3=>wp 1 rfl (AP rfl rfl rfl (Ah (g3 (A3 rfl c (fun _ c=>?_) (fun _ c=>?_)))))
           ·refine Ap fun _ g4=>?_
            refine AQ B4 [] ai b6 fun dc _ bk _=>?_
            have u:=KeepX.refl dc []
            refine Ax 0 rfl d u (Ad 1 rfl d u (B8 rfl rfl (Ad 2 rfl d u (C6 (o:=0) IU rfl rfl (Ad 3 rfl d u (BL Cm rfl (EAt.addk (q.kx bk (by simp)) 0) rfl (Ax 4 rfl d u (bB c fun iz g5 c=>(Ad 5 rfl d u (BB (e:=Ar) Tryz.underlying36 rfl rfl rfl s g5 ?_))))))))))
            rintro i0 _ rfl g6
            refine Ad 6 rfl d u (BL A4 rfl (g6.kx bk (by simp)) rfl (bB c fun g7 g8 c=>(Ad 7 rfl d u (BB (e:=Ao) Tryz.underlying26 rfl rfl rfl v g8 ?_))))
            rintro i1 _ rfl g9
            refine Ad 8 rfl d u (BL Bs rfl (g9.kx bk (by simp)) rfl (Av 9 rfl (bB c fun i2 hc c=>(A7 rfl Tryz.call107 (Vy dc g7 _ hc) rfl ?_))))
            rintro _ i3 ⟨rfl,dd⟩
            refine ⟨_,rfl,?_⟩
            have hd:=tm bk dd
            have de:=u.ext dd
            refine Ah (Am de (Ad 10 rfl d de (AC rfl rfl (Ba (g4 (Ay (rt n rfl rfl (by cases c; exact ⟨rfl,hd⟩))))))))
           ·refine Au (g2 ?_)
            refine Ap fun _ he=>AQ B4 [] ai b6 fun df _ ad _=>?_
            have l:=KeepX.refl df []
            refine Ax 0 rfl d l (Ad 1 rfl d l (B8 rfl rfl (Ad 2 rfl d l (C6 (o:=0) IU rfl rfl (Ad 3 rfl d l (BL Cm rfl (EAt.addk (q.kx ad (by simp)) 0) rfl (Ax 4 rfl d l (bB c fun i4 hf c=>(Ad 5 rfl d l (BB (e:=Ar) Tryz.underlying36 rfl rfl rfl s hf ?_))))))))))
            rintro i5 _ rfl hg
            refine Ad 6 rfl d l (BL A4 rfl (hg.kx ad (by simp)) rfl (bB c fun hh hi c=>(Ad 7 rfl d l (BB (e:=Ao) Tryz.underlying26 rfl rfl rfl v hi ?_))))
            rintro i6 _ rfl hj
            refine Ad 8 rfl d l (BL Bs rfl (hj.kx ad (by simp)) rfl (Ax 9 rfl d l (Ad 10 rfl d l (B8 rfl rfl (Ad 11 rfl d l (C6 (o:=0) IU rfl rfl (Ad 12 rfl d l (BL Cm rfl (EAt.addk (q.kx ad (by simp)) 0) rfl (Ax 13 rfl d l (bB c fun i7 hk c=>(Ad 14 rfl d l (BB (e:=Ar) Tryz.underlying36 rfl rfl rfl s hk ?_))))))))))))
            rintro i8 _ rfl hl
            refine Ad 15 rfl d l (BL A4 rfl (hl.kx ad (by simp)) rfl (bB c fun hm hn c=>(Ad 16 rfl d l (BB (e:=Ao) Tryz.underlying26 rfl rfl rfl v hn ?_))))
            rintro i9 _ rfl ho
            refine Ad 17 rfl d l (BL Bs rfl (ho.kx ad (by simp)) rfl (Av 18 rfl (bB c fun dg hp c=>(A7 rfl Tryz.call108 (S7 df hh hm _ hp) rfl ?_))))
            rintro _ hq ⟨rfl,dh⟩
            refine ⟨_,rfl,?_⟩
            have hr:=tm ad dh
            have bl:=l.ext dh
            refine Ah (Am bl (Ad 19 rfl d bl (AV rfl rfl rfl (Ad 20 rfl d bl (AV rfl rfl rfl (Av 21 rfl (bB c fun ja hs c=>(A7 rfl Tryz.call97 (J0 hq dg.1 dg.2 _ hs) rfl ?_))))))))
            rintro _ jb ⟨rfl,di⟩
            refine ⟨_,rfl,?_⟩
            have ht:=tm hr di
            have dj:=bl.ext di
            refine Ah (Am dj (Ad 22 rfl d dj (AC rfl rfl (Ba (he (Ay (rt n rfl rfl (by cases c; exact ⟨rfl,ht⟩))))))))
theorem Qd (d:Ae) (g:(Ae1 × Ae1 × Int × Ae1 × Ae2 × Ae4 × (List Int) × (List Int) × Int)) (f:Nat) (n:Al) (x1:(List Ai)) (a4:Sep 0 d [A2 B3 74 n f g]) (r:((List Ai) × (Ae1 × Ae1 × Int × Ae1 × Ae2 × Ae4 × (List Int) × (List Int) × Int))) (c:Eb g x1 = some r) :
  A1 64 [(.pointer (some ⟨f,0,none⟩)),(.string (B1 x1))] d fun e w'=>∃ (H_0:Al),e = .returned (.string (B1 r.1)) ∧ Below 0 (wE d) w' ∧ Sep 0 w' [A6 d (Be [A2 B3 74 n f g]),A2 B3 74 H_0 f r.2]:=by
 refine G4 Tryz.func64 rfl Tryz.ntmps64 rfl rfl fun Q hQ hP=>?_
 have hB:Bl (wE d) d:=Ej d
 have hS:Sp (wE d) d [A6 d (Be [A2 B3 74 n f g]),A2 B3 74 n f g]:=a4.rest
 unfold Eb at c
 refine An 1 rfl (Ak fun _ a7=>(wp 1 rfl (bB c fun y a8 c=>(E6 rfl Tryz.call73 hB hS (P3 d x1 32 _ a8) rfl fun z F5 w6 _ _ ba ag=>(Aq 1 rfl (a7 (Ap fun _ bb=>(Ak fun _ bc=>(wp 1 rfl (BX (ag.own_ro (i:=0) rfl) Tryz.underlying61 rfl (wp 2 rfl (bB c fun bd be c=>(H6 (e:=Cy) (i:=0) Tryz.underlying61 rfl rfl rfl ag rfl be ?_)))))))))))))
 rintro dl _ rfl am dm
 refine BZ Na rfl am rfl (bB c fun dn bf c=>(Bu rfl Tryz.call75 ba ag (U8 w6 bd _ bf) rfl fun dp bg au ah=>?_))
 have am:=am.keepS (fun b hb=>bg.block b (((ag.get (i:=0) rfl).2.1 b hb).2)) (fun _ h=>h)
 refine Aq 1 rfl (bc (A3 rfl c (fun _ c=>?_) (fun _ c=>?_)))
 ·refine An 1 rfl ?_
  refine Ay (rt hQ rfl rfl (by cases c; exact ⟨n,rfl,au,ah.sel [1,2] rfl⟩))
 ·refine Au (bb ?_)
  refine An 1 rfl (Ap fun _ bh=>(Ak fun _ bi=>(wp 1 rfl (bB c fun ai bj c=>(Nv (e:=Cy) Tryz.underlying61 rfl rfl (ah.ok (i:=0) rfl:ownS Cy _ _ _ _).rd bj (.inr ⟨_,_,rfl,rfl⟩) (.inl ⟨rfl,rfl⟩) fun av aw _=>(BX (aw.mono (fun b hb=>((ah.get (i:=0) rfl).2.1 b hb).2)) Tryz.underlying61 rfl (Aq 1 rfl (bi (A0 (AU (fun m a ad=>∃ (t:(List Int)) (aj:Int) (q:Ac) (x:Al),St 62 [(0,(.pointer (some ⟨f,0,none⟩))),(5,z),(6,q),(21,av),(22,(iv (List.length ai:Int))),(23,(iv aj))] a ∧ Bl (wE d) ad ∧ Sp (wE d) ad [A6 d (Be [A2 B3 74 n f g]),A2 B3 74 n f g,Ab Cy F5 z y,Ab Ar x q t] ∧ (rdS Cy (· ∈ F5) ad av ai) ∧ BR ai g y m t aj = some r) FU ?_ ?_))))))))))
  ·have bk:=ah.push0 (r:=Ab Ar [] (.slice none 0 0) []) rfl fun _=>.inl ⟨rfl,rfl,rfl⟩
   exact fun a ha=>⟨[],0,(.slice none 0 0),[],ha.sb rfl,au,(bk.sel [2,3,1,0] rfl),aw,c⟩
  ·rintro ae a ad ⟨t,aj,q,x,ha,u,o,s,c⟩ dq bl
   refine BE ?_ ha
   cases ae with
   | zero=>exact Bg c
   | succ ae =>
    obtain ⟨dr,ax⟩:∃ k,k = BR ai g y ae:=⟨_,rfl⟩
    rw [BR,← ax] at c
    refine An 1 rfl (Ap fun _ bm=>(A3 rfl c (fun _ c=>?_) (fun _ c=>?_)))
    ·refine Au (bm ?_)
     refine Ap fun _ bn=>A0 (Ak fun _ bo=>(bB c fun bp bq c=>(BP (e:=Cy) Tryz.underlying61 rfl rfl rfl (s.mono (fun b hb=>((o.get (i:=2) rfl).2.1 b hb).2)) bq ?_)))
     rintro ds _ rfl br
     refine BZ Na rfl br rfl (Aq 1 rfl (bo (Ak fun _ bs=>(wp 1 rfl (bB c fun an bt c=>(Bu rfl Tryz.call76 u o (V5 ad bp _ bt) rfl fun bu bv bw ay=>?_))))))
     have s:=s.keep (fun b hb=>bv.block b (((o.get (i:=2) rfl).2.1 b hb).2))
     refine Aq 1 rfl (bs (Ap fun _ bx=>(Ak fun _ bz=>(wp 1 rfl (bB c fun dt b1 c=>(Bu rfl Tryz.call77 bw ay (Cd bu an 0 99999 _ b1) rfl fun du b2 az ao=>?_))))))
     have s:=s.keep (fun b hb=>b2.block b (((ay.get (i:=2) rfl).2.1 b hb).2))
     refine Aq 1 rfl (bz (A3 rfl c (fun _ c=>?_) (fun _ c=>?_)))
     ·refine An 1 rfl ?_
      refine Ay (rt hQ rfl rfl (by cases c; exact ⟨n,rfl,az,ao.sel [0,1] rfl⟩))
     ·refine Au (bx ?_)
      refine As (wp 2 rfl (Bc (vs:=[(iv an)]) (l:=[an]) Co Tryz.underlying36 rfl rfl rfl rfl rfl rfl az ao fun dv dw b3 b4 b5 ak=>?_))
      have s:=s.keep (fun b hb=>b4.block b (((ao.get (i:=2) rfl).2.1 b hb).2))
      refine bB c fun b6 b7 c=>AF (i:=4) (S:=(· < b3.heap.size)) Co Tryz.underlying36 rfl rfl rfl b5 ak rfl (ak.own_ro (i:=0) rfl) b7 fun b8 b9 dx ca cb cc=>?_
      have s:=s.keep (fun b hb=>ca.2.1 b (((ak.get (i:=3) rfl).2.1 b hb).2) (ak.disj (i:=3) (j:=4) rfl rfl rfl b hb))
      refine Aq 1 rfl (bn (As (Aq 2 rfl ?_)))
      rw [ax] at c
      exact fun a ha=>bl a _ ae (AB ae) ⟨b6,(Ag (aj + 1)),b8,b9,ha.sb rfl,cb,(cc.sel [1,2,3,4] rfl),s,c⟩
    ·refine Bd (bh ?_)
     refine Ap fun _ cd=>Ak fun _ ce=>wp 1 rfl (bB c fun v cf c=>(H6 (e:=Cy) (i:=2) Tryz.underlying61 rfl rfl rfl o rfl cf ?_))
     rintro dy _ rfl cg dz
     refine BZ Na rfl cg rfl (Ah (ce (A0 (Ap fun ch ci=>?_))))
     obtain ⟨cj,ck,c⟩:=Cj c
     have w:∀ (ap:Bool) (aa:Ae) (_:cj ap = some r) (_:Bl (wE d) aa) (_:Sp (wE d) aa [A6 d (Be [A2 B3 74 n f g]),A2 B3 74 n f g,Ab Cy F5 z y,Ab Ar x q t]),∀ a,St 62 [(0,(.pointer (some ⟨f,0,none⟩))),(5,z),(6,q),(40,(.bool ap))] a → ch a aa:=by
      intro ap aa c aq ab
      subst ck
      refine ci (A3 rfl c (fun _ c=>?_) (fun _ c=>?_))
      ·refine Ak fun _ cl=>?_
       refine wp 2 rfl (bB c fun cm cn c=>(H6 (e:=Cy) (i:=2) Tryz.underlying61 rfl rfl rfl ab rfl cn ?_))
       rintro d0 _ rfl co d1
       refine BZ Na rfl co rfl (wp 1 rfl (bB c fun a0 cp c=>(A7 rfl Tryz.call79 (Pa aa g f n cm t q x (ab.sel [1,3] rfl).base0 _ cp) rfl ?_)))
       rintro _ a1 ⟨a2,rfl,cq,a3⟩
       refine ⟨_,rfl,?_⟩
       have cr:=ab.takeB [1,3] rfl (M:=[A2 B3 74 n f g,Ab Ar x q t]) rfl aq cq a3
       have cs:Sp (wE d) a1 [A2 B3 74 a2 f a0.2,A6 d (Be [A2 B3 74 n f g]),Ab Cy F5 z y]:=ab.take [1,3] [0,2] rfl (M:=[A2 B3 74 n f g,Ab Ar x q t]) rfl a3 aq.size
       refine bB c fun d2 ct c=>Bu rfl Tryz.call78 cr cs (V6 a1 a0.1 _ ct) rfl fun d3 _ cu cv=>Aq 1 rfl (cl (Ay (rt hQ rfl rfl (by cases c; exact ⟨a2,rfl,cu,cv.sel [1,0] rfl⟩))))
      ·refine Au (cd ?_)
       refine Ak fun _ cw=>wp 2 rfl (bB c fun cx cy c=>(H6 (e:=Cy) (i:=2) Tryz.underlying61 rfl rfl rfl ab rfl cy ?_))
       rintro d4 _ rfl ar d5
       refine BZ Na rfl ar rfl (wp 1 rfl ?_)
       obtain ⟨cz,d6,c0,d7,c1,d8,c2,d9,c3,ea,c4,eb,c5,ec,p⟩:=Hs (ab.sel [1,0,2,3] rfl)
       refine bB c fun ed c6 c=>Bu rfl Tryz.call80 aq p (Qx aa g ⟨f,0,none⟩ cz (p.own_ro (i:=1) rfl) c0 (p.own_ro (i:=2) rfl) c1 (p.own_ro (i:=3) rfl) c2 (p.own_ro (i:=4) rfl) c3 (p.own_ro (i:=5) rfl) c4 (p.own_ro (i:=6) rfl) c5 (p.own_ro (i:=7) rfl) (XU (i:=0) p rfl) cx t q (p.own_ro (i:=10) rfl) _ c6) rfl fun c7 c8 c9 da=>?_
       have ar:=ar.keepS (fun b hb=>c8.block b (((p.get (i:=9) rfl).2.1 b hb).2)) (fun _ h=>h)
       refine Aq 1 rfl (cw (Ay ?_))
       obtain ⟨db,dc⟩:∃ F,Sp (wE d) c7 [A2 B3 74 F f g,A6 d (Be [A2 B3 74 n f g]),Ab Cy F5 z y,Ab Ar x q t]:=⟨_,DC (da.sel [0,1,2,3,4,5,6,7,8,9,10] rfl)⟩
       refine rt hQ rfl rfl (by cases c; exact ⟨db,rfl,c9,dc.sel [1,0] rfl⟩)
     refine Ak fun _ dd=>AP rfl rfl rfl (Aq 1 rfl (dd (A3 rfl c (fun _ c=>?_) (fun _ c=>?_))))
     ·refine Au ?_
      exact jx (w ((v == [115,112,111,116])) _ c u (o.sel [0,1,2,3] rfl)) rfl
     ·refine Ak fun _ de=>?_
      refine AP rfl rfl rfl (Aq 1 rfl (de (A3 rfl c (fun _ c=>?_) (fun _ c=>?_))))
      ·refine Au ?_
       exact jx (w ((v == [112,108,97,99,101])) _ c u (o.sel [0,1,2,3] rfl)) rfl
      ·refine Ak fun _ df=>?_
       refine AP rfl rfl rfl (Aq 1 rfl (df (A3 rfl c (fun _ c=>?_) (fun _ c=>?_))))
       ·refine Au ?_
        exact jx (w ((v == [109,105,114,114,111,114])) _ c u (o.sel [0,1,2,3] rfl)) rfl
       ·refine Ak fun _ dg=>?_
        refine AP rfl rfl rfl (Aq 1 rfl (dg (A3 rfl c (fun _ c=>?_) (fun _ c=>?_))))
        ·refine Au ?_
         exact jx (w ((v == [107,101,101,112])) _ c u (o.sel [0,1,2,3] rfl)) rfl
        ·refine Ak fun _ dh=>?_
         refine AP rfl rfl rfl (Aq 1 rfl (dh (A3 rfl c (fun _ c=>?_) (fun _ c=>?_))))
         ·refine Au ?_
          exact jx (w ((v == [99,111,117,110,116,115])) _ c u (o.sel [0,1,2,3] rfl)) rfl
         ·refine Ak fun _ di=>?_
          refine AP rfl rfl rfl (Aq 1 rfl (di (A3 rfl c (fun _ c=>?_) (fun _ c=>?_))))
          ·refine Au ?_
           exact jx (w ((v == [109,101,97,115,117,114,101])) _ c u (o.sel [0,1,2,3] rfl)) rfl
          ·refine Ak fun _ dj=>?_
           refine AP rfl rfl rfl (Aq 1 rfl (dj (A3 rfl c (fun _ c=>?_) (fun _ c=>?_))))
           ·refine Au ?_
            exact jx (w ((v == [99,97,114,114,121])) _ c u (o.sel [0,1,2,3] rfl)) rfl
           ·refine As ?_
            refine AP rfl rfl rfl (Aq 1 rfl ?_)
            exact jx (w ((v == [118,101,114,115,105,111,110])) _ c u (o.sel [0,1,2,3] rfl)) rfl
theorem Xg (g:Ae) (x:(List Ai)) (r:((Ae1 × Ae1 × Int × Ae1 × Ae2 × Ae4 × (List Int) × (List Int) × Int) × (List Ai) × Bool)) (b:KV x = some r) :
  A1 46 [(.string (B1 x))] g fun e w'=>∃ (p0:Nat) (H0:Al),e = .returned (.tuple #[(.pointer (some ⟨p0,0,none⟩)),(.string (B1 r.2.1)),(.bool r.2.2)]) ∧ Bl g w' ∧ Sp g w' [A2 B3 74 H0 p0 r.1]:=by
 refine cm Tryz.func46 Tryz.ntmps46 rfl fun Q hQ hP hB hS=>?_
 unfold KV at b
 refine An 3 rfl (Ak fun _ a0=>(bB b fun u3 a2 b=>(E6 rfl Tryz.call63 hB hS (U6 g  _ a2) rfl fun f F5 w6 _ _ a4 a5=>(Aq 1 rfl (a0 (Ak fun _ a6=>(wp 1 rfl (bB b fun h a7 b=>(E6 rfl Tryz.call59 a4 a5 (U7 w6 x _ a7) rfl fun n o c6 _ _ aj y=>(Aq 5 rfl (a6 (Ap fun _ a8=>(An 2 rfl (A3 rfl b (fun _ b=>?_) (fun _ b=>?_)))))))))))))))
 ·refine An 4 rfl ?_
  refine Ay (rt hQ rfl rfl (by cases b; exact ⟨f,F5,rfl,aj,y.sel [1] rfl⟩))
 ·refine Au (a8 ?_)
  refine An 1 rfl (Ap fun _ a9=>(Ak fun _ ba=>(wp 1 rfl (BX (y.own_ro (i:=0) rfl) Tryz.underlying61 rfl (Aq 1 rfl (ba (A0 (AU (fun m a t=>∃ (d:(Ae1 × Ae1 × Int × Ae1 × Ae2 × Ae4 × (List Int) × (List Int) × Int)) (u:(List Ai)) (j:Int) (q:Al),St 70 [(5,(.pointer (some ⟨f,0,none⟩))),(6,n),(8,(.string (B1 u))),(21,n),(22,(iv (List.length h.1:Int))),(23,(iv j))] a ∧ Bl g t ∧ Sp g t [A2 B3 74 q f d,Ab Cy o n h.1] ∧ Ga h m d u j = some r) FU ?_ ?_))))))))
  ·exact fun a ha=>⟨u3,[],0,F5,ha.sb rfl,aj,(y.sel [1,0] rfl),b⟩
  ·rintro s a t ⟨d,u,j,q,ha,z,p,b⟩ c7 bb
   refine BE ?_ ha
   cases s with
   | zero=>exact Bg b
   | succ s =>
    obtain ⟨c8,ak⟩:∃ k,k = Ga h s:=⟨_,rfl⟩
    rw [Ga,← ak] at b
    refine An 1 rfl (Ap fun _ bc=>(A3 rfl b (fun _ b=>?_) (fun _ b=>?_)))
    ·refine Au (bc ?_)
     refine Ap fun _ bd=>A0 (Ak fun _ be=>(wp 1 rfl (bB b fun bf bg b=>(Cw (e:=Cy) (i:=1) Tryz.underlying61 rfl rfl rfl p rfl bg ?_))))
     rintro c9 _ rfl bh da
     refine BZ Na rfl bh rfl (Aq 2 rfl (be (Ak fun _ bi=>(wp 2 rfl (bB b fun c bj b=>(A7 rfl Tryz.call64 (Qd t d f q bf (p.sel [0] rfl).base0 _ bj) rfl ?_))))))
     rintro _ bk ⟨al,rfl,bl,am⟩
     refine ⟨_,rfl,?_⟩
     have aa:=p.takeB [0] rfl (M:=[A2 B3 74 q f d]) rfl z bl am
     have ab:Sp g bk [A2 B3 74 al f c.2,Ab Cy o n h.1]:=p.take [0] [1] rfl (M:=[A2 B3 74 q f d]) rfl am z.size
     refine Aq 1 rfl (bi (Ap fun bm bn=>?_))
     obtain ⟨bo,bp,b⟩:=Cj b
     have ac:∀ (v:(Ae1 × Ae1 × Int × Ae1 × Ae2 × Ae4 × (List Int) × (List Int) × Int)) (ad:Al) (w:Ae) (_:bo v = some r) (_:Bl g w) (_:Sp g w [A2 B3 74 ad f v,Ab Cy o n h.1]),∀ a,St 70 [(5,(.pointer (some ⟨f,0,none⟩))),(6,n),(8,(.string (B1 u))),(11,(.string (B1 c.1))),(21,n),(22,(iv (List.length h.1:Int))),(23,(iv j))] a → bm a w:=by
      intro v ad w b bq br
      subst bp
      refine bn (As (wp 2 rfl (bB b fun db bs b=>(Hf rfl rfl rfl bs (bB b fun bt bu b=>(Hf rfl rfl rfl bu (Aq 1 rfl (bd (As (Aq 2 rfl ?_))))))))))
      rw [ak] at b
      exact fun a ha=>bb a _ s (AB s) ⟨v,bt,(Ag (j + 1)),ad,ha.sb rfl,bq,(br.sel [0,1] rfl),b⟩
     refine An 1 rfl (A0 (Ak fun _ bv=>(AP rfl rfl rfl (Aq 1 rfl (bv (A3 rfl b (fun _ b=>?_) (fun _ b=>?_)))))))
     ·refine As ?_
      refine wp 2 rfl (BC rfl rfl (Bp XP rfl ?_))
      obtain ⟨bw,dc,bx,dd,bz,de,b0,df,b1,dg,dh,di,b2,dj,an⟩:=Hs (ab.sel [0,1] rfl)
      refine AO 0 Fu rfl an rfl rfl (wp 2 rfl (Bc (vs:=[(iv (Ag (j + 1)))]) (l:=[(Ag (j + 1))]) Co Tryz.underlying36 rfl rfl rfl rfl rfl rfl aa an fun b3 b5 b6 _ b7 ao=>(bB b fun ap b8 b=>(AF (i:=7) (S:=(· < b6.heap.size)) Co Tryz.underlying36 rfl rfl rfl b7 ao rfl (ao.own_ro (i:=0) rfl) b8 fun aq dk dl _ b9 ae=>(BC rfl rfl (Bp XP rfl (B9 (i:=1) (vs:=[aq]) (cs':=[bw,bx,(iv c.2.2.2.1),bz,b0,b1,aq,b2,(iv c.2.2.2.2.2.2.2.2.2)]) Fu rfl rfl (Ce (ae.own_ro (i:=7) rfl).one) rfl b9 ae rfl rfl ⟨(ae.own_ro (i:=7) rfl).one,trivial⟩ rfl fun ca _ cb cc=>(Ah ?_))))))))
      obtain ⟨cd,ce⟩:∃ F,Sp g ca [A2 B3 74 F f (c.2.1,c.2.2.1,c.2.2.2.1,c.2.2.2.2.1,c.2.2.2.2.2.1,c.2.2.2.2.2.2.1,ap,c.2.2.2.2.2.2.2.2.1,c.2.2.2.2.2.2.2.2.2),Ab Ar b5 b3 [(Ag (j + 1))],Ab Cy o n h.1]:=⟨_,DC (cc.sel [1,2,3,4,5,6,7,8,0,9] rfl)⟩
      exact jx (ac ((c.2.1,c.2.2.1,c.2.2.2.1,c.2.2.2.2.1,c.2.2.2.2.2.1,c.2.2.2.2.2.2.1,ap,c.2.2.2.2.2.2.2.2.1,c.2.2.2.2.2.2.2.2.2)) cd _ b cb (ce.sel [0,2] rfl)) rfl
     ·refine Ak fun _ cf=>?_
      refine AP rfl rfl rfl (Aq 1 rfl (cf (A3 rfl b (fun _ b=>?_) (fun _ b=>?_))))
      ·refine As ?_
       refine wp 2 rfl (BC rfl rfl (Bp XO rfl ?_))
       obtain ⟨cg,dm,ch,dn,ci,dp,cj,dq,ck,dr,cl,ds,dt,du,ar⟩:=Hs (ab.sel [0,1] rfl)
       refine AO 0 Fu rfl ar rfl rfl (wp 2 rfl (Bc (vs:=[(iv (Ag (j + 1)))]) (l:=[(Ag (j + 1))]) Co Tryz.underlying36 rfl rfl rfl rfl rfl rfl aa ar fun cn co cp _ cq au=>(bB b fun av cr b=>(AF (i:=8) (S:=(· < cp.heap.size)) Co Tryz.underlying36 rfl rfl rfl cq au rfl (au.own_ro (i:=0) rfl) cr fun aw dv dw _ cs af=>(BC rfl rfl (Bp XO rfl (B9 (i:=1) (vs:=[aw]) (cs':=[cg,ch,(iv c.2.2.2.1),ci,cj,ck,cl,aw,(iv c.2.2.2.2.2.2.2.2.2)]) Fu rfl rfl (Ce (af.own_ro (i:=8) rfl).one) rfl cs af rfl rfl ⟨(af.own_ro (i:=8) rfl).one,trivial⟩ rfl fun ct _ cu cv=>(Ah ?_))))))))
       obtain ⟨cw,cx⟩:∃ F,Sp g ct [A2 B3 74 F f (c.2.1,c.2.2.1,c.2.2.2.1,c.2.2.2.2.1,c.2.2.2.2.2.1,c.2.2.2.2.2.2.1,c.2.2.2.2.2.2.2.1,av,c.2.2.2.2.2.2.2.2.2),Ab Ar co cn [(Ag (j + 1))],Ab Cy o n h.1]:=⟨_,DC (cv.sel [1,2,3,4,5,6,7,8,0,9] rfl)⟩
       exact jx (ac ((c.2.1,c.2.2.1,c.2.2.2.1,c.2.2.2.2.1,c.2.2.2.2.2.1,c.2.2.2.2.2.2.1,c.2.2.2.2.2.2.2.1,av,c.2.2.2.2.2.2.2.2.2)) cw _ b cu (cx.sel [0,2] rfl)) rfl
      ·refine Au ?_
       exact jx (ac (c.2) al _ b aa (ab.sel [0,1] rfl)) rfl
    ·refine Bd (a9 ?_)
     refine Ak fun _ cy=>wp 2 rfl (BX (p.own_ro (i:=1) rfl) Tryz.underlying61 rfl (BC rfl rfl (Bp Abw rfl ?_)))
     obtain ⟨dx,dy,dz,d0,d1,d2,d3,d4,d5,d6,d7,d8,d9,ea,cz⟩:=Hs (p.sel [0,1] rfl)
     refine Gj 0 A4 rfl rfl z cz rfl rfl rfl fun c0 _ c1 c2=>Ah (cy (An 5 rfl (Ay ?_)))
     obtain ⟨c3,c4⟩:∃ F,Sp g c0 [A2 B3 74 F f (d.1,d.2.1,d.2.2.1,d.2.2.2.1,d.2.2.2.2.1,d.2.2.2.2.2.1,d.2.2.2.2.2.2.1,d.2.2.2.2.2.2.2.1,(List.length h.1:Int)),Ab Cy o n h.1]:=⟨_,DC (c2.sel [0,1,2,3,4,5,6,7,8] rfl)⟩
     refine rt hQ rfl rfl (by cases b; exact ⟨f,c3,rfl,c1,c4.sel [0] rfl⟩)
theorem TD (b:Ae) (c:(List Ai)) (r:(List Ai)) (a:Jv c = some r) :
  A1 10 [(.string (B1 c))] b fun e w'=>e = .returned (.string (B1 r)) ∧ Bl b w':=by
 refine cm Tryz.func10 Tryz.ntmps10 rfl fun Q d k f _=>?_
 unfold Jv at a
 refine An 1 rfl (Ak fun _ g=>(wp 1 rfl (bB a fun l h a=>(A7 rfl Tryz.call46 (Xg b c _ h) rfl ?_))))
 rintro _ m ⟨n,o,rfl,i,p⟩
 refine ⟨_,rfl,?_⟩
 have j:=tm f i
 refine Aq 7 rfl (g (An 2 rfl (Ay (rt d rfl rfl (by cases a; exact ⟨rfl,j⟩)))))
theorem Oj (c:Ae) (a:(List Ai)) (b:Int) (r:Int) (d:Hm a b = some r) :
  A1 231 [(.string (B1 a)),(.int .u8 b)] c fun e w'=>e = .returned (iv r) ∧ Bl c w':=by
 refine cm Tryz.func231 Tryz.ntmps231 rfl fun Q f i g _=>?_
 unfold Hm at d
 refine An 1 rfl (Ak fun _ h=>(wp 2 rfl (VM (vs:=[(.string (B1 a)),(.int .u8 b)]) rfl Tryz.func251 rfl rfl (by kernel_rfl) (by kernel_rfl) rfl (ZR a b) (Aq 1 rfl (h (Ay (rt f rfl rfl (by cases d; exact ⟨rfl,g⟩))))))))
theorem Qw (h:Ae) (f:(List Ai)) (d:(List Ai)) (r:Int) (b:IJ f d = some r) :
  A1 209 [(.string (B1 f)),(.string (B1 d))] h fun e w'=>e = .returned (iv r) ∧ Bl h w':=by
 refine cm Tryz.func209 Tryz.ntmps209 rfl fun Q i hP l m=>?_
 unfold IJ at b
 refine An 1 rfl (Ak fun _ o=>(wp 1 rfl (D4 Tryz.underlying9 rfl rfl (Aq 1 rfl (o (Ap fun _ _=>(A0 (Ap fun p q=>?_))))))))
 obtain ⟨s,t,b⟩:=Cj b
 have n:∀ (j:Bool) (g:Ae) (_:s j = some r) (_:Bl h g) (_:Sp h g []),∀ a,St 143 [(0,(.string (B1 f))),(1,(.string (B1 d))),(5,(iv (List.length d:Int))),(16,(.bool j))] a → p a g:=by
  intro j g b k ac
  subst t
  refine q (A3 rfl b (fun _ b=>?_) (fun _ b=>?_))
  ·refine An 1 rfl ?_
   refine Ay (rt i rfl rfl (by cases b; exact ⟨rfl,k⟩))
  ·refine An 3 rfl ?_
   refine A3 rfl b (fun _ b=>?_) (fun _ b=>?_)
   ·refine Ak fun _ u=>?_
    refine wp 2 rfl (bB b fun v w b=>(EN Tryz.underlying9 rfl rfl rfl w (bB b fun ad x b=>(A7 rfl Tryz.call231 (Oj g f (UInt8.toNat v:Int) _ x) rfl ?_))))
    rintro _ ae ⟨rfl,y⟩
    refine ⟨_,rfl,?_⟩
    have z:=tm k y
    refine Aq 1 rfl (u (Ay (rt i rfl rfl (by cases b; exact ⟨rfl,z⟩))))
   ·refine Ak fun _ aa=>?_
    refine wp 2 rfl (D4 Tryz.underlying9 rfl rfl (Aq 2 rfl (aa (A3 rfl b (fun _ b=>?_) (fun _ b=>?_)))))
    ·refine An 1 rfl ?_
     refine Ay (rt i rfl rfl (by cases b; exact ⟨rfl,k⟩))
    ·exact Bg b
 refine As (wp 3 rfl ?_)
 rcases bE ((List.length d:Int) == 0) with c | c
 ·replace b:=BA c b
  refine wo rfl c (wo rfl c (wo rfl c (AA rfl rfl c rfl (Aq 1 rfl ?_))))
  exact jx (n true _ b l (m.sel [] rfl)) rfl
 ·replace b:=Cf c b
  refine wn rfl c (wp 1 rfl (wn rfl c (wp 1 rfl (wn rfl c (AP rfl rfl rfl (A9 rfl rfl c rfl (Aq 1 rfl ?_)))))))
  exact jx (n ((d == f)) _ b l (m.sel [] rfl)) rfl
theorem OC (b:Ae) (c:(List Ai)) (d:(List Ai)) (r:Int) (a:HO c d = some r) :
  A1 166 [(.string (B1 c)),(.string (B1 d))] b fun e w'=>e = .returned (iv r) ∧ Bl b w':=by
 refine cm Tryz.func166 Tryz.ntmps166 rfl fun Q f l g _=>?_
 unfold HO at a
 refine An 1 rfl (Ak fun _ h=>(wp 2 rfl (bB a fun m i a=>(A7 rfl Tryz.call209 (Qw b c d _ i) rfl ?_))))
 rintro _ n ⟨rfl,j⟩
 refine ⟨_,rfl,?_⟩
 have k:=tm g j
 refine Aq 1 rfl (h (Ay (rt f rfl rfl (by cases a; exact ⟨rfl,k⟩))))
theorem T7 (g:Ae) (d:(List Ai)) (c:(List Ai)) (r:Int) (b:Jq d c = some r) :
  A1 165 [(.string (B1 d)),(.string (B1 c))] g fun e w'=>e = .returned (iv r) ∧ Bl g w':=by
 refine cm Tryz.func165 Tryz.ntmps165 rfl fun Q l hP n s=>?_
 unfold Jq at b
 refine An 1 rfl (Ap fun _ t=>(Ak fun _ u=>(wp 1 rfl (D4 Tryz.underlying9 rfl rfl (Aq 1 rfl (u (A3 rfl b (fun _ b=>?_) (fun _ b=>?_))))))))
 ·exact Bg b
 ·refine Au (t ?_)
  refine Ap fun _ v=>Ak fun _ w=>wp 1 rfl (D4 Tryz.underlying9 rfl rfl (Aq 1 rfl (w (A3 rfl b (fun _ b=>?_) (fun _ b=>?_)))))
  ·refine Ak fun _ x=>?_
   refine wp 2 rfl (bB b fun o y b=>(EN Tryz.underlying9 rfl rfl rfl y (VM (vs:=[(.string (B1 d)),(.int .u8 (UInt8.toNat o:Int))]) rfl Tryz.func208 rfl rfl (by kernel_rfl) (by kernel_rfl) rfl (ZS d (UInt8.toNat o:Int)) (Aq 1 rfl (x (Ay (rt l rfl rfl (by cases b; exact ⟨rfl,n⟩))))))))
  ·refine Au (v ?_)
   refine An 1 rfl (A0 (AU (fun m a h=>∃ (i:(List Ai)) (j:Int),St 34 [(0,(.string (B1 i))),(1,(.string (B1 c))),(5,(iv j))] a ∧ Bl g h ∧ Sp g h [] ∧ HC c m i j = some r) FU ?_ ?_))
   ·exact fun a ha=>⟨d,0,ha.sb rfl,n,(s.sel [] rfl),b⟩
   ·rintro f a h ⟨i,j,ha,z,aa,b⟩ aj ab
    refine BE ?_ ha
    cases f with
    | zero=>exact Bg b
    | succ f =>
     obtain ⟨ak,p⟩:∃ k,k = HC c f:=⟨_,rfl⟩
     rw [HC] at b; try rw [← p] at b
     refine A0 (Ak fun _ ac=>(wp 2 rfl (bB b fun al ad b=>(Bu rfl Tryz.call166 z aa (OC h i c _ ad) rfl fun am _ q ae=>(Aq 1 rfl (ac (Ap fun _ af=>(An 2 rfl (A3 rfl b (fun _ b=>?_) (fun _ b=>?_))))))))))
     ·refine An 2 rfl ?_
      refine Ay (rt l rfl rfl (by cases b; exact ⟨rfl,q⟩))
     ·refine Au (af ?_)
      refine An 3 rfl (As (wp 3 rfl (D4 Tryz.underlying9 rfl rfl (wp 1 rfl (bB b fun ag ah b=>(Kt Tryz.underlying9 rfl rfl ah (.inr ⟨_,_,rfl,rfl⟩) (.inl ⟨rfl,rfl⟩) (Aq 1 rfl ?_)))))))
      rw [p] at b
      exact fun a ha=>ab a _ f (AB f) ⟨ag,(Ag (j + 1)),ha.sb rfl,q,(ae.sel [] rfl),b⟩
theorem Rc (c:Ae) (d:(List Ai)) (f:(List Ai)) (h:Int) (x3:Int) (r:(List (List Ai))) (b:Jp d f h x3 = some r) :
  A1 109 [(.string (B1 d)),(.string (B1 f)),(iv h),(iv x3)] c fun e w'=>∃ (q0:Ac) (G0:Al),e = .returned q0 ∧ Bl c w' ∧ Sp c w' [Ab Cy G0 q0 r]:=by
 refine cm Tryz.func109 Tryz.ntmps109 rfl fun Q hQ hP hB hS=>?_
 unfold Jp at b
 refine An 1 rfl (Ap fun _ a1=>(An 2 rfl (A3 rfl b (fun _ b=>?_) (fun _ b=>?_))))
 ·refine An 1 rfl ?_
  refine Ay ?_
  have a2:=hS.push0 (r:=Ab Cy [] (.slice none 0 0) []) rfl fun _=>.inl ⟨rfl,rfl,rfl⟩
  refine rt hQ rfl rfl (by cases b; exact ⟨(.slice none 0 0),[],rfl,hB,a2.sel [0] rfl⟩)
 ·refine Au (a1 ?_)
  refine Ap fun _ a3=>Ak fun _ a4=>wp 1 rfl (AP rfl rfl rfl (Ah (a4 (A3 rfl b (fun _ b=>?_) (fun _ b=>?_)))))
  ·exact Bg b
  ·refine Au (a3 ?_)
   refine Ap fun a5 a6=>?_
   obtain ⟨a7,a8,b⟩:=Cj b
   have ak:∀ (j:Int) (v:Ae) (_:a7 j = some r) (_:Bl c v) (_:Sp c v []),∀ a,St 66 [(0,(.string (B1 d))),(1,(.string (B1 f))),(2,(iv h)),(3,(iv j))] a → a5 a v:=by
    intro j v b a9 ba
    subst a8
    refine a6 (Ak fun _ bb=>(wp 2 rfl (D4 Tryz.underlying9 rfl rfl (wp 1 rfl (SK rfl rfl rfl (Aq 1 rfl (bb (Ak fun _ bc=>(wp 1 rfl (bB b fun bd be b=>(N4 (e:=Cy) Tryz.underlying61 rfl rfl be a9 ba fun bf bg ce _ bh bi=>(Aq 1 rfl (bc (An 3 rfl (An 1 rfl (Ap fun bj bk=>?_))))))))))))))))
    obtain ⟨ad,bl,b⟩:=jE3 b
    have al:∀ (l:(List Ai)) (w:(List (List Ai))) (s:Int) (ae:Ac) (am:Al) (x:Ae) (_:ad l w s = some r) (_:Bl c x) (_:Sp c x [Ab Cy am ae w]),∀ a,St 66 [(0,(.string (B1 l))),(9,ae),(10,(iv s))] a → bj a x:=by
     intro l w s ae am x b bm an
     subst bl
     refine bk (Ak fun _ bn=>(wp 3 rfl (bB b fun cf ao b=>(Cw (e:=Cy) (i:=0) Tryz.underlying61 rfl rfl rfl an rfl ao ?_))))
     rintro cg _ rfl ch bo
     refine BT (i:=0) (o:=0) (vs:=[(.string (B1 l))]) (u':=l) I6 Na rfl rfl rfl rfl bo ao bm an rfl rfl ⟨rfl,trivial⟩ rfl fun ci _ bp y=>Ah (bn (Ak fun _ bq=>(wp 3 rfl (bB b fun ap af b=>(Nv (e:=Cy) Tryz.underlying61 rfl rfl (y.ok (i:=0) rfl:ownS Cy _ _ _ _).rd af (.inl ⟨rfl,rfl⟩) (.inr ⟨_,_,rfl,rfl⟩) fun aq _ br=>(Aq 1 rfl (bq (Ay ?_))))))))
     obtain ⟨ar,au,bs,bt⟩:=XG (y.ok (i:=0) rfl:ownS Cy _ _ _ _) (y.get (i:=0) rfl).1 br (VE af).1
     rw [show List.take ((Ag (s + 1)):Int).toNat (BG w s l) = ap from (VE af).2.symm] at au
     have bu:=(y.sel [0] rfl).shrink (r':=Ab Cy ar aq ap) bs bt fun _ hk=>au.keep hk
     refine rt hQ rfl rfl (by cases b; exact ⟨aq,ar,rfl,bp,bu.sel [0] rfl⟩)
    refine A0 (AU (fun m a z=>∃ (n:(List Ai)) (p:(List (List Ai))) (g:Int) (q:Ac) (t:Al),St 66 [(0,(.string (B1 n))),(1,(.string (B1 f))),(2,(iv h)),(3,(iv (Ag ((Fn j (Ag ((List.length d:Int) + 1))) - 1)))),(9,q),(10,(iv g))] a ∧ Bl c z ∧ Sp c z [Ab Cy t q p] ∧ DJ j d f ad h m n p g = some r) FU ?_ ?_)
    ·exact fun a ha=>⟨d,bd,0,bf,bg,ha.sb rfl,bh,(bi.sel [0] rfl),b⟩
    ·rintro u a z ⟨n,p,g,q,t,ha,av,aw,b⟩ cj bv
     refine BE ?_ ha
     cases u with
     | zero=>exact Bg b
     | succ u =>
      obtain ⟨ck,ax⟩:∃ k,k = DJ j d f ad h u:=⟨_,rfl⟩
      rw [DJ] at b; try rw [← ax] at b
      refine Ap fun _ bw=>An 3 rfl (A3 rfl b (fun _ b=>?_) (fun _ b=>?_))
      ·refine Au (bw ?_)
       refine A0 (Ak fun _ bx=>(wp 2 rfl (bB b fun cl bz b=>(Bu rfl Tryz.call166 av aw (OC z n f _ bz) rfl fun cn _ ay ag=>(Aq 1 rfl (bx (Ap fun _ b0=>(An 2 rfl (A3 rfl b (fun _ b=>?_) (fun _ b=>?_))))))))))
       ·refine Bd ?_
        exact jx (al n p g q t _ b ay (ag.sel [0] rfl)) rfl
       ·refine Au (b0 ?_)
        refine Ak fun _ b1=>wp 6 rfl (bB b fun ah b2 b=>(Kt Tryz.underlying9 rfl rfl b2 (.inl ⟨rfl,rfl⟩) (.inr ⟨_,_,rfl,rfl⟩) (bB b fun co az b=>(Cw (e:=Cy) (i:=0) Tryz.underlying61 rfl rfl rfl ag rfl az ?_))))
        rintro cp _ rfl cq b3
        refine BT (i:=0) (o:=0) (vs:=[(.string (B1 ah))]) (u':=ah) I6 Na rfl rfl rfl rfl b3 az ay ag rfl rfl ⟨rfl,trivial⟩ rfl fun cr _ b4 b5=>Ah (b1 (Ak fun _ b6=>(wp 3 rfl (D4 Tryz.underlying9 rfl rfl (wp 1 rfl (bB b fun b7 b8 b=>(Kt Tryz.underlying9 rfl rfl b8 (.inr ⟨_,_,rfl,rfl⟩) (.inl ⟨rfl,rfl⟩) (Aq 1 rfl (b6 (As (Aq 3 rfl ?_)))))))))))
        rw [ax] at b
        exact fun a ha=>bv a _ u (AB u) ⟨b7,(BG p g ah),(Ag (g + 1)),q,t,ha.sb rfl,b4,(b5.sel [0] rfl),b⟩
      ·refine Bd ?_
       exact jx (al n p g q t _ b av (aw.sel [0] rfl)) rfl
   refine An 2 rfl (A3 rfl b (fun _ b=>?_) (fun _ b=>?_))
   ·refine As ?_
    refine wp 2 rfl (bB b fun b9 ca b=>(Bu rfl Tryz.call165 hB hS (T7 c d f _ ca) rfl fun cs _ cb cc=>(Aq 2 rfl ?_)))
    exact jx (ak ((Ag (b9 + 1))) _ b cb (cc.sel [] rfl)) rfl
   ·refine Au ?_
    exact jx (ak x3 _ b hB (hS.sel [] rfl)) rfl
theorem OB (a:Ae) (c:(List Ai)) (d:(List Ai)) (r:(List (List Ai))) (b:FY c d = some r) :
  A1 81 [(.string (B1 c)),(.string (B1 d))] a fun e w'=>∃ (f:Ac) (g:Al),e = .returned f ∧ Bl a w' ∧ Sp a w' [Ab Cy g f r]:=by
 refine cm Tryz.func81 Tryz.ntmps81 rfl fun Q h q i j=>?_
 unfold FY at b
 refine An 1 rfl (Ak fun _ k=>(wp 2 rfl (bB b fun s l b=>(E6 rfl Tryz.call109 i j (Rc a c d 0 (-1) _ l) rfl fun m n t _ _ o p=>(Aq 1 rfl (k (Ay (rt h rfl rfl (by cases b; exact ⟨m,n,rfl,o,p.sel [0] rfl⟩)))))))))
theorem UJ (b:Ae) (g:(List Ai)) (r:((List (List Ai)) × Bool)) (a:JP g = some r) :
  A1 72 [(.string (B1 g))] b fun e w'=>∃ (h:Ac) (i:Al),e = .returned (.tuple #[h,(.bool r.2)]) ∧ Bl b w' ∧ Sp b w' [Ab Cy i h r.1]:=by
 refine cm Tryz.func72 Tryz.ntmps72 rfl fun Q c hP d f=>?_
 unfold JP at a
 refine An 2 rfl (Ap fun _ j=>(Ak fun _ k=>(wp 1 rfl (AP rfl rfl rfl (Ah (k (A3 rfl a (fun _ a=>?_) (fun _ a=>?_))))))))
 ·refine Ak fun _ m=>?_
  refine Bc (vs:=[]) (l:=[]) I6 Tryz.underlying61 rfl rfl rfl rfl rfl rfl d f fun n o w8 _ p q=>Aq 2 rfl (m (Ay (rt c rfl rfl (by cases a; exact ⟨n,o,rfl,p,q.sel [0] rfl⟩))))
 ·refine Au (j ?_)
  refine Ap fun _ s=>Ak fun _ t=>wp 2 rfl (D4 Tryz.underlying9 rfl rfl (wp 1 rfl (bB a fun ag u a=>(EN Tryz.underlying9 rfl rfl rfl u (Aq 1 rfl (t (A3 rfl a (fun _ a=>?_) (fun _ a=>?_))))))))
  ·refine An 2 rfl ?_
   refine Ay ?_
   have v:=f.push0 (r:=Ab Cy [] (.slice none 0 0) []) rfl fun _=>.inl ⟨rfl,rfl,rfl⟩
   refine rt c rfl rfl (by cases a; exact ⟨(.slice none 0 0),[],rfl,d,v.sel [0] rfl⟩)
  ·refine Au (s ?_)
   refine Ak fun _ w=>wp 2 rfl (D4 Tryz.underlying9 rfl rfl (wp 1 rfl (bB a fun x y a=>(Kt Tryz.underlying9 rfl rfl y (.inl ⟨rfl,rfl⟩) (.inr ⟨_,_,rfl,rfl⟩) (bB a fun ah z a=>(E6 rfl Tryz.call81 d f (OB b x [10] _ z) rfl fun aa ab ai _ _ ac ad=>(Aq 2 rfl (w (Ay (rt c rfl rfl (by cases a; exact ⟨aa,ab,rfl,ac,ad.sel [0] rfl⟩)))))))))))
theorem Ri (f:Ae) (g:(List Ai)) (r:((List (List Ai)) × Bool)) (b:HE g = some r) :
  A1 58 [(.string (B1 g))] f fun e w'=>∃ (p:Ac) (v:Al),e = .returned (.tuple #[p,(.bool r.2)]) ∧ Bl f w' ∧ Sp f w' [Ab Cy v p r.1]:=by
 refine cm Tryz.func58 Tryz.ntmps58 rfl fun Q q hP w x=>?_
 unfold HE at b
 refine An 2 rfl (Ak fun _ y=>(wp 1 rfl (bB b fun k z b=>(E6 rfl Tryz.call72 w x (UJ f g _ z) rfl fun l s w6 _ _ m h=>(Aq 5 rfl (y (Ap fun _ aa=>(Ap fun ab ac=>?_))))))))
 obtain ⟨ad,ae,b⟩:=Cj b
 have n:∀ (o:Bool) (j:Ae) (_:ad o = some r) (_:Bl f j) (_:Sp f j [Ab Cy s l k.1]),∀ a,St 24 [(4,l),(22,(.bool o))] a → ab a j:=by
  intro o j b t u
  subst ae
  refine ac (A3 rfl b (fun _ b=>?_) (fun _ b=>?_))
  ·refine An 2 rfl ?_
   refine Ay ?_
   have af:=u.push0 (r:=Ab Cy [] (.slice none 0 0) []) rfl fun _=>.inl ⟨rfl,rfl,rfl⟩
   refine rt q rfl rfl (by cases b; exact ⟨(.slice none 0 0),[],rfl,t,af.sel [0] rfl⟩)
  ·refine Au (aa ?_)
   refine An 3 rfl (Ay (rt q rfl rfl (by cases b; exact ⟨l,s,rfl,t,u.sel [0] rfl⟩)))
 refine As (wp 3 rfl ?_)
 rcases bE (!k.2) with c | c
 ·replace b:=BA c b
  refine wo rfl c (wo rfl c (wo rfl c (AA rfl rfl c rfl (wp 1 rfl (wo rfl rfl (wo rfl rfl (wo rfl rfl (AA rfl rfl rfl rfl (Ah ?_)))))))))
  exact jx (n true _ b m (h.sel [0] rfl)) rfl
 ·replace b:=Cf c b
  refine wn rfl c (wp 1 rfl (wn rfl c (D4 Tryz.underlying9 rfl rfl (wn rfl c (wp 1 rfl (A9 rfl rfl c rfl (wp 1 rfl ?_)))))))
  rcases bE (decide (2000 < (List.length g:Int))) with d | d
  ·replace b:=BA d b
   refine wo rfl d (wo rfl d (wo rfl d (AA rfl rfl d rfl (Ah ?_))))
   exact jx (n true _ b m (h.sel [0] rfl)) rfl
  ·replace b:=Cf d b
   refine wn rfl d (wp 1 rfl (wn rfl d (BX (h.own_ro (i:=0) rfl) Tryz.underlying61 rfl (wn rfl d (wp 1 rfl (A9 rfl rfl d rfl (Ah ?_)))))))
   exact jx (n ((decide (40 < (List.length k.1:Int)))) _ b m (h.sel [0] rfl)) rfl
theorem TE (b:Ae)  (r:(Ae1 × Ae1 × Int × Ae1 × Ae2 × Ae4)) (j:KF  = some r) :
  A1 65 [] b fun e w'=>∃ (k:Nat) (n:Al),e = .returned (.pointer (some ⟨k,0,none⟩)) ∧ Bl b w' ∧ Sp b w' [A2 AR 76 n k r]:=by
 refine cm Tryz.func65 Tryz.ntmps65 rfl fun Q o hP p q=>?_
 unfold KF at j
 refine An 1 rfl (Ak fun _ s=>(DV (zs:=[(iv 0),(iv 0)]) (out:=[(iv 0),(iv 0)]) (vs:=[]) (css:=[]) Bs L4 rfl rfl rfl rfl rfl (Bc (vs:=[(.agg #[(iv 0),(iv 0)])]) (l:=[(0,0)]) CD Tryz.underlying26 rfl rfl rfl rfl rfl rfl p q fun c F4 w5 _ t u=>(DV (zs:=[(iv 0),(iv 0)]) (out:=[(iv 0),(iv 0)]) (vs:=[]) (css:=[]) Bs L4 rfl rfl rfl rfl rfl (Bc (vs:=[(.agg #[(iv 0),(iv 0)])]) (l:=[(0,0)]) CD Tryz.underlying26 rfl rfl rfl rfl rfl rfl t u fun d ak al _ v w=>(DV (zs:=[(iv 0),(iv 0)]) (out:=[(iv 4),(iv 120)]) (vs:=[(iv 4),(iv 120)]) (css:=[[(iv 4)],[(iv 120)]]) GL VG rfl rfl rfl rfl rfl (Bc (vs:=[(.agg #[(iv 4),(iv 120)])]) (l:=[(4,120)]) GH Tryz.underlying31 rfl rfl rfl rfl rfl rfl v w fun f am an _ x y=>(Bc (vs:=[]) (l:=[]) Cs Tryz.underlying72 rfl rfl rfl rfl rfl rfl x y fun g ao ap _ z aa=>DV (zs:=[(iv 0),(iv 0),(iv 0)]) (out:=[(iv (-1)),(iv 0),(iv 0)]) (vs:=[(iv (-1))]) (css:=[[(iv (-1))]]) L2 VF rfl rfl rfl rfl rfl (Bc (vs:=[(.agg #[(iv (-1)),(iv 0),(iv 0)])]) (l:=[((-1),0,0)]) GG Tryz.underlying41 rfl rfl rfl rfl rfl rfl z aa fun h aq ar _ ab a=>(DV (zs:=[(.slice none 0 0),(.slice none 0 0),(iv 0),(.slice none 0 0),(.slice none 0 0),(.slice none 0 0)]) (out:=[c,d,(iv 8),f,g,h]) (vs:=[c,d,(iv 8),f,g,h]) (css:=[[c],[d],[(iv 8)],[f],[g],[h]]) Adw Adz rfl rfl (by simp only [List.map_cons,List.map_nil,Ce ((a.own_ro (i:=4) rfl).one),Ce ((a.own_ro (i:=3) rfl).one),Ce ((a.own_ro (i:=2) rfl).one),Ce ((a.own_ro (i:=1) rfl).one),Ce ((a.own_ro (i:=0) rfl).one)] <;> rfl) rfl rfl (CK rfl ab a fun m ac _ ad ae=>(Aq 1 rfl (s (Ay ?_))))))))))))))
 obtain ⟨af,ag⟩:∃ F,Sp b ac [A2 AR 76 F m ([(0,0)],[(0,0)],8,[(4,120)],[],[((-1),0,0)])]:=⟨_,Dt (ae.sel [0,5,4,3,2,1] rfl)⟩
 refine rt o rfl rfl (by cases j; exact ⟨m,af,rfl,ad,ag.sel [0] rfl⟩)
theorem UI (i:Ae) (h:(List Ai)) (r:(Int × Bool)) (b:JO h = some r) :
  A1 82 [(.string (B1 h))] i fun e w'=>e = .returned (.tuple #[(iv r.1),(.bool r.2)]) ∧ Bl i w':=by
 refine cm Tryz.func82 Tryz.ntmps82 rfl fun Q u hP o p=>?_
 unfold JO at b
 refine An 2 rfl (Ap fun _ ae=>(Ap fun K3 ag=>?_))
 obtain ⟨k8,ai,b⟩:=Cj b
 have q:∀ (v:Bool) (s:Ae) (_:k8 v = some r) (_:Bl i s) (_:Sp i s []),∀ a,St 48 [(0,(.string (B1 h))),(22,(.bool v))] a → K3 a s:=by
  intro v s b z aj
  subst ai
  refine ag (A3 rfl b (fun _ b=>?_) (fun _ b=>?_))
  ·refine An 2 rfl ?_
   refine Ay (rt u rfl rfl (by cases b; exact ⟨rfl,z⟩))
  ·refine Au (ae ?_)
   refine An 1 rfl (Ap fun _ ak=>(An 1 rfl (A0 (AU (fun m a w=>∃ (j:Int) (l:Int),St 48 [(0,(.string (B1 h))),(4,(iv j)),(5,(iv l))] a ∧ Bl i w ∧ Sp i w [] ∧ Fi h m j l = some r) FU ?_ ?_))))
   ·exact fun a ha=>⟨0,0,ha.sb rfl,z,(aj.sel [] rfl),b⟩
   ·rintro n a w ⟨j,l,ha,x,aa,b⟩ a6 al
    refine BE ?_ ha
    cases n with
    | zero=>exact Bg b
    | succ n =>
     obtain ⟨a7,ab⟩:∃ k,k = Fi h n:=⟨_,rfl⟩
     rw [Fi,← ab] at b
     refine Ap fun _ am=>Ak fun _ an=>wp 2 rfl (D4 Tryz.underlying9 rfl rfl (Aq 1 rfl (an (A3 rfl b (fun _ b=>?_) (fun _ b=>?_)))))
     ·refine Au (am ?_)
      refine Ap fun _ ao=>A0 (Ap fun _ ap=>(Ap fun aq ar=>?_))
      obtain ⟨au,av,b⟩:=Cj b
      have ac:∀ (y:Bool) (t:Ae) (_:au y = some r) (_:Bl i t) (_:Sp i t []),∀ a,St 48 [(0,(.string (B1 h))),(4,(iv j)),(5,(iv l)),(38,(.bool y))] a → aq a t:=by
       intro y t b ad aw
       subst av
       refine ar (A3 rfl b (fun _ b=>?_) (fun _ b=>?_))
       ·refine An 2 rfl ?_
        refine Ay (rt u rfl rfl (by cases b; exact ⟨rfl,ad⟩))
       ·refine Au (ap ?_)
        refine As (wp 4 rfl (bB b fun ax ay b=>(EN Tryz.underlying9 rfl rfl rfl ay (wp 1 rfl (DU Tryz.underlying5 Tryz.underlying3 rfl rfl (Aq 2 rfl (ao (As (Aq 3 rfl ?_)))))))))
        rw [ab] at b
        exact fun a ha=>al a _ n (AB n) ⟨(Ag ((Ag (10 * j)) + (Ag (Mv ((UInt8.toNat ax:Int) - 48))))),(Ag (l + 1)),ha.sb rfl,ad,(aw.sel [] rfl),b⟩
      refine As (wp 2 rfl (bB b fun az a0 b=>(EN Tryz.underlying9 rfl rfl rfl a0 (wp 2 rfl ?_))))
      rcases bE (decide ((UInt8.toNat az:Int) < 48)) with d | d
      ·replace b:=BA d b
       refine wo rfl d (wo rfl d (wo rfl d (wo rfl d (AA rfl rfl d rfl (Ah ?_)))))
       exact jx (ac true _ b x (aa.sel [] rfl)) rfl
      ·replace b:=Cf d b
       refine wn rfl d (wp 1 rfl (wn rfl d (wp 1 rfl (wn rfl d (bB b fun a1 a2 b=>(EN Tryz.underlying9 rfl rfl rfl a2 (wn rfl d (wp 1 rfl (A9 rfl rfl d rfl (Ah ?_))))))))))
       exact jx (ac ((decide (57 < (UInt8.toNat a1:Int)))) _ b x (aa.sel [] rfl)) rfl
     ·refine Bd (ak ?_)
      refine An 3 rfl (Ay (rt u rfl rfl (by cases b; exact ⟨rfl,x⟩)))
 refine As (wp 1 rfl (AP rfl rfl rfl (wp 1 rfl ?_)))
 rcases bE (h == []) with f | f
 ·replace b:=BA f b
  refine wo rfl f (wo rfl f (wo rfl f (AA rfl rfl f rfl (wp 1 rfl (wo rfl rfl (wo rfl rfl (wo rfl rfl (wo rfl rfl (Dn rfl rfl rfl (Dn rfl rfl rfl (Dn rfl rfl rfl (wo rfl rfl (AA rfl rfl rfl rfl (Ah ?_))))))))))))))
  exact jx (q true _ b o (p.sel [] rfl)) rfl
 ·replace b:=Cf f b
  refine wn rfl f (wp 1 rfl (wn rfl f (D4 Tryz.underlying9 rfl rfl (wn rfl f (wp 1 rfl (A9 rfl rfl f rfl (wp 1 rfl ?_)))))))
  rcases bE (decide (9 < (List.length h:Int))) with c | c
  ·replace b:=BA c b
   refine wo rfl c (wo rfl c (wo rfl c (wo rfl c (Dn rfl rfl rfl (Dn rfl rfl rfl (Dn rfl rfl rfl (wo rfl c (AA rfl rfl c rfl (Ah ?_)))))))))
   exact jx (q true _ b o (p.sel [] rfl)) rfl
  ·replace b:=Cf c b
   refine wn rfl c (wp 1 rfl (wn rfl c (D4 Tryz.underlying9 rfl rfl (wn rfl c (wp 1 rfl (wn rfl c (wp 1 rfl ?_)))))))
   rcases bE (decide (1 < (List.length h:Int))) with g | g
   ·replace b:=BA g b
    refine wn rfl g (wp 1 rfl (wn rfl g (bB b fun a3 a4 b=>(EN Tryz.underlying9 rfl rfl rfl a4 (wn rfl g (wp 1 rfl (wn rfl c (AA rfl rfl g rfl (A9 rfl rfl c rfl (Ah ?_))))))))))
    exact jx (q (((UInt8.toNat a3:Int) == 48)) _ b o (p.sel [] rfl)) rfl
   ·replace b:=Cf g b
    refine wo rfl g (wo rfl g (wo rfl g (wn rfl c (A9 rfl rfl g rfl (A9 rfl rfl c rfl (Ah ?_))))))
    exact jx (q false _ b o (p.sel [] rfl)) rfl
theorem Rh (d:Ae) (c:(List Ai)) (r:Int) (b:Jw c = some r) :
  A1 83 [(.string (B1 c))] d fun e w'=>e = .returned (iv r) ∧ Bl d w':=by
 refine cm Tryz.func83 Tryz.ntmps83 rfl fun Q g hP k l=>?_
 unfold Jw at b
 refine An 1 rfl (Ap fun _ ac=>(An 1 rfl (A0 (Ap fun K4 ae=>?_))))
 obtain ⟨k9,ag,b⟩:=Cj b
 have m:∀ (u:Bool) (n:Ae) (_:k9 u = some r) (_:Bl d n) (_:Sp d n []),∀ a,St 26 [(3,(.string (B1 c))),(4,(.bool u))] a → K4 a n:=by
  intro u n b f h
  subst ag
  refine ae (A3 rfl b (fun _ b=>?_) (fun _ b=>?_))
  ·refine An 1 rfl ?_
   refine Ay (rt g rfl rfl (by cases b; exact ⟨rfl,f⟩))
  ·refine Ap fun ah ai=>?_
   obtain ⟨aj,ak,b⟩:=Cj b
   have i:∀ (v:Bool) (o:Ae) (_:aj v = some r) (_:Bl d o) (_:Sp d o []),∀ a,St 26 [(3,(.string (B1 c))),(9,(.bool v))] a → ah a o:=by
    intro v o b j p
    subst ak
    refine ai (A3 rfl b (fun _ b=>?_) (fun _ b=>?_))
    ·refine An 1 rfl ?_
     refine Ay (rt g rfl rfl (by cases b; exact ⟨rfl,j⟩))
    ·refine Ap fun al am=>?_
     obtain ⟨an,ao,b⟩:=Cj b
     have q:∀ (w:Bool) (s:Ae) (_:an w = some r) (_:Bl d s) (_:Sp d s []),∀ a,St 26 [(3,(.string (B1 c))),(16,(.bool w))] a → al a s:=by
      intro w s b x aa
      subst ao
      refine am (A3 rfl b (fun _ b=>?_) (fun _ b=>?_))
      ·refine An 1 rfl ?_
       refine Ay (rt g rfl rfl (by cases b; exact ⟨rfl,x⟩))
      ·refine Ap fun ap aq=>?_
       obtain ⟨ar,au,b⟩:=Cj b
       have ab:∀ (y:Bool) (t:Ae) (_:ar y = some r) (_:Bl d t) (_:Sp d t []),∀ a,St 26 [(3,(.string (B1 c))),(21,(.bool y))] a → ap a t:=by
        intro y t b z a9
        subst au
        refine aq (A3 rfl b (fun _ b=>?_) (fun _ b=>?_))
        ·refine An 1 rfl ?_
         refine Ay (rt g rfl rfl (by cases b; exact ⟨rfl,z⟩))
        ·refine Ak fun _ av=>?_
         refine AP rfl rfl rfl (Aq 1 rfl (av (A3 rfl b (fun _ b=>?_) (fun _ b=>?_))))
         ·refine An 1 rfl ?_
          refine Ay (rt g rfl rfl (by cases b; exact ⟨rfl,z⟩))
         ·refine Au (ac ?_)
          refine An 1 rfl (Ay (rt g rfl rfl (by cases b; exact ⟨rfl,z⟩)))
       refine Ak fun _ aw=>AP rfl rfl rfl (Aq 1 rfl (aw (A3 rfl b (fun _ b=>?_) (fun _ b=>?_))))
       ·refine Au ?_
        exact jx (ab ((c == [112,108,97,99,101])) _ b x (aa.sel [] rfl)) rfl
       ·refine As ?_
        refine AP rfl rfl rfl (Aq 1 rfl ?_)
        exact jx (ab ((c == [118,101,114,115,105,111,110])) _ b x (aa.sel [] rfl)) rfl
     refine Ak fun _ ax=>AP rfl rfl rfl (Aq 1 rfl (ax (A3 rfl b (fun _ b=>?_) (fun _ b=>?_))))
     ·refine Au ?_
      exact jx (q ((c == [115,112,111,116])) _ b j (p.sel [] rfl)) rfl
     ·refine Ak fun _ ay=>?_
      refine AP rfl rfl rfl (Aq 1 rfl (ay (A3 rfl b (fun _ b=>?_) (fun _ b=>?_))))
      ·refine Au ?_
       exact jx (q ((c == [115,111,117,110,100])) _ b j (p.sel [] rfl)) rfl
      ·refine Ak fun _ az=>?_
       refine AP rfl rfl rfl (Aq 1 rfl (az (A3 rfl b (fun _ b=>?_) (fun _ b=>?_))))
       ·refine Au ?_
        exact jx (q ((c == [109,101,97,115,117,114,101])) _ b j (p.sel [] rfl)) rfl
       ·refine As ?_
        refine AP rfl rfl rfl (Aq 1 rfl ?_)
        exact jx (q ((c == [119,104,111])) _ b j (p.sel [] rfl)) rfl
   refine Ak fun _ a0=>AP rfl rfl rfl (Aq 1 rfl (a0 (A3 rfl b (fun _ b=>?_) (fun _ b=>?_))))
   ·refine Au ?_
    exact jx (i ((c == [99,111,117,110,116,115])) _ b f (h.sel [] rfl)) rfl
   ·refine Ak fun _ a1=>?_
    refine AP rfl rfl rfl (Aq 1 rfl (a1 (A3 rfl b (fun _ b=>?_) (fun _ b=>?_))))
    ·refine Au ?_
     exact jx (i ((c == [99,108,111,115,101])) _ b f (h.sel [] rfl)) rfl
    ·refine Ak fun _ a2=>?_
     refine AP rfl rfl rfl (Aq 1 rfl (a2 (A3 rfl b (fun _ b=>?_) (fun _ b=>?_))))
     ·refine Au ?_
      exact jx (i ((c == [107,105,110,100])) _ b f (h.sel [] rfl)) rfl
     ·refine Ak fun _ a3=>?_
      refine AP rfl rfl rfl (Aq 1 rfl (a3 (A3 rfl b (fun _ b=>?_) (fun _ b=>?_))))
      ·refine Au ?_
       exact jx (i ((c == [116,101,120,116])) _ b f (h.sel [] rfl)) rfl
      ·refine Ak fun _ a4=>?_
       refine AP rfl rfl rfl (Aq 1 rfl (a4 (A3 rfl b (fun _ b=>?_) (fun _ b=>?_))))
       ·refine Au ?_
        exact jx (i ((c == [116,105,109,101])) _ b f (h.sel [] rfl)) rfl
       ·refine As ?_
        refine AP rfl rfl rfl (Aq 1 rfl ?_)
        exact jx (i ((c == [115,116,97,116,101])) _ b f (h.sel [] rfl)) rfl
 refine Ak fun _ a5=>AP rfl rfl rfl (Aq 1 rfl (a5 (A3 rfl b (fun _ b=>?_) (fun _ b=>?_))))
 ·refine Au ?_
  exact jx (m ((c == [109,105,114,114,111,114])) _ b k (l.sel [] rfl)) rfl
 ·refine Ak fun _ a6=>?_
  refine AP rfl rfl rfl (Aq 1 rfl (a6 (A3 rfl b (fun _ b=>?_) (fun _ b=>?_))))
  ·refine Au ?_
   exact jx (m ((c == [107,101,101,112])) _ b k (l.sel [] rfl)) rfl
  ·refine Ak fun _ a7=>?_
   refine AP rfl rfl rfl (Aq 1 rfl (a7 (A3 rfl b (fun _ b=>?_) (fun _ b=>?_))))
   ·refine Au ?_
    exact jx (m ((c == [115,117,109])) _ b k (l.sel [] rfl)) rfl
   ·refine As ?_
    refine AP rfl rfl rfl (Aq 1 rfl ?_)
    exact jx (m ((c == [108,101,97,115,116])) _ b k (l.sel [] rfl)) rfl
theorem Cr (d:Ae) (f:Int) (h:Int) (i:Int) (r:Bool) (b:BW f h i = some r) :
  A1 60 [(iv f),(iv h),(iv i)] d fun e w'=>e = .returned (.bool r) ∧ Bl d w':=by
 refine cm Tryz.func60 Tryz.ntmps60 rfl fun Q n u k l=>?_
 unfold BW at b
 refine An 1 rfl (Ap fun o p=>?_)
 obtain ⟨q,s,b⟩:=Cj b
 have m:∀ (j:Bool) (g:Ae) (_:q j = some r) (_:Bl d g) (_:Sp d g []),∀ a,St 15 [(6,(.bool j))] a → o a g:=by
  intro j g b t v
  subst s
  refine p (Ay (rt n rfl rfl (by cases b; exact ⟨rfl,t⟩)))
 refine As (wp 4 rfl ?_)
 rcases bE (decide (h ≤ f)) with c | c
 ·replace b:=BA c b
  refine wn rfl c (wp 1 rfl (wn rfl c (wp 1 rfl (wn rfl c (wp 1 rfl (AA rfl rfl c rfl (Aq 1 rfl ?_)))))))
  exact jx (m ((decide (f ≤ i))) _ b k (l.sel [] rfl)) rfl
 ·replace b:=Cf c b
  refine wo rfl c (wo rfl c (wo rfl c (A9 rfl rfl c rfl (Aq 1 rfl ?_))))
  exact jx (m false _ b k (l.sel [] rfl)) rfl
theorem Ks (f:Ae) (d:(Int × Int)) (r:Bool) (b:Gr d = some r) :
  A1 61 [(.agg #[(iv d.1),(iv d.2)])] f fun e w'=>e = .returned (.bool r) ∧ Bl f w':=by
 refine cm Tryz.func61 Tryz.ntmps61 rfl fun Q m hP n o=>?_
 unfold Gr at b
 refine Ak fun _ p=>CK rfl n o fun b2 q _ s j=>Aq 1 rfl (p (Ap fun t u=>?_))
 obtain ⟨v,w,b⟩:=Cj b
 have k:∀ (h:Bool) (g:Ae) (_:v h = some r) (_:Bl f g) (_:Sp f g []),∀ a,St 11 [(2,(.bool h))] a → t a g:=by
  intro h g b x ah
  subst w
  refine u (Ay (rt m rfl rfl (by cases b; exact ⟨rfl,x⟩)))
 refine As (Bp CJ rfl (AO 0 A4 rfl j rfl rfl (bB b fun y z b=>(Bu rfl Tryz.call60 s j (Cr q d.1 0 1280 _ z) rfl fun aa _ l i=>(wp 1 rfl ?_)))))
 rcases bE y with c | c
 ·replace b:=BA c b
  refine wn rfl c (Bp CI rfl (wn rfl c (AO 0 A4 rfl i rfl rfl (wn rfl c (bB b fun ab ac b=>(Bu rfl Tryz.call60 l i (Cr aa d.2 0 672 _ ac) rfl fun ai _ ad ae=>(AA rfl rfl c rfl (Aq 1 rfl ?_))))))))
  exact jx (k ab _ b ad (ae.sel [] rfl)) rfl
 ·replace b:=Cf c b
  refine wo rfl c (wo rfl c (wo rfl c (A9 rfl rfl c rfl (Aq 1 rfl ?_))))
  exact jx (k false _ b l (i.sel [] rfl)) rfl
theorem Lr (g:Ae) (h:Ae1) (l:Ac) (p:RO Ao g l h) (c:(Int × Int)) (r:Int) (b:Ez h c = some r) :
  A1 74 [l,(.agg #[(iv c.1),(iv c.2)])] g fun e w'=>e = .returned (iv r) ∧ Bl g w':=by
 refine cm Tryz.func74 Tryz.ntmps74 rfl fun Q q d w x=>?_
 unfold Ez at b
 refine Ak fun _ y=>CK rfl w x fun s w3 _ z aa=>Aq 1 rfl (y (Ap fun _ ab=>(Ak fun _ ac=>(wp 1 rfl (BX p Tryz.underlying26 rfl (Aq 1 rfl (ac (A0 (AU (fun m a n=>∃ (j:Int),St 19 [(0,l),(3,(.pointer (some ⟨s,0,none⟩))),(7,(iv (List.length h:Int))),(8,(iv j))] a ∧ Bl g n ∧ Sp g n [A5 s 79 [(iv c.1),(iv c.2)]] ∧ Cn h c m j = some r) FU ?_ ?_)))))))))
 ·exact fun a ha=>⟨0,ha.sb rfl,z,(aa.sel [0] rfl),b⟩
 ·rintro i a n ⟨j,ha,t,ad,b⟩ an ae
  refine BE ?_ ha
  cases i with
  | zero=>exact Bg b
  | succ i =>
   obtain ⟨ao,u⟩:∃ k,k = Cn h c i:=⟨_,rfl⟩
   rw [Cn,← u] at b
   refine An 1 rfl (Ap fun _ af=>(A3 rfl b (fun _ b=>?_) (fun _ b=>?_)))
   ·refine Au (af ?_)
    refine Ap fun _ ag=>A0 (An 2 rfl (Ap fun _ ah=>(AQ B4 [] t ad fun ai _ o v=>?_)))
    have f:=KeepX.refl ai []
    refine Ad 0 rfl d f (CQ 0 Bs rfl v rfl (by simp) (Ax 1 rfl d f (Ax 2 rfl d f (bB b fun aj ak b=>(Ad 3 rfl d f (BB (e:=Ao) Tryz.underlying26 rfl rfl rfl p ak ?_))))))
    rintro ap _ rfl al
    refine Ad 4 rfl d f (BL Bs rfl (al.kx o (by simp)) rfl (Ad 5 rfl d f (Acw Tryz.eqGuardType79 (Abd c aj) rfl rfl rfl (Ba (ah (A3 rfl b (fun _ b=>?_) (fun _ b=>?_)))))))
    ·refine An 2 rfl ?_
     refine Ay (rt q rfl rfl (by cases b; exact ⟨rfl,o⟩))
    ·refine Au (ag ?_)
     refine As (Aq 2 rfl ?_)
     rw [u] at b
     exact fun a ha=>ae a _ i (AB i) ⟨(Ag (j + 1)),ha.sb rfl,o,(v.sel [0] rfl),b⟩
   ·refine Bd (ab ?_)
    refine An 1 rfl (Ay (rt q rfl rfl (by cases b; exact ⟨rfl,t⟩)))
theorem KH (c:Ae) (d:Ae1) (f:Ac) (h:RO Ao c f d) (a:(Int × Int)) (r:Bool) (b:Dk d a = some r) :
  A1 62 [f,(.agg #[(iv a.1),(iv a.2)])] c fun e w'=>e = .returned (.bool r) ∧ Bl c w':=by
 refine cm Tryz.func62 Tryz.ntmps62 rfl fun Q i t j k=>?_
 unfold Dk at b
 refine Ak fun _ l=>CK rfl j k fun u m _ g n=>Aq 1 rfl (l (Ak fun _ o=>(wp 1 rfl (AO 0 Bs rfl n rfl rfl (bB b fun u8 p b=>(A7 rfl Tryz.call74 (Lr m d f (h.ro g) a _ p) rfl ?_))))))
 rintro _ v ⟨rfl,q⟩
 refine ⟨_,rfl,?_⟩
 have s:=tm g q
 refine Aq 2 rfl (o (Ay (rt i rfl rfl (by cases b; exact ⟨rfl,s⟩))))
theorem GF (g:Ae) (h:Ae1) (i:Ac) (n:RO Ao g i h) (r:Bool) (b:DZ h = some r) :
  A1 43 [i] g fun e w'=>e = .returned (.bool r) ∧ Bl g w':=by
 refine cm Tryz.func43 Tryz.ntmps43 rfl fun Q p d hB hS=>?_
 unfold DZ at b
 refine An 1 rfl (Ap fun _ ah=>(Ak fun _ ai=>(wp 1 rfl (BX n Tryz.underlying26 rfl (bB b fun u4 aj b=>(Bu rfl Tryz.call60 hB hS (Cr g (List.length h:Int) 1 12 _ aj) rfl fun w5 _ w ak=>(Aq 1 rfl (ai (A3 rfl b (fun _ b=>?_) (fun _ b=>?_))))))))))
 ·refine An 1 rfl ?_
  refine Ay (rt p rfl rfl (by cases b; exact ⟨rfl,w⟩))
 ·refine Au (ah ?_)
  refine Ap fun _ al=>Ak fun _ am=>wp 1 rfl (BX n Tryz.underlying26 rfl (Aq 1 rfl (am (A0 (AU (fun m a q=>∃ (j:Int),St 27 [(0,i),(9,i),(10,(iv (List.length h:Int))),(11,(iv j))] a ∧ Bl g q ∧ Sp g q [] ∧ Fl h m j = some r) FU ?_ ?_)))))
  ·exact fun a ha=>⟨0,ha.sb rfl,w,(ak.sel [] rfl),b⟩
  ·rintro l a q ⟨j,ha,s,an,b⟩ bk ao
   refine BE ?_ ha
   cases l with
   | zero=>exact Bg b
   | succ l =>
    obtain ⟨bl,x⟩:∃ k,k = Fl h l:=⟨_,rfl⟩
    rw [Fl,← x] at b
    refine An 1 rfl (Ap fun _ ap=>(A3 rfl b (fun _ b=>?_) (fun _ b=>?_)))
    ·refine Au (ap ?_)
     refine Ap fun _ aq=>A0 (Ak fun _ ar=>(wp 1 rfl (bB b fun y au b=>(BP (e:=Ao) Tryz.underlying26 rfl rfl rfl n au ?_))))
     rintro bm _ rfl av
     refine BZ Bs rfl (av.ro s) rfl (Ei Bs rfl s an fun bn bo _ aw ax=>(wp 1 rfl (Gj 0 Bs rfl rfl aw ax rfl rfl rfl fun bp _ ay az=>(Ah (ar (Ap fun a0 a1=>?_))))))
     obtain ⟨a2,a3,b⟩:=Cj b
     have z:∀ (t:Bool) (o:Ae) (_:a2 t = some r) (_:Bl g o) (_:Sp g o []),∀ a,St 27 [(0,i),(9,i),(10,(iv (List.length h:Int))),(11,(iv j)),(25,(.bool t))] a → a0 a o:=by
      intro t o b aa a4
      subst a3
      refine a1 (A3 rfl b (fun _ b=>?_) (fun _ b=>?_))
      ·refine An 1 rfl ?_
       refine Ay (rt p rfl rfl (by cases b; exact ⟨rfl,aa⟩))
      ·refine Au (aq ?_)
       refine As (Aq 2 rfl ?_)
       rw [x] at b
       exact fun a ha=>ao a _ l (AB l) ⟨(Ag (j + 1)),ha.sb rfl,aa,(a4.sel [] rfl),b⟩
     refine AQ B4 [] ay az fun ab _ a5 u=>?_
     have ac:=KeepX.refl ab []
     refine Ad 0 rfl d ac (CQ 0 Bs rfl u rfl (by simp) (Av 1 rfl (bB b fun a6 a7 b=>(Bu rfl Tryz.call61 a5 u (Ks ab y _ a7) rfl fun a8 a9 v ad=>?_))))
     have f:=ac.ext a9
     refine Ah (Am f (Ad 2 rfl d f (KM rfl rfl (Ax 3 rfl d f ?_))))
     rcases bE (!a6) with c | c
     ·replace b:=BA c b
      refine AZ 4 rfl d c f (AZ 5 rfl d c f (AZ 6 rfl d c f (AZ 7 rfl d c f (AZ 8 rfl d c f (Ad 9 rfl d f (Ep rfl rfl c rfl (Ba ?_)))))))
      exact jx (z true _ b v (ad.sel [] rfl)) rfl
     ·replace b:=Cf c b
      refine BF 4 rfl d c f (Da rfl rfl (BF 5 rfl d c f (Da rfl rfl (bB b fun ba bb b=>(BF 6 rfl d c f (ZZ (e:=Ao) Tryz.underlying26 rfl rfl n bb (.inl ⟨rfl,rfl⟩) (.inr ⟨_,_,rfl,rfl⟩) fun bc bd=>(BF 7 rfl d c f (CQ 0 Bs rfl u rfl (by simp) (Av 8 rfl (wn rfl c (bB b fun u64 be b=>(Bu rfl Tryz.call62 v ad (KH a8 ba bc (bd.ro v) y _ be) rfl fun bq bf bg bh=>?_))))))))))))
      have ae:=f.ext bf
      refine Ah (Am ae (Ad 9 rfl d ae (FV rfl rfl c rfl (Ba ?_))))
      exact jx (z u64 _ b bg (bh.sel [] rfl)) rfl
    ·refine Bd (al ?_)
     refine An 1 rfl (Ay (rt p rfl rfl (by cases b; exact ⟨rfl,s⟩)))
theorem P6 (b:Ae) (c:Bool) (r:(List Ai)) (a:Iz c = some r) :
  A1 118 [(.bool c)] b fun e w'=>e = .returned (.string (B1 r)) ∧ Bl b w':=by
 refine cm Tryz.func118 Tryz.ntmps118 rfl fun Q d h f _=>?_
 unfold Iz at a
 refine An 1 rfl (Ap fun _ g=>(An 1 rfl (A3 rfl a (fun _ a=>?_) (fun _ a=>?_))))
 ·refine An 1 rfl ?_
  refine Ay (rt d rfl rfl (by cases a; exact ⟨rfl,f⟩))
 ·refine Au (g ?_)
  refine An 1 rfl (Ay (rt d rfl rfl (by cases a; exact ⟨rfl,f⟩)))
theorem C3 (c:Ae) (b:(Ae1 × Ae1 × Int × Ae1 × Ae2 × Ae4)) (f:Nat) (j:Al) (g:Ae1) (h:Ac) (k:Al) (m:Bool) (u:Sep 0 c [A2 AR 76 j f b,Ab Ao k h g]) (r:((List Ai) × (Ae1 × Ae1 × Int × Ae1 × Ae2 × Ae4))) (d:Dj b g m = some r) :
  A1 110 [(.pointer (some ⟨f,0,none⟩)),h,(.bool m)] c fun e w'=>∃ (H_0:Al),e = .returned (.string (B1 r.1)) ∧ Below 0 (wE c) w' ∧ Sep 0 w' [A6 c (Be [A2 AR 76 j f b,Ab Ao k h g]),A2 AR 76 H_0 f r.2]:=by
 refine G4 Tryz.func110 rfl Tryz.ntmps110 rfl rfl fun Q v hP=>?_
 have q:Bl (wE c) c:=Ej c
 have s:Sp (wE c) c [A6 c (Be [A2 AR 76 j f b,Ab Ao k h g]),A2 AR 76 j f b,Ab Ao k h g]:=u.rest
 unfold Dj at d
 refine An 1 rfl (Ap fun w x=>?_)
 obtain ⟨y,z,d⟩:=Cj d
 have t:∀ (n:(Ae1 × Ae1 × Int × Ae1 × Ae2 × Ae4)) (o:Al) (l:Ae) (_:y n = some r) (_:Bl (wE c) l) (_:Sp (wE c) l [A6 c (Be [A2 AR 76 j f b,Ab Ao k h g]),A2 AR 76 o f n]),∀ a,St 14 [(2,(.bool m))] a → w a l:=by
  intro n o l d aa ab
  subst z
  refine x (Ak fun _ ac=>(wp 1 rfl (bB d fun au ad d=>(Bu rfl Tryz.call118 aa ab (P6 l m _ ad) rfl fun av _ ae af=>(Aq 1 rfl (ac (Ay (rt v rfl rfl (by cases d; exact ⟨o,rfl,ae,af.sel [0,1] rfl⟩)))))))))
 refine An 1 rfl (A3 rfl d (fun _ d=>?_) (fun _ d=>?_))
 ·refine As ?_
  refine wp 2 rfl (BC rfl rfl (Bp HM rfl ?_))
  obtain ⟨ag,ah,ai,aw,aj,ax,ak,ay,al,az,p⟩:=Ir (s.sel [1,0,2] rfl)
  refine B9 (i:=0) (vs:=[h]) (cs':=[h,ai,(iv b.2.2.1),aj,ak,al]) Cm rfl rfl (Ce (p.own_ro (i:=7) rfl).one) rfl q p rfl rfl ⟨(p.own_ro (i:=7) rfl).one,trivial⟩ rfl fun am _ an ao=>Ah ?_
  obtain ⟨ap,aq⟩:∃ F,Sp (wE c) am [A2 AR 76 F f (g,b.2.1,b.2.2.1,b.2.2.2.1,b.2.2.2.2.1,b.2.2.2.2.2),Ab Ao ah ag b.1,A6 c (Be [A2 AR 76 j f b,Ab Ao k h g])]:=⟨_,Dt (ao.sel [0,7,2,3,4,5,1,6] rfl)⟩
  exact jx (t ((g,b.2.1,b.2.2.1,b.2.2.2.1,b.2.2.2.2.1,b.2.2.2.2.2)) ap _ d an (aq.sel [2,0] rfl)) rfl
 ·refine Au ?_
  exact jx (t b j _ d q (s.sel [0,1] rfl)) rfl
theorem DI (a:Ae) (d:Ae1) (c:Ac) (f:Al) (m:Sep 0 a [Ab Ao f c d]) (r:(Ae1 × Bool)) (b:Gh d = some r) :
  A1 111 [c] a fun e w'=>∃ (g:Ac) (n:Al),e = .returned (.tuple #[g,(.bool r.2)]) ∧ Below 0 (wE a) w' ∧ Sep 0 w' [A6 a (Be [Ab Ao f c d]),Ab Ao n g r.1]:=by
 refine G4 Tryz.func111 rfl Tryz.ntmps111 rfl rfl fun Q h u=>?_
 have o:Bl (wE a) a:=Ej a
 have j:Sp (wE a) a [A6 a (Be [Ab Ao f c d]),Ab Ao f c d]:=m.rest
 unfold Gh at b
 refine An 2 rfl (Ap fun _ p=>(Ak fun _ q=>(wp 1 rfl (bB b fun v s b=>(Bu rfl Tryz.call43 o j (GF a d c (j.own_ro (i:=1) rfl) _ s) rfl fun w _ k l=>(Aq 1 rfl (q (A3 rfl b (fun _ b=>?_) (fun _ b=>?_)))))))))
 ·refine An 2 rfl ?_
  refine Ay ?_
  have t:=l.push0 (r:=Ab Ao [] (.slice none 0 0) []) rfl fun _=>.inl ⟨rfl,rfl,rfl⟩
  refine rt h rfl rfl (by cases b; exact ⟨(.slice none 0 0),[],rfl,k,t.sel [1,0] rfl⟩)
 ·refine Au (p ?_)
  refine An 3 rfl (Ay (rt h rfl rfl (by cases b; exact ⟨c,f,rfl,k,l.sel [0,1] rfl⟩)))
theorem P8 (g:Ae) (j:Ae1) (k:Ac) (n:RO Ao g k j) (h:Int) (d:(Int × Int)) (r:(Ae1 × Bool)) (b:GC j h d = some r) :
  A1 112 [k,(iv h),(.agg #[(iv d.1),(iv d.2)])] g fun e w'=>∃ (z:Ac) (G0:Al),e = .returned (.tuple #[z,(.bool r.2)]) ∧ Bl g w' ∧ Sp g w' [Ab Ao G0 z r.1]:=by
 refine cm Tryz.func112 Tryz.ntmps112 rfl fun Q hQ hP hB hS=>?_
 unfold GC at b
 refine Ak fun _ aq=>CK rfl hB hS fun p w3 _ ab au=>Aq 2 rfl (aq (Ap fun _ av=>(Ap fun K8 ax=>?_)))
 obtain ⟨ay,az,b⟩:=Cj b
 have q:∀ (s:Bool) (m:Ae) (_:ay s = some r) (_:Bl g m) (_:Sp g m [A5 p 79 [(iv d.1),(iv d.2)]]),∀ a,St 36 [(0,k),(1,(iv h)),(5,(.pointer (some ⟨p,0,none⟩))),(24,(.bool s))] a → K8 a m:=by
  intro s m b ac ad
  subst az
  refine ax (A3 rfl b (fun _ b=>?_) (fun _ b=>?_))
  ·refine An 2 rfl ?_
   refine Ay ?_
   have a0:=ad.push0 (r:=Ab Ao [] (.slice none 0 0) []) rfl fun _=>.inl ⟨rfl,rfl,rfl⟩
   refine rt hQ rfl rfl (by cases b; exact ⟨(.slice none 0 0),[],rfl,ac,a0.sel [0] rfl⟩)
  ·refine Au (av ?_)
   refine Ak fun _ a1=>Bc (vs:=[]) (l:=[]) CD Tryz.underlying26 rfl rfl rfl rfl rfl rfl ac ad fun bq br a2 _ ae a3=>wp 1 rfl (bB b fun t a4 b=>(AF (i:=0) (S:=(· < a2.heap.size)) CD Tryz.underlying26 rfl rfl rfl ae a3 rfl (n.ro ae) a4 fun u v bs _ a5 w=>(Aq 1 rfl (a1 (Ak fun _ a6=>(wp 2 rfl (AO 1 Bs rfl w rfl rfl (bB b fun bt af b=>(Cw (e:=Ao) (i:=0) Tryz.underlying26 rfl rfl rfl w rfl af ?_)))))))))
   rintro bu _ rfl bv a7
   refine BT (i:=0) (o:=0) (vs:=[(iv d.1),(iv d.2)]) (u':=d) CD Bs rfl rfl rfl rfl a7 af a5 w rfl rfl ⟨rfl,rfl,trivial⟩ rfl fun a8 _ ag x=>Ah (a6 (Ak fun _ a9=>(wp 1 rfl (bB b fun ba bb b=>(A7 rfl Tryz.call111 (DI a8 (BG t h d) u v (x.sel [0] rfl).base0 _ bb) rfl ?_)))))
   rintro _ bc ⟨ah,ai,rfl,bd,aj⟩
   refine ⟨_,rfl,?_⟩
   have be:=x.takeB [0] rfl (M:=[Ab Ao v u (BG t h d)]) rfl ag bd aj
   have bf:Sp g bc [Ab Ao ai ah ba.1,A5 p 79 [(iv d.1),(iv d.2)]]:=x.take [0] [1] rfl (M:=[Ab Ao v u (BG t h d)]) rfl aj ag.size
   refine Aq 4 rfl (a9 (Ay (rt hQ rfl rfl (by cases b; exact ⟨ah,ai,rfl,be,bf.sel [0] rfl⟩))))
 refine As (wp 1 rfl (bB b fun bg bh b=>(Bu rfl Tryz.call43 ab au (GF w3 j k (n.ro ab) _ bh) rfl fun bi _ ak al=>(wp 2 rfl ?_))))
 rcases bE (!bg) with c | c
 ·replace b:=BA c b
  refine wo rfl c (wo rfl c (wo rfl c (wo rfl c (wo rfl c (wo rfl c (AA rfl rfl c rfl (wp 1 rfl (wo rfl rfl (wo rfl rfl (wo rfl rfl (AA rfl rfl rfl rfl (Ah ?_))))))))))))
  exact jx (q true _ b ak (al.sel [0] rfl)) rfl
 ·replace b:=Cf c b
  refine wn rfl c (wp 1 rfl (wn rfl c (wp 1 rfl (wn rfl c (BX n Tryz.underlying26 rfl (wn rfl c (wp 1 rfl (wn rfl c (bB b fun bj bk b=>(Bu rfl Tryz.call60 ak al (Cr bi h 0 (Ag ((List.length j:Int) - 1)) _ bk) rfl fun bl _ am y=>(wn rfl c (wp 1 rfl (A9 rfl rfl c rfl (wp 1 rfl ?_))))))))))))))
  rcases bE (!bj) with f | f
  ·replace b:=BA f b
   refine wo rfl f (wo rfl f (wo rfl f (AA rfl rfl f rfl (Ah ?_))))
   exact jx (q true _ b am (y.sel [0] rfl)) rfl
  ·replace b:=Cf f b
   refine wn rfl f (AO 0 Bs rfl y rfl rfl (wn rfl f (bB b fun u64 bm b=>(Bu rfl Tryz.call61 am y (Ks bl d _ bm) rfl fun bw _ bn bo=>(wn rfl f (wp 1 rfl (A9 rfl rfl f rfl (Ah ?_))))))))
   exact jx (q ((!u64)) _ b bn (bo.sel [0] rfl)) rfl
theorem Rm (d:Ae) (f:Ae1) (h:Ac) (o:RO Ao d h f) (r:(Ae1 × Bool)) (b:HI f = some r) :
  A1 113 [h] d fun e w'=>∃ (v:Ac) (G0:Al),e = .returned (.tuple #[v,(.bool r.2)]) ∧ Bl d w' ∧ Sp d w' [Ab Ao G0 v r.1]:=by
 refine cm Tryz.func113 Tryz.ntmps113 rfl fun Q w hP x hS=>?_
 unfold HI at b
 refine An 2 rfl (Ap fun _ af=>(Ak fun _ ag=>(wp 1 rfl (bB b fun u4 ah b=>(Bu rfl Tryz.call43 x hS (GF d f h (o.ro x) _ ah) rfl fun w5 _ y z=>(Aq 1 rfl (ag (A3 rfl b (fun _ b=>?_) (fun _ b=>?_)))))))))
 ·refine An 2 rfl ?_
  refine Ay ?_
  have ai:=z.push0 (r:=Ab Ao [] (.slice none 0 0) []) rfl fun _=>.inl ⟨rfl,rfl,rfl⟩
  refine rt w rfl rfl (by cases b; exact ⟨(.slice none 0 0),[],rfl,y,ai.sel [0] rfl⟩)
 ·refine Au (af ?_)
  refine Ak fun _ aj=>Bc (vs:=[]) (l:=[]) CD Tryz.underlying26 rfl rfl rfl rfl rfl rfl y z fun ak al bc _ am an=>Aq 1 rfl (aj (Ap fun _ ao=>(Ak fun _ ap=>(wp 1 rfl (BX o Tryz.underlying26 rfl (Aq 1 rfl (ap (A0 (AU (fun m a p=>∃ (q:Ae1) (j:Int) (n:Ac) (s:Al),St 28 [(4,n),(11,h),(12,(iv (List.length f:Int))),(13,(iv j))] a ∧ Bl d p ∧ Sp d p [Ab Ao s n q] ∧ DR f m q j = some r) FU ?_ ?_)))))))))
  ·exact fun a ha=>⟨[],0,ak,al,ha.sb rfl,am,(an.sel [0] rfl),b⟩
  ·rintro g a p ⟨q,j,n,s,ha,t,aa,b⟩ bd aq
   refine BE ?_ ha
   cases g with
   | zero=>exact Bg b
   | succ g =>
    obtain ⟨be,ab⟩:∃ k,k = DR f g:=⟨_,rfl⟩
    rw [DR,← ab] at b
    refine An 1 rfl (Ap fun _ ar=>(A3 rfl b (fun _ b=>?_) (fun _ b=>?_)))
    ·refine Au (ar ?_)
     refine Ap fun _ au=>A0 (Ak fun _ av=>(bB b fun c aw b=>(BP (e:=Ao) Tryz.underlying26 rfl rfl rfl o aw ?_)))
     rintro bf _ rfl ax
     refine BZ Bs rfl (ax.ro t) rfl (Ei Bs rfl t aa fun bg bh _ ay az=>(Gj 0 Bs rfl rfl ay az rfl rfl rfl fun bi _ a0 u=>(Ah (av (As (wp 1 rfl (Bp CJ rfl (AO 0 A4 rfl u rfl rfl (wp 1 rfl (Bp CI rfl (AO 0 A4 rfl u rfl rfl (DV (zs:=[(iv 0),(iv 0)]) (out:=[(iv (Ag (1280 - c.1))),(iv c.2)]) (vs:=[(iv (Ag (1280 - c.1))),(iv c.2)]) (css:=[[(iv (Ag (1280 - c.1)))],[(iv c.2)]]) Bs L4 rfl rfl rfl rfl rfl (Bc (vs:=[(.agg #[(iv (Ag (1280 - c.1))),(iv c.2)])]) (l:=[((Ag (1280 - c.1)),c.2)]) CD Tryz.underlying26 rfl rfl rfl rfl rfl rfl a0 u fun bj bk a1 _ a2 ac=>(bB b fun a3 a4 b=>(AF (i:=2) (S:=(· < a1.heap.size)) CD Tryz.underlying26 rfl rfl rfl a2 ac rfl (ac.own_ro (i:=0) rfl) a4 fun a5 a6 bl _ a7 a8=>Aq 1 rfl (au (As (Aq 2 rfl ?_))))))))))))))))))
     rw [ab] at b
     exact fun a ha=>aq a _ g (AB g) ⟨a3,(Ag (j + 1)),a5,a6,ha.sb rfl,a7,(a8.sel [2] rfl),b⟩
    ·refine Bd (ao ?_)
     refine An 3 rfl (Ay (rt w rfl rfl (by cases b; exact ⟨n,s,rfl,t,aa.sel [0] rfl⟩)))
theorem Nm (g:Ae) (c:(Ae1 × Ae1 × Int × Ae1 × Ae2 × Ae4)) (f:Nat) (aa:Al) (x1:(List Ai)) (k:(List Int)) (m:Ac) (n:Al) (j0:Sep 0 g [A2 AR 76 aa f c,Ab Ar n m k]) (r:((List Ai) × (Ae1 × Ae1 × Int × Ae1 × Ae2 × Ae4))) (d:BI c x1 k = some r) :
  A1 84 [(.pointer (some ⟨f,0,none⟩)),(.string (B1 x1)),m] g fun e w'=>∃ (H_0:Al),e = .returned (.string (B1 r.1)) ∧ Below 0 (wE g) w' ∧ Sep 0 w' [A6 g (Be [A2 AR 76 aa f c,Ab Ar n m k]),A2 AR 76 H_0 f r.2]:=by
 refine G4 Tryz.func84 rfl Tryz.ntmps84 rfl rfl fun Q hQ o=>?_
 have hB:Bl (wE g) g:=Ej g
 have hS:Sp (wE g) g [A6 g (Be [A2 AR 76 aa f c,Ab Ar n m k]),A2 AR 76 aa f c,Ab Ar n m k]:=j0.rest
 unfold BI at d
 refine An 1 rfl (Ap fun _ j1=>(An 1 rfl (A0 (Ak fun _ j2=>(AP rfl rfl rfl (Aq 1 rfl (j2 (A3 rfl d (fun _ d=>?_) (fun _ d=>?_)))))))))
 ·refine Ap fun K6 j4=>?_
  obtain ⟨j5,j6,d⟩:=Nn d
  have ak:∀ (dr:(Ae1 × Ae1 × Int × Ae1 × Ae2 × Ae4)) (ds:(List Ai)) (dt:Al) (w7:Ae) (_:j5 dr ds = some r) (_:Bl (wE g) w7) (_:Sp (wE g) w7 [A6 g (Be [A2 AR 76 aa f c,Ab Ar n m k]),A2 AR 76 dt f dr]),∀ a,St 84 [(6,(.string (B1 ds)))] a → K6 a w7:=by
   intro dr ds dt w7 d j7 j8
   subst j6
   refine j4 (Ay (rt hQ rfl rfl (by cases d; exact ⟨dt,rfl,j7,j8.sel [0,1] rfl⟩)))
  obtain ⟨ad,p,ae,q,af,s,ag,t,ah,u,j9⟩:=Ir (hS.sel [1,0,2] rfl)
  refine AQ B4 ((((([f] ++ p) ++ q) ++ s) ++ t) ++ u) hB j9 fun y _ al ac=>?_
  have ai:=KeepX.refl y ((((([f] ++ p) ++ q) ++ s) ++ t) ++ u)
  refine Ax 0 rfl o ai (Ax 2 rfl o ai (Ad 3 rfl o ai (B8 rfl rfl (Ad 4 rfl o ai (C9 HM rfl (Ax 7 rfl o ai (bB d fun v ka d=>(Ad 8 rfl o ai (CA (e:=Ar) (i:=7) Tryz.underlying36 rfl rfl rfl ac rfl ka ?_)))))))))
  rintro qo _ rfl kb qp
  refine Ad 9 rfl o ai (BL A4 rfl (fun w hw=>kb.keepS (fun b z=>(hw.blk b (((ac.get (i:=7) rfl).2.1 b z).2) (fun hb=>(AX.1 hb).elim (fun hb=>(AX.1 hb).elim (fun hb=>(AX.1 hb).elim (fun hb=>(AX.1 hb).elim (fun hb=>(AX.1 hb).elim (ac.disj (i:=7) (j:=0) rfl rfl rfl b z) (ac.disj (i:=7) (j:=1) rfl rfl rfl b z)) (ac.disj (i:=7) (j:=2) rfl rfl rfl b z)) (ac.disj (i:=7) (j:=3) rfl rfl rfl b z)) (ac.disj (i:=7) (j:=4) rfl rfl rfl b z)) (ac.disj (i:=7) (j:=5) rfl rfl rfl b z)))) (fun _ h=>h)) rfl (Ax 10 rfl o ai (bB d fun x kc d=>(Ad 11 rfl o ai (CA (e:=Ar) (i:=7) Tryz.underlying36 rfl rfl rfl ac rfl kc ?_)))))
  rintro qq _ rfl kd qr
  refine Ad 12 rfl o ai (BL A4 rfl (fun w hw=>kd.keepS (fun b z=>(hw.blk b (((ac.get (i:=7) rfl).2.1 b z).2) (fun hb=>(AX.1 hb).elim (fun hb=>(AX.1 hb).elim (fun hb=>(AX.1 hb).elim (fun hb=>(AX.1 hb).elim (fun hb=>(AX.1 hb).elim (ac.disj (i:=7) (j:=0) rfl rfl rfl b z) (ac.disj (i:=7) (j:=1) rfl rfl rfl b z)) (ac.disj (i:=7) (j:=2) rfl rfl rfl b z)) (ac.disj (i:=7) (j:=3) rfl rfl rfl b z)) (ac.disj (i:=7) (j:=4) rfl rfl rfl b z)) (ac.disj (i:=7) (j:=5) rfl rfl rfl b z)))) (fun _ h=>h)) rfl (Ad 13 rfl o ai (HR (zs:=[(iv 0),(iv 0)]) (out:=[(iv v),(iv x)]) (vs:=[(iv v),(iv x)]) (css:=[[(iv v)],[(iv x)]]) Bs L4 rfl rfl rfl rfl rfl (C0 (is:=[1,5,14]) (by kernel_rfl) rfl (Bb.2 ⟨⟨_,rfl,?_⟩,Bb.2 ⟨⟨_,rfl,?_⟩,Bb.2 ⟨⟨_,rfl,?_⟩,fun _ h=>by cases h⟩⟩⟩)))))
  ·refine Bc (vs:=[]) (l:=[]) CD Tryz.underlying26 rfl rfl rfl rfl rfl rfl (Bf y) (Sep.nil _ _) fun qs ke du bw _ gb=>?_
   have bf:=tm al bw
   have bg:=ac.join bw gb al.size
   have ao:∀ b ∈ ke,y.heap.size ≤ b:=fun b hb=>Aw (Nat.le_refl y.heap.size) ((gb.1 _ (List.mem_cons_self ..)).2.1 b hb).1
   have bh:=ai.ext bw
   have bx:=Aw (Nat.le_refl y.heap.size) bw.size
   refine Ah (Am bh (C0 (is:=[5,14]) (by kernel_rfl) rfl (Bb.2 ⟨⟨_,rfl,?_⟩,Bb.2 ⟨⟨_,rfl,?_⟩,fun _ h=>by cases h⟩⟩)))
   ·refine AO 1 Cm rfl bg rfl rfl ?_
    refine Ah (Am bh (C0 (is:=[6,14]) (by kernel_rfl) rfl (Bb.2 ⟨⟨_,rfl,?_⟩,Bb.2 ⟨⟨_,rfl,?_⟩,fun _ h=>by cases h⟩⟩)))
    ·refine bB d fun qt kf d=>?_
     refine AF (i:=0) (S:=(· < du.heap.size)) CD Tryz.underlying26 rfl rfl rfl bf bg rfl (bg.own_ro (i:=2) rfl) kf fun qu kg kh bz gc ki=>?_
     have gd:=bh.wr' bz.1 bz.2.1 (fun b hlt hb=>absurd hlt (AK.2 (ao b hb)))
     have ge:∀ b ∈ kg,y.heap.size ≤ b:=fun b hb=>(bz.2.2 b hb).elim (ao b) fun h=>Aw bx h
     have kj:=Aw bx bz.1
     refine Ah (Am gd (Av 14 rfl (Bc (vs:=[(.agg #[(iv v),(iv x)])]) (l:=[(v,x)]) CD Tryz.underlying26 rfl rfl rfl rfl rfl rfl (Bf kh) (Sep.nil _ _) fun dv dw kk b1 _ kl=>?_)))
     have km:=tm gc b1
     have gf:=ki.join b1 kl gc.size
     have gg:=gd.ext b1
     have gh:=Aw kj b1.size
     refine Ah (Am gg (Av 15 rfl (bB d fun dx kn d=>(AF (i:=1) (S:=(· < kk.heap.size)) CD Tryz.underlying26 rfl rfl rfl km gf rfl (gf.own_ro (i:=0) rfl) kn fun dy b2 ko b3 gi dz=>?_))))
     have gj:=gg.wr' b3.1 b3.2.1 (fun b hlt hb=>absurd hlt (AK.2 (ge b hb)))
     have gk:∀ b ∈ b2,y.heap.size ≤ b:=fun b hb=>(b3.2.2 b hb).elim (ge b) fun h=>Aw gh h
     have kp:=Aw gh b3.1
     refine Ah (Am gj (Av 16 rfl (bB d fun ap kq d=>(A7 rfl Tryz.call111 (DI ko dx dy b2 (dz.sel [1] rfl).base0 _ kq) rfl ?_))))
     rintro _ d0 ⟨bi,aq,rfl,kr,b4⟩
     refine ⟨_,rfl,?_⟩
     have gl:=dz.takeB [1] rfl (M:=[Ab Ao b2 dy dx]) rfl gi kr b4
     have ks:Sp (wE g) d0 [Ab Ao aq bi ap.1,Ab Ao dw dv [(v,x)],A5 f 76 [ad,ae,(iv c.2.2.1),af,ag,ah],Ab Ao p ad c.1,Ab Ao q ae c.2.1,Ab BN s af c.2.2.2.1,Ab Az t ag c.2.2.2.2.1,Ab Ch u ah c.2.2.2.2.2,A6 g (Be [A2 AR 76 aa f c,Ab Ar n m k]),Ab Ar n m k]:=dz.take [1] [0,2,3,4,5,6,7,8,9] rfl (M:=[Ab Ao b2 dy dx]) rfl b4 gi.size
     have kt:∀ b ∈ aq,y.heap.size ≤ b:=fun b hb=>(KI b4 (i:=0) rfl b hb).elim ((BQ (gk) CV) b) fun h=>Aw kp h
     have b5:=gj.tk b4 (BQ (fun b hb hlt=>absurd hlt (AK.2 (gk b hb))) CV)
     refine Ah (Am b5 (Ad 17 rfl o b5 (AV rfl rfl rfl (Ad 18 rfl o b5 (AV rfl rfl rfl (Av 19 rfl ?_))))))
     have d1:Sp (wE g) d0 [A2 AR 76 ([p,q,s,t,u].flatten) f c,Ab Ao aq bi ap.1,Ab Ao dw dv [(v,x)],A6 g (Be [A2 AR 76 aa f c,Ab Ar n m k]),Ab Ar n m k]:=Dt (ks.sel [2,3,4,5,6,7,0,1,8,9] rfl)
     refine bB d fun d2 ku d=>A7 rfl Tryz.call110 (C3 d0 c f ([p,q,s,t,u].flatten) ap.1 bi aq ap.2 (d1.sel [0,1] rfl).base0 _ ku) rfl ?_
     rintro _ kv ⟨gm,rfl,kw,d3⟩
     refine ⟨_,rfl,?_⟩
     have kx:=d1.takeB [0,1] rfl (M:=[A2 AR 76 ([p,q,s,t,u].flatten) f c,Ab Ao aq bi ap.1]) rfl gl kw d3
     have ky:Sp (wE g) kv [A2 AR 76 gm f d2.2,Ab Ao dw dv [(v,x)],A6 g (Be [A2 AR 76 aa f c,Ab Ar n m k]),Ab Ar n m k]:=d1.take [0,1] [2,3,4] rfl (M:=[A2 AR 76 ([p,q,s,t,u].flatten) f c,Ab Ao aq bi ap.1]) rfl d3 gl.size
     have gn:=b5.tk d3 (BQ (Pr (fun b hb hlt=>(fun _ _ h=>At _ (At _ (At _ (At _ (At _ (h)))))) b hlt hb) (Bt (fun b hb hlt=>(fun _ _ h=>At _ (At _ (At _ (At _ (Bi _ h))))) b hlt hb) (Bt (fun b hb hlt=>(fun _ _ h=>At _ (At _ (At _ (Bi _ h)))) b hlt hb) (Bt (fun b hb hlt=>(fun _ _ h=>At _ (At _ (Bi _ h))) b hlt hb) (Bt (fun b hb hlt=>(fun _ _ h=>At _ (Bi _ h)) b hlt hb) (Bt (fun b hb hlt=>(fun _ _ h=>Bi _ h) b hlt hb) Iu)))))) (BQ (fun b hb hlt=>absurd hlt (AK.2 (kt b hb))) CV))
     refine Ah (Am gn (Ad 20 rfl o gn (AC rfl rfl (Ba ?_))))
     exact jx (ak (d2.2) (d2.1) gm _ d kx (ky.sel [2,0] rfl)) rfl
    ·refine Bc (vs:=[(.agg #[(iv v),(iv x)])]) (l:=[(v,x)]) CD Tryz.underlying26 rfl rfl rfl rfl rfl rfl (Bf du) (Sep.nil _ _) fun d4 d5 kz b6 _ k0=>?_
     have k1:=tm bf b6
     have go:=bg.join b6 k0 bf.size
     have gp:=bh.ext b6
     have gq:=Aw bx b6.size
     refine Ah (Am gp (Av 6 rfl (bB d fun qv k2 d=>(AF (i:=1) (S:=(· < kz.heap.size)) CD Tryz.underlying26 rfl rfl rfl k1 go rfl (go.own_ro (i:=3) rfl) k2 fun qw k3 k4 b7 k5 gr=>?_))))
     have gs:=gp.wr' b7.1 b7.2.1 (fun b hlt hb=>absurd hlt (AK.2 (ao b hb)))
     have gt:∀ b ∈ k3,y.heap.size ≤ b:=fun b hb=>(b7.2.2 b hb).elim (ao b) fun h=>Aw gq h
     have gu:=Aw gq b7.1
     refine Ah (Am gs (Av 15 rfl (bB d fun d6 k6 d=>(AF (i:=1) (S:=(· < k4.heap.size)) CD Tryz.underlying26 rfl rfl rfl k5 gr rfl (gr.own_ro (i:=0) rfl) k6 fun d7 b8 k7 b9 gv d8=>?_))))
     have gw:=gs.wr' b9.1 b9.2.1 (fun b hlt hb=>absurd hlt (AK.2 (gt b hb)))
     have gx:∀ b ∈ b8,y.heap.size ≤ b:=fun b hb=>(b9.2.2 b hb).elim (gt b) fun h=>Aw gu h
     have k8:=Aw gu b9.1
     refine Ah (Am gw (Av 16 rfl (bB d fun ar k9 d=>(A7 rfl Tryz.call111 (DI k7 d6 d7 b8 (d8.sel [1] rfl).base0 _ k9) rfl ?_))))
     rintro _ d9 ⟨bj,au,rfl,la,ca⟩
     refine ⟨_,rfl,?_⟩
     have gy:=d8.takeB [1] rfl (M:=[Ab Ao b8 d7 d6]) rfl gv la ca
     have lb:Sp (wE g) d9 [Ab Ao au bj ar.1,Ab Ao d5 d4 [(v,x)],A5 f 76 [ad,ae,(iv c.2.2.1),af,ag,ah],Ab Ao p ad c.1,Ab Ao q ae c.2.1,Ab BN s af c.2.2.2.1,Ab Az t ag c.2.2.2.2.1,Ab Ch u ah c.2.2.2.2.2,A6 g (Be [A2 AR 76 aa f c,Ab Ar n m k]),Ab Ar n m k]:=d8.take [1] [0,2,3,4,5,6,7,8,9] rfl (M:=[Ab Ao b8 d7 d6]) rfl ca gv.size
     have lc:∀ b ∈ au,y.heap.size ≤ b:=fun b hb=>(KI ca (i:=0) rfl b hb).elim ((BQ (gx) CV) b) fun h=>Aw k8 h
     have cb:=gw.tk ca (BQ (fun b hb hlt=>absurd hlt (AK.2 (gx b hb))) CV)
     refine Ah (Am cb (Ad 17 rfl o cb (AV rfl rfl rfl (Ad 18 rfl o cb (AV rfl rfl rfl (Av 19 rfl ?_))))))
     have ea:Sp (wE g) d9 [A2 AR 76 ([p,q,s,t,u].flatten) f c,Ab Ao au bj ar.1,Ab Ao d5 d4 [(v,x)],A6 g (Be [A2 AR 76 aa f c,Ab Ar n m k]),Ab Ar n m k]:=Dt (lb.sel [2,3,4,5,6,7,0,1,8,9] rfl)
     refine bB d fun eb ld d=>A7 rfl Tryz.call110 (C3 d9 c f ([p,q,s,t,u].flatten) ar.1 bj au ar.2 (ea.sel [0,1] rfl).base0 _ ld) rfl ?_
     rintro _ le ⟨gz,rfl,lf,ec⟩
     refine ⟨_,rfl,?_⟩
     have lg:=ea.takeB [0,1] rfl (M:=[A2 AR 76 ([p,q,s,t,u].flatten) f c,Ab Ao au bj ar.1]) rfl gy lf ec
     have lh:Sp (wE g) le [A2 AR 76 gz f eb.2,Ab Ao d5 d4 [(v,x)],A6 g (Be [A2 AR 76 aa f c,Ab Ar n m k]),Ab Ar n m k]:=ea.take [0,1] [2,3,4] rfl (M:=[A2 AR 76 ([p,q,s,t,u].flatten) f c,Ab Ao au bj ar.1]) rfl ec gy.size
     have g0:=cb.tk ec (BQ (Pr (fun b hb hlt=>(fun _ _ h=>At _ (At _ (At _ (At _ (At _ (h)))))) b hlt hb) (Bt (fun b hb hlt=>(fun _ _ h=>At _ (At _ (At _ (At _ (Bi _ h))))) b hlt hb) (Bt (fun b hb hlt=>(fun _ _ h=>At _ (At _ (At _ (Bi _ h)))) b hlt hb) (Bt (fun b hb hlt=>(fun _ _ h=>At _ (At _ (Bi _ h))) b hlt hb) (Bt (fun b hb hlt=>(fun _ _ h=>At _ (Bi _ h)) b hlt hb) (Bt (fun b hb hlt=>(fun _ _ h=>Bi _ h) b hlt hb) Iu)))))) (BQ (fun b hb hlt=>absurd hlt (AK.2 (lc b hb))) CV))
     refine Ah (Am g0 (Ad 20 rfl o g0 (AC rfl rfl (Ba ?_))))
     exact jx (ak (eb.2) (eb.1) gz _ d lg (lh.sel [2,0] rfl)) rfl
   ·refine Bc (vs:=[(.agg #[(iv v),(iv x)])]) (l:=[(v,x)]) CD Tryz.underlying26 rfl rfl rfl rfl rfl rfl (Bf du) (Sep.nil _ _) fun ed ee li cc _ lj=>?_
    have lk:=tm bf cc
    have ef:=bg.join cc lj bf.size
    have eg:=bh.ext cc
    have g1:=Aw bx cc.size
    refine Ah (Am eg (Av 5 rfl (AO 2 Cm rfl ef rfl rfl (Ah (Am eg (Av 6 rfl (bB d fun qx ll d=>(AF (i:=1) (S:=(· < li.heap.size)) CD Tryz.underlying26 rfl rfl rfl lk ef rfl (ef.own_ro (i:=3) rfl) ll fun qy lm ln cd lo g2=>?_))))))))
    have g3:=eg.wr' cd.1 cd.2.1 (fun b hlt hb=>absurd hlt (AK.2 (ao b hb)))
    have g4:∀ b ∈ lm,y.heap.size ≤ b:=fun b hb=>(cd.2.2 b hb).elim (ao b) fun h=>Aw g1 h
    have g5:=Aw g1 cd.1
    refine Ah (Am g3 (Av 15 rfl (bB d fun eh lp d=>(AF (i:=1) (S:=(· < ln.heap.size)) CD Tryz.underlying26 rfl rfl rfl lo g2 rfl (g2.own_ro (i:=0) rfl) lp fun ei ce lq cf g6 ej=>?_))))
    have g7:=g3.wr' cf.1 cf.2.1 (fun b hlt hb=>absurd hlt (AK.2 (g4 b hb)))
    have g8:∀ b ∈ ce,y.heap.size ≤ b:=fun b hb=>(cf.2.2 b hb).elim (g4 b) fun h=>Aw g5 h
    have lr:=Aw g5 cf.1
    refine Ah (Am g7 (Av 16 rfl (bB d fun av ls d=>(A7 rfl Tryz.call111 (DI lq eh ei ce (ej.sel [1] rfl).base0 _ ls) rfl ?_))))
    rintro _ ek ⟨bk,aw,rfl,lt,cg⟩
    refine ⟨_,rfl,?_⟩
    have g9:=ej.takeB [1] rfl (M:=[Ab Ao ce ei eh]) rfl g6 lt cg
    have lu:Sp (wE g) ek [Ab Ao aw bk av.1,Ab Ao ee ed [(v,x)],A5 f 76 [ad,ae,(iv c.2.2.1),af,ag,ah],Ab Ao p ad c.1,Ab Ao q ae c.2.1,Ab BN s af c.2.2.2.1,Ab Az t ag c.2.2.2.2.1,Ab Ch u ah c.2.2.2.2.2,A6 g (Be [A2 AR 76 aa f c,Ab Ar n m k]),Ab Ar n m k]:=ej.take [1] [0,2,3,4,5,6,7,8,9] rfl (M:=[Ab Ao ce ei eh]) rfl cg g6.size
    have lv:∀ b ∈ aw,y.heap.size ≤ b:=fun b hb=>(KI cg (i:=0) rfl b hb).elim ((BQ (g8) CV) b) fun h=>Aw lr h
    have ch:=g7.tk cg (BQ (fun b hb hlt=>absurd hlt (AK.2 (g8 b hb))) CV)
    refine Ah (Am ch (Ad 17 rfl o ch (AV rfl rfl rfl (Ad 18 rfl o ch (AV rfl rfl rfl (Av 19 rfl ?_))))))
    have el:Sp (wE g) ek [A2 AR 76 ([p,q,s,t,u].flatten) f c,Ab Ao aw bk av.1,Ab Ao ee ed [(v,x)],A6 g (Be [A2 AR 76 aa f c,Ab Ar n m k]),Ab Ar n m k]:=Dt (lu.sel [2,3,4,5,6,7,0,1,8,9] rfl)
    refine bB d fun em lw d=>A7 rfl Tryz.call110 (C3 ek c f ([p,q,s,t,u].flatten) av.1 bk aw av.2 (el.sel [0,1] rfl).base0 _ lw) rfl ?_
    rintro _ lx ⟨ha,rfl,ly,en⟩
    refine ⟨_,rfl,?_⟩
    have lz:=el.takeB [0,1] rfl (M:=[A2 AR 76 ([p,q,s,t,u].flatten) f c,Ab Ao aw bk av.1]) rfl g9 ly en
    have l0:Sp (wE g) lx [A2 AR 76 ha f em.2,Ab Ao ee ed [(v,x)],A6 g (Be [A2 AR 76 aa f c,Ab Ar n m k]),Ab Ar n m k]:=el.take [0,1] [2,3,4] rfl (M:=[A2 AR 76 ([p,q,s,t,u].flatten) f c,Ab Ao aw bk av.1]) rfl en g9.size
    have hc:=ch.tk en (BQ (Pr (fun b hb hlt=>(fun _ _ h=>At _ (At _ (At _ (At _ (At _ (h)))))) b hlt hb) (Bt (fun b hb hlt=>(fun _ _ h=>At _ (At _ (At _ (At _ (Bi _ h))))) b hlt hb) (Bt (fun b hb hlt=>(fun _ _ h=>At _ (At _ (At _ (Bi _ h)))) b hlt hb) (Bt (fun b hb hlt=>(fun _ _ h=>At _ (At _ (Bi _ h))) b hlt hb) (Bt (fun b hb hlt=>(fun _ _ h=>At _ (Bi _ h)) b hlt hb) (Bt (fun b hb hlt=>(fun _ _ h=>Bi _ h) b hlt hb) Iu)))))) (BQ (fun b hb hlt=>absurd hlt (AK.2 (lv b hb))) CV))
    refine Ah (Am hc (Ad 20 rfl o hc (AC rfl rfl (Ba ?_))))
    exact jx (ak (em.2) (em.1) ha _ d lz (l0.sel [2,0] rfl)) rfl
  ·refine AO 0 Cm rfl ac rfl rfl ?_
   refine Ah (Am ai (C0 (is:=[1,14]) (by kernel_rfl) rfl (Bb.2 ⟨⟨_,rfl,?_⟩,Bb.2 ⟨⟨_,rfl,?_⟩,fun _ h=>by cases h⟩⟩)))
   ·refine Bc (vs:=[]) (l:=[]) CD Tryz.underlying26 rfl rfl rfl rfl rfl rfl (Bf y) (Sep.nil _ _) fun qz l1 hd ci _ he=>?_
    have eo:=tm al ci
    have ep:=ac.join ci he al.size
    have cj:∀ b ∈ l1,y.heap.size ≤ b:=fun b hb=>Aw (Nat.le_refl y.heap.size) ((he.1 _ (List.mem_cons_self ..)).2.1 b hb).1
    have eq:=ai.ext ci
    have er:=Aw (Nat.le_refl y.heap.size) ci.size
    refine Ah (Am eq (C0 (is:=[6,14]) (by kernel_rfl) rfl (Bb.2 ⟨⟨_,rfl,?_⟩,Bb.2 ⟨⟨_,rfl,?_⟩,fun _ h=>by cases h⟩⟩)))
    ·refine bB d fun q0 l2 d=>?_
     refine AF (i:=0) (S:=(· < hd.heap.size)) CD Tryz.underlying26 rfl rfl rfl eo ep rfl (ep.own_ro (i:=2) rfl) l2 fun q1 l3 l4 ck hf l5=>?_
     have hg:=eq.wr' ck.1 ck.2.1 (fun b hlt hb=>absurd hlt (AK.2 (cj b hb)))
     have hh:∀ b ∈ l3,y.heap.size ≤ b:=fun b hb=>(ck.2.2 b hb).elim (cj b) fun h=>Aw er h
     have l6:=Aw er ck.1
     refine Ah (Am hg (Av 14 rfl (Bc (vs:=[(.agg #[(iv v),(iv x)])]) (l:=[(v,x)]) CD Tryz.underlying26 rfl rfl rfl rfl rfl rfl (Bf l4) (Sep.nil _ _) fun es et l7 cl _ l8=>?_)))
     have l9:=tm hf cl
     have hi:=l5.join cl l8 hf.size
     have hj:=hg.ext cl
     have hk:=Aw l6 cl.size
     refine Ah (Am hj (Av 15 rfl (bB d fun eu ma d=>(AF (i:=1) (S:=(· < l7.heap.size)) CD Tryz.underlying26 rfl rfl rfl l9 hi rfl (hi.own_ro (i:=0) rfl) ma fun ev cm mb cn hl ew=>?_))))
     have hm:=hj.wr' cn.1 cn.2.1 (fun b hlt hb=>absurd hlt (AK.2 (hh b hb)))
     have hn:∀ b ∈ cm,y.heap.size ≤ b:=fun b hb=>(cn.2.2 b hb).elim (hh b) fun h=>Aw hk h
     have mc:=Aw hk cn.1
     refine Ah (Am hm (Av 16 rfl (bB d fun ax md d=>(A7 rfl Tryz.call111 (DI mb eu ev cm (ew.sel [1] rfl).base0 _ md) rfl ?_))))
     rintro _ ex ⟨bl,ay,rfl,me,co⟩
     refine ⟨_,rfl,?_⟩
     have ho:=ew.takeB [1] rfl (M:=[Ab Ao cm ev eu]) rfl hl me co
     have mf:Sp (wE g) ex [Ab Ao ay bl ax.1,Ab Ao et es [(v,x)],A5 f 76 [ad,ae,(iv c.2.2.1),af,ag,ah],Ab Ao p ad c.1,Ab Ao q ae c.2.1,Ab BN s af c.2.2.2.1,Ab Az t ag c.2.2.2.2.1,Ab Ch u ah c.2.2.2.2.2,A6 g (Be [A2 AR 76 aa f c,Ab Ar n m k]),Ab Ar n m k]:=ew.take [1] [0,2,3,4,5,6,7,8,9] rfl (M:=[Ab Ao cm ev eu]) rfl co hl.size
     have mg:∀ b ∈ ay,y.heap.size ≤ b:=fun b hb=>(KI co (i:=0) rfl b hb).elim ((BQ (hn) CV) b) fun h=>Aw mc h
     have cp:=hm.tk co (BQ (fun b hb hlt=>absurd hlt (AK.2 (hn b hb))) CV)
     refine Ah (Am cp (Ad 17 rfl o cp (AV rfl rfl rfl (Ad 18 rfl o cp (AV rfl rfl rfl (Av 19 rfl ?_))))))
     have ey:Sp (wE g) ex [A2 AR 76 ([p,q,s,t,u].flatten) f c,Ab Ao ay bl ax.1,Ab Ao et es [(v,x)],A6 g (Be [A2 AR 76 aa f c,Ab Ar n m k]),Ab Ar n m k]:=Dt (mf.sel [2,3,4,5,6,7,0,1,8,9] rfl)
     refine bB d fun ez mh d=>A7 rfl Tryz.call110 (C3 ex c f ([p,q,s,t,u].flatten) ax.1 bl ay ax.2 (ey.sel [0,1] rfl).base0 _ mh) rfl ?_
     rintro _ mi ⟨hp,rfl,mj,e0⟩
     refine ⟨_,rfl,?_⟩
     have mk:=ey.takeB [0,1] rfl (M:=[A2 AR 76 ([p,q,s,t,u].flatten) f c,Ab Ao ay bl ax.1]) rfl ho mj e0
     have ml:Sp (wE g) mi [A2 AR 76 hp f ez.2,Ab Ao et es [(v,x)],A6 g (Be [A2 AR 76 aa f c,Ab Ar n m k]),Ab Ar n m k]:=ey.take [0,1] [2,3,4] rfl (M:=[A2 AR 76 ([p,q,s,t,u].flatten) f c,Ab Ao ay bl ax.1]) rfl e0 ho.size
     have hq:=cp.tk e0 (BQ (Pr (fun b hb hlt=>(fun _ _ h=>At _ (At _ (At _ (At _ (At _ (h)))))) b hlt hb) (Bt (fun b hb hlt=>(fun _ _ h=>At _ (At _ (At _ (At _ (Bi _ h))))) b hlt hb) (Bt (fun b hb hlt=>(fun _ _ h=>At _ (At _ (At _ (Bi _ h)))) b hlt hb) (Bt (fun b hb hlt=>(fun _ _ h=>At _ (At _ (Bi _ h))) b hlt hb) (Bt (fun b hb hlt=>(fun _ _ h=>At _ (Bi _ h)) b hlt hb) (Bt (fun b hb hlt=>(fun _ _ h=>Bi _ h) b hlt hb) Iu)))))) (BQ (fun b hb hlt=>absurd hlt (AK.2 (mg b hb))) CV))
     refine Ah (Am hq (Ad 20 rfl o hq (AC rfl rfl (Ba ?_))))
     exact jx (ak (ez.2) (ez.1) hp _ d mk (ml.sel [2,0] rfl)) rfl
    ·refine Bc (vs:=[(.agg #[(iv v),(iv x)])]) (l:=[(v,x)]) CD Tryz.underlying26 rfl rfl rfl rfl rfl rfl (Bf hd) (Sep.nil _ _) fun e1 e2 mm cq _ mn=>?_
     have mo:=tm eo cq
     have hr:=ep.join cq mn eo.size
     have hs:=eq.ext cq
     have ht:=Aw er cq.size
     refine Ah (Am hs (Av 6 rfl (bB d fun q2 mp d=>(AF (i:=1) (S:=(· < mm.heap.size)) CD Tryz.underlying26 rfl rfl rfl mo hr rfl (hr.own_ro (i:=3) rfl) mp fun q3 mq mr cr ms hu=>?_))))
     have hv:=hs.wr' cr.1 cr.2.1 (fun b hlt hb=>absurd hlt (AK.2 (cj b hb)))
     have hx:∀ b ∈ mq,y.heap.size ≤ b:=fun b hb=>(cr.2.2 b hb).elim (cj b) fun h=>Aw ht h
     have hy:=Aw ht cr.1
     refine Ah (Am hv (Av 15 rfl (bB d fun e3 mt d=>(AF (i:=1) (S:=(· < mr.heap.size)) CD Tryz.underlying26 rfl rfl rfl ms hu rfl (hu.own_ro (i:=0) rfl) mt fun e4 cs mu ct hz e5=>?_))))
     have h1:=hv.wr' ct.1 ct.2.1 (fun b hlt hb=>absurd hlt (AK.2 (hx b hb)))
     have h2:∀ b ∈ cs,y.heap.size ≤ b:=fun b hb=>(ct.2.2 b hb).elim (hx b) fun h=>Aw hy h
     have mv:=Aw hy ct.1
     refine Ah (Am h1 (Av 16 rfl (bB d fun az mw d=>(A7 rfl Tryz.call111 (DI mu e3 e4 cs (e5.sel [1] rfl).base0 _ mw) rfl ?_))))
     rintro _ e6 ⟨bm,a0,rfl,mx,cu⟩
     refine ⟨_,rfl,?_⟩
     have h3:=e5.takeB [1] rfl (M:=[Ab Ao cs e4 e3]) rfl hz mx cu
     have my:Sp (wE g) e6 [Ab Ao a0 bm az.1,Ab Ao e2 e1 [(v,x)],A5 f 76 [ad,ae,(iv c.2.2.1),af,ag,ah],Ab Ao p ad c.1,Ab Ao q ae c.2.1,Ab BN s af c.2.2.2.1,Ab Az t ag c.2.2.2.2.1,Ab Ch u ah c.2.2.2.2.2,A6 g (Be [A2 AR 76 aa f c,Ab Ar n m k]),Ab Ar n m k]:=e5.take [1] [0,2,3,4,5,6,7,8,9] rfl (M:=[Ab Ao cs e4 e3]) rfl cu hz.size
     have mz:∀ b ∈ a0,y.heap.size ≤ b:=fun b hb=>(KI cu (i:=0) rfl b hb).elim ((BQ (h2) CV) b) fun h=>Aw mv h
     have cv:=h1.tk cu (BQ (fun b hb hlt=>absurd hlt (AK.2 (h2 b hb))) CV)
     refine Ah (Am cv (Ad 17 rfl o cv (AV rfl rfl rfl (Ad 18 rfl o cv (AV rfl rfl rfl (Av 19 rfl ?_))))))
     have e7:Sp (wE g) e6 [A2 AR 76 ([p,q,s,t,u].flatten) f c,Ab Ao a0 bm az.1,Ab Ao e2 e1 [(v,x)],A6 g (Be [A2 AR 76 aa f c,Ab Ar n m k]),Ab Ar n m k]:=Dt (my.sel [2,3,4,5,6,7,0,1,8,9] rfl)
     refine bB d fun e8 m0 d=>A7 rfl Tryz.call110 (C3 e6 c f ([p,q,s,t,u].flatten) az.1 bm a0 az.2 (e7.sel [0,1] rfl).base0 _ m0) rfl ?_
     rintro _ m1 ⟨h4,rfl,m2,e9⟩
     refine ⟨_,rfl,?_⟩
     have m3:=e7.takeB [0,1] rfl (M:=[A2 AR 76 ([p,q,s,t,u].flatten) f c,Ab Ao a0 bm az.1]) rfl h3 m2 e9
     have m4:Sp (wE g) m1 [A2 AR 76 h4 f e8.2,Ab Ao e2 e1 [(v,x)],A6 g (Be [A2 AR 76 aa f c,Ab Ar n m k]),Ab Ar n m k]:=e7.take [0,1] [2,3,4] rfl (M:=[A2 AR 76 ([p,q,s,t,u].flatten) f c,Ab Ao a0 bm az.1]) rfl e9 h3.size
     have h5:=cv.tk e9 (BQ (Pr (fun b hb hlt=>(fun _ _ h=>At _ (At _ (At _ (At _ (At _ (h)))))) b hlt hb) (Bt (fun b hb hlt=>(fun _ _ h=>At _ (At _ (At _ (At _ (Bi _ h))))) b hlt hb) (Bt (fun b hb hlt=>(fun _ _ h=>At _ (At _ (At _ (Bi _ h)))) b hlt hb) (Bt (fun b hb hlt=>(fun _ _ h=>At _ (At _ (Bi _ h))) b hlt hb) (Bt (fun b hb hlt=>(fun _ _ h=>At _ (Bi _ h)) b hlt hb) (Bt (fun b hb hlt=>(fun _ _ h=>Bi _ h) b hlt hb) Iu)))))) (BQ (fun b hb hlt=>absurd hlt (AK.2 (mz b hb))) CV))
     refine Ah (Am h5 (Ad 20 rfl o h5 (AC rfl rfl (Ba ?_))))
     exact jx (ak (e8.2) (e8.1) h4 _ d m3 (m4.sel [2,0] rfl)) rfl
   ·refine Bc (vs:=[(.agg #[(iv v),(iv x)])]) (l:=[(v,x)]) CD Tryz.underlying26 rfl rfl rfl rfl rfl rfl (Bf y) (Sep.nil _ _) fun fa fb m5 cw _ m6=>?_
    have h6:=tm al cw
    have m7:=ac.join cw m6 al.size
    have h7:=ai.ext cw
    have h8:=Aw (Nat.le_refl y.heap.size) cw.size
    refine Ah (Am h7 (Av 1 rfl (Bc (vs:=[]) (l:=[]) CD Tryz.underlying26 rfl rfl rfl rfl rfl rfl (Bf m5) (Sep.nil _ _) fun q4 m8 m9 cx _ h9=>?_)))
    have na:=tm h6 cx
    have ia:=m7.join cx h9 h6.size
    have ib:∀ b ∈ m8,y.heap.size ≤ b:=fun b hb=>Aw h8 ((h9.1 _ (List.mem_cons_self ..)).2.1 b hb).1
    have ic:=h7.ext cx
    have ie:=Aw h8 cx.size
    refine Ah (Am ic (Av 6 rfl (bB d fun q5 nb d=>(AF (i:=0) (S:=(· < m9.heap.size)) CD Tryz.underlying26 rfl rfl rfl na ia rfl (ia.own_ro (i:=3) rfl) nb fun q6 nc nd cy ne ig=>?_))))
    have ih:=ic.wr' cy.1 cy.2.1 (fun b hlt hb=>absurd hlt (AK.2 (ib b hb)))
    have ii:∀ b ∈ nc,y.heap.size ≤ b:=fun b hb=>(cy.2.2 b hb).elim (ib b) fun h=>Aw ie h
    have ij:=Aw ie cy.1
    refine Ah (Am ih (Av 15 rfl (bB d fun fc nf d=>(AF (i:=0) (S:=(· < nd.heap.size)) CD Tryz.underlying26 rfl rfl rfl ne ig rfl (ig.own_ro (i:=1) rfl) nf fun fd cz ng c0 ik fe=>?_))))
    have il:=ih.wr' c0.1 c0.2.1 (fun b hlt hb=>absurd hlt (AK.2 (ii b hb)))
    have im:∀ b ∈ cz,y.heap.size ≤ b:=fun b hb=>(c0.2.2 b hb).elim (ii b) fun h=>Aw ij h
    have nh:=Aw ij c0.1
    refine Ah (Am il (Av 16 rfl (bB d fun a1 ni d=>(A7 rfl Tryz.call111 (DI ng fc fd cz (fe.sel [0] rfl).base0 _ ni) rfl ?_))))
    rintro _ ff ⟨bn,a2,rfl,nj,c1⟩
    refine ⟨_,rfl,?_⟩
    have io:=fe.takeB [0] rfl (M:=[Ab Ao cz fd fc]) rfl ik nj c1
    have nk:Sp (wE g) ff [Ab Ao a2 bn a1.1,Ab Ao fb fa [(v,x)],A5 f 76 [ad,ae,(iv c.2.2.1),af,ag,ah],Ab Ao p ad c.1,Ab Ao q ae c.2.1,Ab BN s af c.2.2.2.1,Ab Az t ag c.2.2.2.2.1,Ab Ch u ah c.2.2.2.2.2,A6 g (Be [A2 AR 76 aa f c,Ab Ar n m k]),Ab Ar n m k]:=fe.take [0] [1,2,3,4,5,6,7,8,9] rfl (M:=[Ab Ao cz fd fc]) rfl c1 ik.size
    have nl:∀ b ∈ a2,y.heap.size ≤ b:=fun b hb=>(KI c1 (i:=0) rfl b hb).elim ((BQ (im) CV) b) fun h=>Aw nh h
    have c2:=il.tk c1 (BQ (fun b hb hlt=>absurd hlt (AK.2 (im b hb))) CV)
    refine Ah (Am c2 (Ad 17 rfl o c2 (AV rfl rfl rfl (Ad 18 rfl o c2 (AV rfl rfl rfl (Av 19 rfl ?_))))))
    have fg:Sp (wE g) ff [A2 AR 76 ([p,q,s,t,u].flatten) f c,Ab Ao a2 bn a1.1,Ab Ao fb fa [(v,x)],A6 g (Be [A2 AR 76 aa f c,Ab Ar n m k]),Ab Ar n m k]:=Dt (nk.sel [2,3,4,5,6,7,0,1,8,9] rfl)
    refine bB d fun fh nm d=>A7 rfl Tryz.call110 (C3 ff c f ([p,q,s,t,u].flatten) a1.1 bn a2 a1.2 (fg.sel [0,1] rfl).base0 _ nm) rfl ?_
    rintro _ nn ⟨ip,rfl,no,fi⟩
    refine ⟨_,rfl,?_⟩
    have np:=fg.takeB [0,1] rfl (M:=[A2 AR 76 ([p,q,s,t,u].flatten) f c,Ab Ao a2 bn a1.1]) rfl io no fi
    have nq:Sp (wE g) nn [A2 AR 76 ip f fh.2,Ab Ao fb fa [(v,x)],A6 g (Be [A2 AR 76 aa f c,Ab Ar n m k]),Ab Ar n m k]:=fg.take [0,1] [2,3,4] rfl (M:=[A2 AR 76 ([p,q,s,t,u].flatten) f c,Ab Ao a2 bn a1.1]) rfl fi io.size
    have iq:=c2.tk fi (BQ (Pr (fun b hb hlt=>(fun _ _ h=>At _ (At _ (At _ (At _ (At _ (h)))))) b hlt hb) (Bt (fun b hb hlt=>(fun _ _ h=>At _ (At _ (At _ (At _ (Bi _ h))))) b hlt hb) (Bt (fun b hb hlt=>(fun _ _ h=>At _ (At _ (At _ (Bi _ h)))) b hlt hb) (Bt (fun b hb hlt=>(fun _ _ h=>At _ (At _ (Bi _ h))) b hlt hb) (Bt (fun b hb hlt=>(fun _ _ h=>At _ (Bi _ h)) b hlt hb) (Bt (fun b hb hlt=>(fun _ _ h=>Bi _ h) b hlt hb) Iu)))))) (BQ (fun b hb hlt=>absurd hlt (AK.2 (nl b hb))) CV))
    refine Ah (Am iq (Ad 20 rfl o iq (AC rfl rfl (Ba ?_))))
    exact jx (ak (fh.2) (fh.1) ip _ d np (nq.sel [2,0] rfl)) rfl
  ·refine Bc (vs:=[(.agg #[(iv v),(iv x)])]) (l:=[(v,x)]) CD Tryz.underlying26 rfl rfl rfl rfl rfl rfl (Bf y) (Sep.nil _ _) fun a3 a4 ir c3 _ nr=>?_
   have c4:=tm al c3
   have fj:=ac.join c3 nr al.size
   have c5:=ai.ext c3
   have c6:=Aw (Nat.le_refl y.heap.size) c3.size
   refine Ah (Am c5 (C0 (is:=[1,5]) (by kernel_rfl) rfl (Bb.2 ⟨⟨_,rfl,?_⟩,Bb.2 ⟨⟨_,rfl,?_⟩,fun _ h=>by cases h⟩⟩)))
   ·refine Bc (vs:=[]) (l:=[]) CD Tryz.underlying26 rfl rfl rfl rfl rfl rfl (Bf ir) (Sep.nil _ _) fun q7 ns nt c7 _ it=>?_
    have nu:=tm c4 c7
    have fk:=fj.join c7 it c4.size
    have iu:∀ b ∈ ns,y.heap.size ≤ b:=fun b hb=>Aw c6 ((it.1 _ (List.mem_cons_self ..)).2.1 b hb).1
    have fl:=c5.ext c7
    have iw:=Aw c6 c7.size
    refine Ah (Am fl (Av 5 rfl (AO 2 Cm rfl fk rfl rfl (Ah (Am fl (Av 6 rfl (bB d fun q8 nv d=>(AF (i:=0) (S:=(· < nt.heap.size)) CD Tryz.underlying26 rfl rfl rfl nu fk rfl (fk.own_ro (i:=3) rfl) nv fun q9 nw nx c8 ny ix=>?_))))))))
    have iy:=fl.wr' c8.1 c8.2.1 (fun b hlt hb=>absurd hlt (AK.2 (iu b hb)))
    have iz:∀ b ∈ nw,y.heap.size ≤ b:=fun b hb=>(c8.2.2 b hb).elim (iu b) fun h=>Aw iw h
    have i0:=Aw iw c8.1
    refine Ah (Am iy (Av 15 rfl (bB d fun fm nz d=>(AF (i:=0) (S:=(· < nx.heap.size)) CD Tryz.underlying26 rfl rfl rfl ny ix rfl (ix.own_ro (i:=1) rfl) nz fun fn c9 n0 da i1 fo=>?_))))
    have i2:=iy.wr' da.1 da.2.1 (fun b hlt hb=>absurd hlt (AK.2 (iz b hb)))
    have i3:∀ b ∈ c9,y.heap.size ≤ b:=fun b hb=>(da.2.2 b hb).elim (iz b) fun h=>Aw i0 h
    have n1:=Aw i0 da.1
    refine Ah (Am i2 (Av 16 rfl (bB d fun a5 n2 d=>(A7 rfl Tryz.call111 (DI n0 fm fn c9 (fo.sel [0] rfl).base0 _ n2) rfl ?_))))
    rintro _ fp ⟨bo,a6,rfl,n3,db⟩
    refine ⟨_,rfl,?_⟩
    have i4:=fo.takeB [0] rfl (M:=[Ab Ao c9 fn fm]) rfl i1 n3 db
    have n4:Sp (wE g) fp [Ab Ao a6 bo a5.1,Ab Ao a4 a3 [(v,x)],A5 f 76 [ad,ae,(iv c.2.2.1),af,ag,ah],Ab Ao p ad c.1,Ab Ao q ae c.2.1,Ab BN s af c.2.2.2.1,Ab Az t ag c.2.2.2.2.1,Ab Ch u ah c.2.2.2.2.2,A6 g (Be [A2 AR 76 aa f c,Ab Ar n m k]),Ab Ar n m k]:=fo.take [0] [1,2,3,4,5,6,7,8,9] rfl (M:=[Ab Ao c9 fn fm]) rfl db i1.size
    have n5:∀ b ∈ a6,y.heap.size ≤ b:=fun b hb=>(KI db (i:=0) rfl b hb).elim ((BQ (i3) CV) b) fun h=>Aw n1 h
    have dc:=i2.tk db (BQ (fun b hb hlt=>absurd hlt (AK.2 (i3 b hb))) CV)
    refine Ah (Am dc (Ad 17 rfl o dc (AV rfl rfl rfl (Ad 18 rfl o dc (AV rfl rfl rfl (Av 19 rfl ?_))))))
    have fq:Sp (wE g) fp [A2 AR 76 ([p,q,s,t,u].flatten) f c,Ab Ao a6 bo a5.1,Ab Ao a4 a3 [(v,x)],A6 g (Be [A2 AR 76 aa f c,Ab Ar n m k]),Ab Ar n m k]:=Dt (n4.sel [2,3,4,5,6,7,0,1,8,9] rfl)
    refine bB d fun fr n6 d=>A7 rfl Tryz.call110 (C3 fp c f ([p,q,s,t,u].flatten) a5.1 bo a6 a5.2 (fq.sel [0,1] rfl).base0 _ n6) rfl ?_
    rintro _ n7 ⟨i5,rfl,n8,fs⟩
    refine ⟨_,rfl,?_⟩
    have n9:=fq.takeB [0,1] rfl (M:=[A2 AR 76 ([p,q,s,t,u].flatten) f c,Ab Ao a6 bo a5.1]) rfl i4 n8 fs
    have oa:Sp (wE g) n7 [A2 AR 76 i5 f fr.2,Ab Ao a4 a3 [(v,x)],A6 g (Be [A2 AR 76 aa f c,Ab Ar n m k]),Ab Ar n m k]:=fq.take [0,1] [2,3,4] rfl (M:=[A2 AR 76 ([p,q,s,t,u].flatten) f c,Ab Ao a6 bo a5.1]) rfl fs i4.size
    have i6:=dc.tk fs (BQ (Pr (fun b hb hlt=>(fun _ _ h=>At _ (At _ (At _ (At _ (At _ (h)))))) b hlt hb) (Bt (fun b hb hlt=>(fun _ _ h=>At _ (At _ (At _ (At _ (Bi _ h))))) b hlt hb) (Bt (fun b hb hlt=>(fun _ _ h=>At _ (At _ (At _ (Bi _ h)))) b hlt hb) (Bt (fun b hb hlt=>(fun _ _ h=>At _ (At _ (Bi _ h))) b hlt hb) (Bt (fun b hb hlt=>(fun _ _ h=>At _ (Bi _ h)) b hlt hb) (Bt (fun b hb hlt=>(fun _ _ h=>Bi _ h) b hlt hb) Iu)))))) (BQ (fun b hb hlt=>absurd hlt (AK.2 (n5 b hb))) CV))
    refine Ah (Am i6 (Ad 20 rfl o i6 (AC rfl rfl (Ba ?_))))
    exact jx (ak (fr.2) (fr.1) i5 _ d n9 (oa.sel [2,0] rfl)) rfl
   ·refine AO 1 Cm rfl fj rfl rfl ?_
    refine Ah (Am c5 (Av 1 rfl (Bc (vs:=[]) (l:=[]) CD Tryz.underlying26 rfl rfl rfl rfl rfl rfl (Bf ir) (Sep.nil _ _) fun ra ob oc dd _ i7=>?_)))
    have od:=tm c4 dd
    have i8:=fj.join dd i7 c4.size
    have i9:∀ b ∈ ob,y.heap.size ≤ b:=fun b hb=>Aw c6 ((i7.1 _ (List.mem_cons_self ..)).2.1 b hb).1
    have ja:=c5.ext dd
    have jb:=Aw c6 dd.size
    refine Ah (Am ja (Av 6 rfl (bB d fun rb oe d=>(AF (i:=0) (S:=(· < oc.heap.size)) CD Tryz.underlying26 rfl rfl rfl od i8 rfl (i8.own_ro (i:=3) rfl) oe fun rc og oh de oi jc=>?_))))
    have jd:=ja.wr' de.1 de.2.1 (fun b hlt hb=>absurd hlt (AK.2 (i9 b hb)))
    have je:∀ b ∈ og,y.heap.size ≤ b:=fun b hb=>(de.2.2 b hb).elim (i9 b) fun h=>Aw jb h
    have jf:=Aw jb de.1
    refine Ah (Am jd (Av 15 rfl (bB d fun ft oj d=>(AF (i:=0) (S:=(· < oh.heap.size)) CD Tryz.underlying26 rfl rfl rfl oi jc rfl (jc.own_ro (i:=1) rfl) oj fun fu df ok dg jg fv=>?_))))
    have jh:=jd.wr' dg.1 dg.2.1 (fun b hlt hb=>absurd hlt (AK.2 (je b hb)))
    have ji:∀ b ∈ df,y.heap.size ≤ b:=fun b hb=>(dg.2.2 b hb).elim (je b) fun h=>Aw jf h
    have ol:=Aw jf dg.1
    refine Ah (Am jh (Av 16 rfl (bB d fun a7 om d=>(A7 rfl Tryz.call111 (DI ok ft fu df (fv.sel [0] rfl).base0 _ om) rfl ?_))))
    rintro _ fw ⟨bp,a8,rfl,on,dh⟩
    refine ⟨_,rfl,?_⟩
    have jj:=fv.takeB [0] rfl (M:=[Ab Ao df fu ft]) rfl jg on dh
    have oo:Sp (wE g) fw [Ab Ao a8 bp a7.1,Ab Ao a4 a3 [(v,x)],A5 f 76 [ad,ae,(iv c.2.2.1),af,ag,ah],Ab Ao p ad c.1,Ab Ao q ae c.2.1,Ab BN s af c.2.2.2.1,Ab Az t ag c.2.2.2.2.1,Ab Ch u ah c.2.2.2.2.2,A6 g (Be [A2 AR 76 aa f c,Ab Ar n m k]),Ab Ar n m k]:=fv.take [0] [1,2,3,4,5,6,7,8,9] rfl (M:=[Ab Ao df fu ft]) rfl dh jg.size
    have op:∀ b ∈ a8,y.heap.size ≤ b:=fun b hb=>(KI dh (i:=0) rfl b hb).elim ((BQ (ji) CV) b) fun h=>Aw ol h
    have di:=jh.tk dh (BQ (fun b hb hlt=>absurd hlt (AK.2 (ji b hb))) CV)
    refine Ah (Am di (Ad 17 rfl o di (AV rfl rfl rfl (Ad 18 rfl o di (AV rfl rfl rfl (Av 19 rfl ?_))))))
    have fx:Sp (wE g) fw [A2 AR 76 ([p,q,s,t,u].flatten) f c,Ab Ao a8 bp a7.1,Ab Ao a4 a3 [(v,x)],A6 g (Be [A2 AR 76 aa f c,Ab Ar n m k]),Ab Ar n m k]:=Dt (oo.sel [2,3,4,5,6,7,0,1,8,9] rfl)
    refine bB d fun fy oq d=>A7 rfl Tryz.call110 (C3 fw c f ([p,q,s,t,u].flatten) a7.1 bp a8 a7.2 (fx.sel [0,1] rfl).base0 _ oq) rfl ?_
    rintro _ os ⟨jk,rfl,ot,fz⟩
    refine ⟨_,rfl,?_⟩
    have ou:=fx.takeB [0,1] rfl (M:=[A2 AR 76 ([p,q,s,t,u].flatten) f c,Ab Ao a8 bp a7.1]) rfl jj ot fz
    have ov:Sp (wE g) os [A2 AR 76 jk f fy.2,Ab Ao a4 a3 [(v,x)],A6 g (Be [A2 AR 76 aa f c,Ab Ar n m k]),Ab Ar n m k]:=fx.take [0,1] [2,3,4] rfl (M:=[A2 AR 76 ([p,q,s,t,u].flatten) f c,Ab Ao a8 bp a7.1]) rfl fz jj.size
    have jl:=di.tk fz (BQ (Pr (fun b hb hlt=>(fun _ _ h=>At _ (At _ (At _ (At _ (At _ (h)))))) b hlt hb) (Bt (fun b hb hlt=>(fun _ _ h=>At _ (At _ (At _ (At _ (Bi _ h))))) b hlt hb) (Bt (fun b hb hlt=>(fun _ _ h=>At _ (At _ (At _ (Bi _ h)))) b hlt hb) (Bt (fun b hb hlt=>(fun _ _ h=>At _ (At _ (Bi _ h))) b hlt hb) (Bt (fun b hb hlt=>(fun _ _ h=>At _ (Bi _ h)) b hlt hb) (Bt (fun b hb hlt=>(fun _ _ h=>Bi _ h) b hlt hb) Iu)))))) (BQ (fun b hb hlt=>absurd hlt (AK.2 (op b hb))) CV))
    refine Ah (Am jl (Ad 20 rfl o jl (AC rfl rfl (Ba ?_))))
    exact jx (ak (fy.2) (fy.1) jk _ d ou (ov.sel [2,0] rfl)) rfl
 ·refine Ak fun _ ow=>?_
  refine AP rfl rfl rfl (Aq 1 rfl (ow (A3 rfl d (fun _ d=>?_) (fun _ d=>?_))))
  ·refine Ap fun _ ox=>?_
   obtain ⟨oy,a9,rd,ba,re,bb,rf,bc,rg,bd,oz⟩:=Ir (hS.sel [1,0,2] rfl)
   refine AQ B4 ((((([f] ++ a9) ++ ba) ++ bb) ++ bc) ++ bd) hB oz fun dj _ jm ab=>?_
   have aj:=KeepX.refl dj ((((([f] ++ a9) ++ ba) ++ bb) ++ bc) ++ bd)
   refine Ax 0 rfl o aj (Ax 1 rfl o aj (Ad 2 rfl o aj (B8 rfl rfl (Ad 3 rfl o aj (C9 HM rfl (Ax 5 rfl o aj (bB d fun o0 o1 d=>(Ad 6 rfl o aj (CA (e:=Ar) (i:=7) Tryz.underlying36 rfl rfl rfl ab rfl o1 ?_)))))))))
   rintro rh _ rfl o2 ri
   refine Ad 7 rfl o aj (BL A4 rfl (fun w hw=>o2.keepS (fun b z=>(hw.blk b (((ab.get (i:=7) rfl).2.1 b z).2) (fun hb=>(AX.1 hb).elim (fun hb=>(AX.1 hb).elim (fun hb=>(AX.1 hb).elim (fun hb=>(AX.1 hb).elim (fun hb=>(AX.1 hb).elim (ab.disj (i:=7) (j:=0) rfl rfl rfl b z) (ab.disj (i:=7) (j:=1) rfl rfl rfl b z)) (ab.disj (i:=7) (j:=2) rfl rfl rfl b z)) (ab.disj (i:=7) (j:=3) rfl rfl rfl b z)) (ab.disj (i:=7) (j:=4) rfl rfl rfl b z)) (ab.disj (i:=7) (j:=5) rfl rfl rfl b z)))) (fun _ h=>h)) rfl (Ax 8 rfl o aj (bB d fun dk o3 d=>(Ad 9 rfl o aj (CA (e:=Ar) (i:=7) Tryz.underlying36 rfl rfl rfl ab rfl o3 ?_)))))
   rintro rj _ rfl o4 rk
   refine Ad 10 rfl o aj (BL A4 rfl (fun w hw=>o4.keepS (fun b z=>(hw.blk b (((ab.get (i:=7) rfl).2.1 b z).2) (fun hb=>(AX.1 hb).elim (fun hb=>(AX.1 hb).elim (fun hb=>(AX.1 hb).elim (fun hb=>(AX.1 hb).elim (fun hb=>(AX.1 hb).elim (ab.disj (i:=7) (j:=0) rfl rfl rfl b z) (ab.disj (i:=7) (j:=1) rfl rfl rfl b z)) (ab.disj (i:=7) (j:=2) rfl rfl rfl b z)) (ab.disj (i:=7) (j:=3) rfl rfl rfl b z)) (ab.disj (i:=7) (j:=4) rfl rfl rfl b z)) (ab.disj (i:=7) (j:=5) rfl rfl rfl b z)))) (fun _ h=>h)) rfl (Ax 11 rfl o aj (bB d fun dl o5 d=>(Ad 12 rfl o aj (CA (e:=Ar) (i:=7) Tryz.underlying36 rfl rfl rfl ab rfl o5 ?_)))))
   rintro rl _ rfl o6 rm
   refine Ad 13 rfl o aj (BL A4 rfl (fun w hw=>o6.keepS (fun b z=>(hw.blk b (((ab.get (i:=7) rfl).2.1 b z).2) (fun hb=>(AX.1 hb).elim (fun hb=>(AX.1 hb).elim (fun hb=>(AX.1 hb).elim (fun hb=>(AX.1 hb).elim (fun hb=>(AX.1 hb).elim (ab.disj (i:=7) (j:=0) rfl rfl rfl b z) (ab.disj (i:=7) (j:=1) rfl rfl rfl b z)) (ab.disj (i:=7) (j:=2) rfl rfl rfl b z)) (ab.disj (i:=7) (j:=3) rfl rfl rfl b z)) (ab.disj (i:=7) (j:=4) rfl rfl rfl b z)) (ab.disj (i:=7) (j:=5) rfl rfl rfl b z)))) (fun _ h=>h)) rfl (Ad 14 rfl o aj (HR (zs:=[(iv 0),(iv 0)]) (out:=[(iv dk),(iv dl)]) (vs:=[(iv dk),(iv dl)]) (css:=[[(iv dk)],[(iv dl)]]) Bs L4 rfl rfl rfl rfl rfl (Av 4 rfl (AO 0 Cm rfl ab rfl rfl (Ah (Am aj (Av 15 rfl (bB d fun bq o7 d=>(A7 rfl Tryz.call112 (P8 dj c.1 oy (ab.own_ro (i:=1) rfl) o0 (dk,dl) _ o7) rfl ?_))))))))))
   rintro _ jn ⟨dm,br,rfl,f0,jo⟩
   refine ⟨_,rfl,?_⟩
   have jp:=tm jm f0
   have o8:∀ b ∈ br,dj.heap.size ≤ b:=fun b hb=>Aw (Nat.le_refl dj.heap.size) ((jo.get (i:=0) rfl).2.1 b hb).1
   have o9:=ab.join f0 jo jm.size
   have dn:=aj.ext f0
   refine Ah (Am dn (Ad 16 rfl o dn (AV rfl rfl rfl (Ad 17 rfl o dn (AV rfl rfl rfl (Av 18 rfl ?_))))))
   have f1:Sp (wE g) jn [A2 AR 76 ([a9,ba,bb,bc,bd].flatten) f c,Ab Ao br dm bq.1,A6 g (Be [A2 AR 76 aa f c,Ab Ar n m k]),Ab Ar n m k]:=Dt (o9.sel [1,2,3,4,5,6,0,7,8] rfl)
   refine bB d fun pa pb d=>A7 rfl Tryz.call110 (C3 jn c f ([a9,ba,bb,bc,bd].flatten) bq.1 dm br bq.2 (f1.sel [0,1] rfl).base0 _ pb) rfl ?_
   rintro _ pc ⟨jq,rfl,pd,f2⟩
   refine ⟨_,rfl,?_⟩
   have pe:=f1.takeB [0,1] rfl (M:=[A2 AR 76 ([a9,ba,bb,bc,bd].flatten) f c,Ab Ao br dm bq.1]) rfl jp pd f2
   have pf:Sp (wE g) pc [A2 AR 76 jq f pa.2,A6 g (Be [A2 AR 76 aa f c,Ab Ar n m k]),Ab Ar n m k]:=f1.take [0,1] [2,3] rfl (M:=[A2 AR 76 ([a9,ba,bb,bc,bd].flatten) f c,Ab Ao br dm bq.1]) rfl f2 jp.size
   have jr:=dn.tk f2 (BQ (Pr (fun b hb hlt=>(fun _ _ h=>At _ (At _ (At _ (At _ (At _ (h)))))) b hlt hb) (Bt (fun b hb hlt=>(fun _ _ h=>At _ (At _ (At _ (At _ (Bi _ h))))) b hlt hb) (Bt (fun b hb hlt=>(fun _ _ h=>At _ (At _ (At _ (Bi _ h)))) b hlt hb) (Bt (fun b hb hlt=>(fun _ _ h=>At _ (At _ (Bi _ h))) b hlt hb) (Bt (fun b hb hlt=>(fun _ _ h=>At _ (Bi _ h)) b hlt hb) (Bt (fun b hb hlt=>(fun _ _ h=>Bi _ h) b hlt hb) Iu)))))) (BQ (fun b hb hlt=>absurd hlt (AK.2 (o8 b hb))) CV))
   refine Ah (Am jr (Ad 19 rfl o jr (AC rfl rfl (Ba (ox (Ay (rt hQ rfl rfl (by cases d; exact ⟨jq,rfl,pe,pf.sel [1,0] rfl⟩))))))))
  ·refine Ak fun _ pg=>?_
   refine AP rfl rfl rfl (Aq 1 rfl (pg (A3 rfl d (fun _ d=>?_) (fun _ d=>?_))))
   ·refine Ak fun _ ph=>?_
    refine wp 2 rfl (BC rfl rfl (Bp HM rfl ?_))
    obtain ⟨pi,rn,ro,rp,rq,rr,rs,ru,rv,rx,f3⟩:=Ir (hS.sel [1,0,2] rfl)
    refine AO 0 Cm rfl f3 rfl rfl (bB d fun bs pj d=>(E6 rfl Tryz.call113 hB f3 (Rm g c.1 pi (f3.own_ro (i:=1) rfl) _ pj) rfl fun dp dq js _ _ jt pk=>(wp 2 rfl ?_)))
    obtain ⟨f4,f5⟩:∃ F,Sp (wE g) js [A2 AR 76 F f c,Ab Ao dq dp bs.1,A6 g (Be [A2 AR 76 aa f c,Ab Ar n m k]),Ab Ar n m k]:=⟨_,Dt (pk.sel [1,2,3,4,5,6,0,7,8] rfl)⟩
    refine bB d fun pl pm d=>A7 rfl Tryz.call110 (C3 js c f f4 bs.1 dp dq bs.2 (f5.sel [0,1] rfl).base0 _ pm) rfl ?_
    rintro _ pn ⟨ju,rfl,po,jv⟩
    refine ⟨_,rfl,?_⟩
    have pp:=f5.takeB [0,1] rfl (M:=[A2 AR 76 f4 f c,Ab Ao dq dp bs.1]) rfl jt po jv
    have pq:Sp (wE g) pn [A2 AR 76 ju f pl.2,A6 g (Be [A2 AR 76 aa f c,Ab Ar n m k]),Ab Ar n m k]:=f5.take [0,1] [2,3] rfl (M:=[A2 AR 76 f4 f c,Ab Ao dq dp bs.1]) rfl jv jt.size
    refine Aq 1 rfl (ph (Ay (rt hQ rfl rfl (by cases d; exact ⟨ju,rfl,pp,pq.sel [1,0] rfl⟩))))
   ·refine Ak fun _ pr=>?_
    refine AP rfl rfl rfl (Aq 1 rfl (pr (A3 rfl d (fun _ d=>?_) (fun _ d=>?_))))
    ·refine Ak fun _ ps=>?_
     refine wp 1 rfl (Bc (vs:=[]) (l:=[]) CD Tryz.underlying26 rfl rfl rfl rfl rfl rfl hB hS fun ry rz pt _ pu pv=>(wp 1 rfl (BC rfl rfl (Bp HM rfl ?_))))
     obtain ⟨pw,r0,px,py,pz,r1,p0,r2,p1,r3,f6⟩:=Ir (pv.sel [2,0,1,3] rfl)
     refine AO 0 Cm rfl f6 rfl rfl (bB d fun p2 p3 d=>(AF (i:=6) (S:=(· < pt.heap.size)) CD Tryz.underlying26 rfl rfl rfl pu f6 rfl (f6.own_ro (i:=1) rfl) p3 fun jw r4 r5 _ p4 f7=>(BC rfl rfl (Bp R8 rfl (B9 (i:=0) (vs:=[jw]) (cs':=[pw,jw,(iv c.2.2.1),pz,p0,p1]) Cm rfl rfl (Ce (f7.own_ro (i:=6) rfl).one) rfl p4 f7 rfl rfl ⟨(f7.own_ro (i:=6) rfl).one,trivial⟩ rfl fun p5 _ p6 p7=>(Ah (ps (An 1 rfl (Ay ?_)))))))))
     obtain ⟨p8,p9⟩:∃ F,Sp (wE g) p5 [A2 AR 76 F f (c.1,p2,c.2.2.1,c.2.2.2.1,c.2.2.2.2.1,c.2.2.2.2.2),Ab Ao py px c.2.1,A6 g (Be [A2 AR 76 aa f c,Ab Ar n m k]),Ab Ar n m k]:=⟨_,Dt (p7.sel [0,1,6,3,4,5,2,7,8] rfl)⟩
     refine rt hQ rfl rfl (by cases d; exact ⟨p8,rfl,p6,p9.sel [2,0] rfl⟩)
    ·refine Au (j1 ?_)
     refine Ap fun _ qa=>Ak fun _ qb=>wp 1 rfl (bB d fun qc qd d=>(H6 (e:=Ar) (i:=2) Tryz.underlying36 rfl rfl rfl hS rfl qd ?_))
     rintro r6 _ rfl bt r7
     refine BZ A4 rfl bt rfl (bB d fun r8 qe d=>(Bu rfl Tryz.call60 hB hS (Cr g qc 1 64 _ qe) rfl fun r9 qf jy f8=>?_))
     have bt:=bt.keepS (fun b hb=>qf.block b (((hS.get (i:=2) rfl).2.1 b hb).2)) (fun _ h=>h)
     refine Aq 1 rfl (qb (A3 rfl d (fun _ d=>?_) (fun _ d=>?_)))
     ·refine An 1 rfl ?_
      refine Ay (rt hQ rfl rfl (by cases d; exact ⟨aa,rfl,jy,f8.sel [0,1] rfl⟩))
     ·refine Au (qa ?_)
      refine Ak fun _ qg=>wp 2 rfl (bB d fun qh qi d=>(H6 (e:=Ar) (i:=2) Tryz.underlying36 rfl rfl rfl f8 rfl qi ?_))
      rintro sa _ rfl f9 sb
      refine BZ A4 rfl f9 rfl (BC rfl rfl (Bp R7 rfl ?_))
      obtain ⟨sc,sd,se,sf,sg,sh,si,sj,sk,sl,bu⟩:=Ir (f8.sel [1,0,2] rfl)
      refine Gj 0 A4 rfl rfl jy bu rfl rfl rfl fun qj jz qk ql=>?_
      have bt:=bt.keepS (fun b hb=>jz.2.1 b (((bu.get (i:=7) rfl).2.1 b hb).2) (bu.disj (i:=7) (j:=0) rfl rfl rfl b hb)) (fun _ h=>h)
      have f9:=f9.keepS (fun b hb=>jz.2.1 b (((bu.get (i:=7) rfl).2.1 b hb).2) (bu.disj (i:=7) (j:=0) rfl rfl rfl b hb)) (fun _ h=>h)
      refine Ah (qg (An 1 rfl (Ay ?_)))
      obtain ⟨qm,qn⟩:∃ F,Sp (wE g) qj [A2 AR 76 F f (c.1,c.2.1,qh,c.2.2.2.1,c.2.2.2.2.1,c.2.2.2.2.2),A6 g (Be [A2 AR 76 aa f c,Ab Ar n m k]),Ab Ar n m k]:=⟨_,Dt (ql.sel [0,1,2,3,4,5,6,7] rfl)⟩
      refine rt hQ rfl rfl (by cases d; exact ⟨qm,rfl,qk,qn.sel [1,0] rfl⟩)
theorem P9 (d:Ae) (f:Ae1) (g:Ac) (n:RO BN d g f) (r:Bool) (b:I1 f = some r) :
  A1 44 [g] d fun e w'=>e = .returned (.bool r) ∧ Bl d w':=by
 refine cm Tryz.func44 Tryz.ntmps44 rfl fun Q s hP z hS=>?_
 unfold I1 at b
 refine An 1 rfl (Ap fun _ ab=>(Ak fun _ ac=>(wp 1 rfl (BX n Tryz.underlying31 rfl (Aq 1 rfl (ac (A0 (AU (fun m a j=>∃ (h:Int),St 25 [(0,g),(5,g),(6,(iv (List.length f:Int))),(7,(iv h))] a ∧ Bl d j ∧ Sp d j [] ∧ Fk f m h = some r) FU ?_ ?_))))))))
 ·exact fun a ha=>⟨0,ha.sb rfl,z,(hS.sel [] rfl),b⟩
 ·rintro i a j ⟨h,ha,o,ad,b⟩ a7 ae
  refine BE ?_ ha
  cases i with
  | zero=>exact Bg b
  | succ i =>
   obtain ⟨a8,t⟩:∃ k,k = Fk f i:=⟨_,rfl⟩
   rw [Fk,← t] at b
   refine An 1 rfl (Ap fun _ af=>(A3 rfl b (fun _ b=>?_) (fun _ b=>?_)))
   ·refine Au (af ?_)
    refine Ap fun _ ag=>A0 (Ak fun _ ah=>(bB b fun u ai b=>(BP (e:=BN) Tryz.underlying31 rfl rfl rfl n ai ?_)))
    rintro a9 _ rfl aj
    refine BZ GL rfl (aj.ro o) rfl (Ei GL rfl o ad fun ba bb _ ak al=>(Gj 0 GL rfl rfl ak al rfl rfl rfl fun am _ an v=>(Ah (ah (Ap fun ao ap=>?_)))))
    obtain ⟨aq,ar,b⟩:=Cj b
    have w:∀ (p:Bool) (l:Ae) (_:aq p = some r) (_:Bl d l) (_:Sp d l []),∀ a,St 25 [(0,g),(5,g),(6,(iv (List.length f:Int))),(7,(iv h)),(20,(.bool p))] a → ao a l:=by
     intro p l b x au
     subst ar
     refine ap (A3 rfl b (fun _ b=>?_) (fun _ b=>?_))
     ·refine An 1 rfl ?_
      refine Ay (rt s rfl rfl (by cases b; exact ⟨rfl,x⟩))
     ·refine Au (ag ?_)
      refine As (Aq 2 rfl ?_)
      rw [t] at b
      exact fun a ha=>ae a _ i (AB i) ⟨(Ag (h + 1)),ha.sb rfl,x,(au.sel [] rfl),b⟩
    refine As (Bp Kx rfl (AO 0 A4 rfl v rfl rfl (bB b fun av aw b=>(Bu rfl Tryz.call60 an v (Cr am u.1 1 12 _ aw) rfl fun ax _ y q=>(wp 2 rfl ?_)))))
    rcases bE (!av) with c | c
    ·replace b:=BA c b
     refine wo rfl c (wo rfl c (wo rfl c (wo rfl c (AA rfl rfl c rfl (Ah ?_)))))
     exact jx (w true _ b y (q.sel [] rfl)) rfl
    ·replace b:=Cf c b
     refine wn rfl c (Bp NE rfl (wn rfl c (AO 0 A4 rfl q rfl rfl (wn rfl c (bB b fun ay az b=>(Bu rfl Tryz.call60 y q (Cr ax u.2 40 220 _ az) rfl fun bc _ a0 a1=>(wn rfl c (wp 1 rfl (A9 rfl rfl c rfl (Ah ?_))))))))))
     exact jx (w ((!ay)) _ b a0 (a1.sel [] rfl)) rfl
   ·refine Bd (ab ?_)
    refine Ak fun _ a2=>wp 1 rfl (BX n Tryz.underlying31 rfl (bB b fun bd a3 b=>(A7 rfl Tryz.call60 (Cr j (List.length f:Int) 1 40 _ a3) rfl ?_)))
    rintro _ be ⟨rfl,a4⟩
    refine ⟨_,rfl,?_⟩
    have a5:=tm o a4
    refine Aq 1 rfl (a2 (Ay (rt s rfl rfl (by cases b; exact ⟨rfl,a5⟩))))
theorem GE (f:Ae) (c:(Int × Int × Int × Int)) (d:(Int × Int × Int × Int)) (r:Int) (a:Dr c d = some r) :
  A1 115 [(.agg #[(iv c.1),(iv c.2.1),(iv c.2.2.1),(iv c.2.2.2)]),(.agg #[(iv d.1),(iv d.2.1),(iv d.2.2.1),(iv d.2.2.2)])] f fun e w'=>e = .returned (iv r) ∧ Bl f w':=by
 refine cm Tryz.func115 Tryz.ntmps115 rfl fun Q g s i j=>?_
 unfold Dr at a
 refine Ak fun _ k=>CK rfl i j fun t u _ l m=>CK rfl l m fun v w _ h b=>Aq 1 rfl (k (Ap fun _ n=>(Ak fun _ o=>(Bp DB rfl (AO 1 A4 rfl b rfl rfl (Bp DB rfl (AO 0 A4 rfl b rfl rfl (Aq 1 rfl (o (A3 rfl a (fun _ a=>?_) (fun _ a=>?_)))))))))))
 ·refine Ak fun _ p=>?_
  refine Bp DB rfl (AO 1 A4 rfl b rfl rfl (Bp DB rfl (AO 0 A4 rfl b rfl rfl (Aq 2 rfl (p (Ay (rt g rfl rfl (by cases a; exact ⟨rfl,h⟩))))))))
 ·refine Au (n ?_)
  refine Ak fun _ q=>Bp HT rfl (AO 1 A4 rfl b rfl rfl (Bp HT rfl (AO 0 A4 rfl b rfl rfl (Aq 2 rfl (q (Ay (rt g rfl rfl (by cases a; exact ⟨rfl,h⟩))))))))
theorem UK (k:Ae) (d:(Int × Int × Int × Int)) (r:Bool) (b:JQ d = some r) :
  A1 168 [(.agg #[(iv d.1),(iv d.2.1),(iv d.2.2.1),(iv d.2.2.2)])] k fun e w'=>e = .returned (.bool r) ∧ Bl k w':=by
 refine cm Tryz.func168 Tryz.ntmps168 rfl fun Q s hP t u=>?_
 unfold JQ at b
 refine Ak fun _ v=>CK rfl t u fun b2 w _ x p=>Aq 1 rfl (v (Ap fun y z=>?_))
 obtain ⟨aa,ab,b⟩:=Cj b
 have j:∀ (n:Bool) (l:Ae) (_:aa n = some r) (_:Bl k l) (_:Sp k l []),∀ a,St 28 [(2,(.bool n))] a → y a l:=by
  intro n l b ac ak
  subst ab
  refine z (Ay (rt s rfl rfl (by cases b; exact ⟨rfl,ac⟩)))
 refine As (Bp J4 rfl (AO 0 A4 rfl p rfl rfl (bB b fun ad ae b=>(Bu rfl Tryz.call60 x p (Cr w d.1 1 12 _ ae) rfl fun af _ q o=>(wp 1 rfl ?_)))))
 rcases bE ad with f | f
 ·replace b:=BA f b
  refine wn rfl f (Bp HT rfl (wn rfl f (AO 0 A4 rfl o rfl rfl (wn rfl f (bB b fun ag ah b=>(Bu rfl Tryz.call60 q o (Cr af d.2.1 1 9 _ ah) rfl fun al _ m i=>(AA rfl rfl f rfl (wp 1 rfl ?_))))))))
  rcases bE ag with g | g
  ·replace b:=BA g b
   refine wn rfl g (Bp DB rfl (wn rfl g (AO 0 A4 rfl i rfl rfl (wn rfl g (wp 1 rfl (AA rfl rfl g rfl (wp 1 rfl ?_)))))))
   rcases bE (decide (0 ≤ d.2.2.1)) with c | c
   ·replace b:=BA c b
    refine wn rfl c (Bp DB rfl (wn rfl c (AO 0 A4 rfl i rfl rfl (wn rfl c (Bp GP rfl (wn rfl c (AO 0 A4 rfl i rfl rfl (wn rfl c (wp 1 rfl (AA rfl rfl c rfl (wp 1 rfl ?_)))))))))))
    rcases bE (decide (d.2.2.1 < d.2.2.2)) with h | h
    ·replace b:=BA h b
     refine wn rfl h (Bp GP rfl (wn rfl h (AO 0 A4 rfl i rfl rfl (wn rfl h (wp 1 rfl (AA rfl rfl h rfl (Aq 1 rfl ?_)))))))
     exact jx (j ((decide (d.2.2.2 ≤ 1000))) _ b m (i.sel [] rfl)) rfl
    ·replace b:=Cf h b
     refine wo rfl h (wo rfl h (wo rfl h (A9 rfl rfl h rfl (Aq 1 rfl ?_))))
     exact jx (j false _ b m (i.sel [] rfl)) rfl
   ·replace b:=Cf c b
    refine wo rfl c (wo rfl c (wo rfl c (wo rfl c (wo rfl c (A9 rfl rfl c rfl (wp 1 rfl (wo rfl rfl (wo rfl rfl (wo rfl rfl (A9 rfl rfl rfl rfl (Aq 1 rfl ?_)))))))))))
    exact jx (j false _ b m (i.sel [] rfl)) rfl
  ·replace b:=Cf g b
   refine wo rfl g (wo rfl g (wo rfl g (A9 rfl rfl g rfl (wp 1 rfl (wo rfl rfl (wo rfl rfl (wo rfl rfl (wo rfl rfl (wo rfl rfl (A9 rfl rfl rfl rfl (wp 1 rfl (wo rfl rfl (wo rfl rfl (wo rfl rfl (A9 rfl rfl rfl rfl (Aq 1 rfl ?_))))))))))))))))
   exact jx (j false _ b m (i.sel [] rfl)) rfl
 ·replace b:=Cf f b
  refine wo rfl f (wo rfl f (wo rfl f (A9 rfl rfl f rfl (wp 1 rfl (wo rfl rfl (wo rfl rfl (wo rfl rfl (A9 rfl rfl rfl rfl (wp 1 rfl (wo rfl rfl (wo rfl rfl (wo rfl rfl (wo rfl rfl (wo rfl rfl (A9 rfl rfl rfl rfl (wp 1 rfl (wo rfl rfl (wo rfl rfl (wo rfl rfl (A9 rfl rfl rfl rfl (Aq 1 rfl ?_)))))))))))))))))))))
  exact jx (j false _ b q (o.sel [] rfl)) rfl
theorem Nt (l:Ae) (o:Ae2) (n:Ac) (q:RO Az l n o) (r:Bool) (b:FT o = some r) :
  A1 116 [n] l fun e w'=>e = .returned (.bool r) ∧ Bl l w':=by
 refine cm Tryz.func116 Tryz.ntmps116 rfl fun Q u g hB hS=>?_
 unfold FT at b
 refine An 1 rfl (Ap fun _ a8=>(Ak fun _ a9=>(wp 1 rfl (BX q Tryz.underlying72 rfl (Aq 1 rfl (a9 (A3 rfl b (fun _ b=>?_) (fun _ b=>?_))))))))
 ·refine An 1 rfl ?_
  refine Ay (rt u rfl rfl (by cases b; exact ⟨rfl,hB⟩))
 ·refine Au (a8 ?_)
  refine Ap fun _ ba=>Ak fun _ bb=>wp 1 rfl (BX q Tryz.underlying72 rfl (Aq 1 rfl (bb (A0 (AU (fun m a w8=>∃ (z:Int),St 76 [(0,n),(12,n),(13,(iv (List.length o:Int))),(14,(iv z))] a ∧ Bl l w8 ∧ Sp l w8 [] ∧ Eh o m z = some r) FU ?_ ?_)))))
  ·exact fun a ha=>⟨0,ha.sb rfl,hB,(hS.sel [] rfl),b⟩
  ·rintro v a w8 ⟨z,ha,ae,ar,b⟩ cy bc
   refine BE ?_ ha
   cases v with
   | zero=>exact Bg b
   | succ v =>
    obtain ⟨cz,au⟩:∃ k,k = Eh o v:=⟨_,rfl⟩
    rw [Eh,← au] at b
    refine An 1 rfl (Ap fun _ bd=>(A3 rfl b (fun _ b=>?_) (fun _ b=>?_)))
    ·refine Au (bd ?_)
     refine Ap fun _ be=>A0 (Ak fun _ bf=>(bB b fun bg bh b=>(BP (e:=Az) Tryz.underlying72 rfl rfl rfl q bh ?_)))
     rintro c0 _ rfl bi
     refine BZ BD rfl (bi.ro ae) rfl (Ei BD rfl ae ar fun c1 c2 _ bj bk=>(Gj 0 BD rfl rfl bj bk rfl rfl rfl fun bl _ bm av=>(Ah (bf (Ak fun _ bn=>(AO 0 BD rfl av rfl rfl (bB b fun c3 bo b=>(Bu rfl Tryz.call168 bm av (UK bl bg _ bo) rfl fun c4 _ aw bp=>(Aq 1 rfl (bn (A3 rfl b (fun _ b=>?_) (fun _ b=>?_))))))))))))
     ·refine An 1 rfl ?_
      refine Ay (rt u rfl rfl (by cases b; exact ⟨rfl,aw⟩))
     ·refine Au (be ?_)
      refine As (Aq 2 rfl ?_)
      rw [au] at b
      exact fun a ha=>bc a _ v (AB v) ⟨(Ag (z + 1)),ha.sb rfl,aw,(bp.sel [] rfl),b⟩
    ·refine Bd (ba ?_)
     refine Ap fun _ bq=>Ak fun _ br=>wp 1 rfl (BX q Tryz.underlying72 rfl (Aq 1 rfl (br (A0 (AU (fun m a af=>∃ (p:Int),St 76 [(0,n),(22,n),(23,(iv (List.length o:Int))),(24,(iv p))] a ∧ Bl l af ∧ Sp l af [] ∧ CF o m p = some r) FU ?_ ?_)))))
     ·exact fun a ha=>⟨0,ha.sb rfl,ae,(ar.sel [] rfl),b⟩
     ·rintro w a af ⟨p,ha,ag,bs,b⟩ c5 bt
      refine BE ?_ ha
      cases w with
      | zero=>exact Bg b
      | succ w =>
       obtain ⟨ax,ay⟩:∃ k,k = CF o w:=⟨_,rfl⟩
       rw [CF,← ay] at b
       refine An 1 rfl (Ap fun _ bu=>(A3 rfl b (fun _ b=>?_) (fun _ b=>?_)))
       ·refine Au (bu ?_)
        refine Ap fun _ bv=>A0 (Ak fun _ bw=>(wp 1 rfl (bB b fun d bx b=>(BP (e:=Az) Tryz.underlying72 rfl rfl rfl q bx ?_))))
        rintro c6 _ rfl bz
        refine BZ BD rfl (bz.ro ag) rfl (Ei BD rfl ag bs fun s c7 _ b0 b1=>(wp 1 rfl (Gj 0 BD rfl rfl b0 b1 rfl rfl rfl fun c8 _ b2 b3=>(Ah (bw (Ap fun _ b4=>(Ap fun b5 b6=>?_)))))))
        obtain ⟨b7,b8,b⟩:=Cj b
        have az:∀ (ah:Bool) (aa:Ae) (_:b7 ah = some r) (_:Bl l aa) (_:Sp l aa [A5 s 125 [(iv d.1),(iv d.2.1),(iv d.2.2.1),(iv d.2.2.2)]]),∀ a,St 76 [(0,n),(5,(iv p)),(6,(.pointer (some ⟨s,0,none⟩))),(22,n),(23,(iv (List.length o:Int))),(24,(iv p)),(40,(.bool ah))] a → b5 a aa:=by
         intro ah aa b a0 b9
         subst b8
         refine b6 (A3 rfl b (fun _ b=>?_) (fun _ b=>?_))
         ·refine An 1 rfl ?_
          refine Ay (rt u rfl rfl (by cases b; exact ⟨rfl,a0⟩))
         ·refine Au (b4 ?_)
          refine Ak fun _ ca=>wp 2 rfl (bB b fun ab cb b=>(PB (e:=Az) Tryz.underlying72 rfl rfl q cb (.inl ⟨rfl,rfl⟩) (.inr ⟨_,_,rfl,rfl⟩) fun a1 a2=>(BX a2 Tryz.underlying72 rfl (Aq 1 rfl (ca (A0 (AU (fun m a ai=>∃ (x:Int),St 76 [(0,n),(6,(.pointer (some ⟨s,0,none⟩))),(22,n),(23,(iv (List.length o:Int))),(24,(iv p)),(43,a1),(44,(iv (List.length ab:Int))),(45,(iv x))] a ∧ Bl l ai ∧ Sp l ai [A5 s 125 [(iv d.1),(iv d.2.1),(iv d.2.2.1),(iv d.2.2.2)]] ∧ D3 ab d ax p m x = some r) FU ?_ ?_)))))))
          ·exact fun a ha=>⟨0,ha.sb rfl,a0,(b9.sel [0] rfl),b⟩
          ·rintro y a ai ⟨x,ha,aj,a3,b⟩ c9 cc
           refine BE ?_ ha
           cases y with
           | zero=>exact Bg b
           | succ y =>
            obtain ⟨da,a4⟩:∃ k,k = D3 ab d ax p y:=⟨_,rfl⟩
            rw [D3,← a4] at b
            refine An 1 rfl (Ap fun _ cd=>(A3 rfl b (fun _ b=>?_) (fun _ b=>?_)))
            ·refine Au (cd ?_)
             refine Ap fun _ ce=>A0 (Ak fun _ cf=>(bB b fun t cg b=>(BP (e:=Az) Tryz.underlying72 rfl rfl rfl a2 cg ?_)))
             rintro db _ rfl ch
             refine BZ BD rfl (ch.ro aj) rfl (Ei BD rfl aj a3 fun dc dd _ ci cj=>(Gj 0 BD rfl rfl ci cj rfl rfl rfl fun de _ ak i=>(Ah (cf (Ap fun ck cl=>?_)))))
             obtain ⟨cn,co,b⟩:=Cj b
             have al:∀ (am:Bool) (ac:Ae) (_:cn am = some r) (_:Bl l ac) (_:Sp l ac [A5 s 125 [(iv d.1),(iv d.2.1),(iv d.2.2.1),(iv d.2.2.2)]]),∀ a,St 76 [(0,n),(6,(.pointer (some ⟨s,0,none⟩))),(22,n),(23,(iv (List.length o:Int))),(24,(iv p)),(43,a1),(44,(iv (List.length ab:Int))),(45,(iv x)),(73,(.bool am))] a → ck a ac:=by
              intro am ac b a5 cp
              subst co
              refine cl (A3 rfl b (fun _ b=>?_) (fun _ b=>?_))
              ·refine An 1 rfl ?_
               refine Ay (rt u rfl rfl (by cases b; exact ⟨rfl,a5⟩))
              ·refine Au (ce ?_)
               refine As (Aq 2 rfl ?_)
               rw [a4] at b
               exact fun a ha=>cc a _ y (AB y) ⟨(Ag (x + 1)),ha.sb rfl,a5,(cp.sel [0] rfl),b⟩
             refine As (Bp HT rfl (AO 1 A4 rfl i rfl rfl (Bp HT rfl (AO 0 A4 rfl i rfl rfl (wp 2 rfl ?_)))))
             rcases bE (d.2.1 == t.2.1) with j | j
             ·replace b:=BA j b
              refine wo rfl j (wo rfl j (wo rfl j (wo rfl j (wo rfl j (AA rfl rfl j rfl (wp 1 rfl (wn rfl rfl (Bp DB rfl (wn rfl rfl (AO 1 A4 rfl i rfl rfl (wn rfl rfl (Bp DB rfl (wn rfl rfl (AO 0 A4 rfl i rfl rfl (wn rfl rfl (Pf rfl rfl rfl (wn rfl rfl (Bp GP rfl (wn rfl rfl (AO 1 A4 rfl i rfl rfl (wn rfl rfl (Bp GP rfl (wn rfl rfl (AO 0 A4 rfl i rfl rfl (wn rfl rfl (SK rfl rfl rfl (wn rfl rfl (wp 1 rfl (AA rfl rfl rfl rfl (Ah ?_))))))))))))))))))))))))))))))
              exact jx (al ((decide ((Fx d.2.2.1 t.2.2.1) < (Fn d.2.2.2 t.2.2.2)))) _ b ak (i.sel [1] rfl)) rfl
             ·replace b:=Cf j b
              refine wn rfl j (Bp J4 rfl (wn rfl j (AO 1 A4 rfl i rfl rfl (wn rfl j (Bp J4 rfl (wn rfl j (AO 0 A4 rfl i rfl rfl (wn rfl j (wp 1 rfl (A9 rfl rfl j rfl (wp 1 rfl ?_)))))))))))
              rcases bE (d.1 == t.1) with c | c
              ·replace b:=BA c b
               refine wn rfl c (Bp DB rfl (wn rfl c (AO 1 A4 rfl i rfl rfl (wn rfl c (Bp DB rfl (wn rfl c (AO 0 A4 rfl i rfl rfl (wn rfl c (Pf rfl rfl rfl (wn rfl c (Bp GP rfl (wn rfl c (AO 1 A4 rfl i rfl rfl (wn rfl c (Bp GP rfl (wn rfl c (AO 0 A4 rfl i rfl rfl (wn rfl c (SK rfl rfl rfl (wn rfl c (wp 1 rfl (AA rfl rfl c rfl (Ah ?_)))))))))))))))))))))))
               exact jx (al ((decide ((Fx d.2.2.1 t.2.2.1) < (Fn d.2.2.2 t.2.2.2)))) _ b ak (i.sel [1] rfl)) rfl
              ·replace b:=Cf c b
               refine wo rfl c (wo rfl c (wo rfl c (wo rfl c (wo rfl c (wo rfl c (wo rfl c (wo rfl c (wo rfl c (wo rfl c (wo rfl c (A9 rfl rfl c rfl (Ah ?_))))))))))))
               exact jx (al false _ b ak (i.sel [1] rfl)) rfl
            ·refine Bd (bv ?_)
             refine As (Aq 2 rfl ?_)
             rw [ay] at b
             exact fun a ha=>bt a _ w (AB w) ⟨(Ag (p + 1)),ha.sb rfl,aj,(a3.sel [] rfl),b⟩
        refine AQ B4 [] b2 b3 fun a6 _ an ao=>?_
        have h:=KeepX.refl a6 []
        refine Ax 0 rfl g h (Ad 1 rfl g h (Tg rfl rfl rfl (Ax 2 rfl g h ?_)))
        rcases bE (decide (0 < p)) with f | f
        ·replace b:=BA f b
         refine BF 3 rfl g f h (Da rfl rfl (BF 4 rfl g f h (Da rfl rfl (BF 5 rfl g f h (GM rfl rfl rfl (bB b fun cq cr b=>(BF 6 rfl g f h (BB (e:=Az) Tryz.underlying72 rfl rfl rfl q cr ?_))))))))
         rintro df _ rfl cs
         refine BF 7 rfl g f h (BL BD rfl (cs.kx an (by simp)) rfl (BF 8 rfl g f h (CQ 0 BD rfl ao rfl (by simp) (Av 9 rfl (wn rfl f (bB b fun ct cu b=>(Bu rfl Tryz.call115 an ao (GE a6 cq d _ cu) rfl fun dg cv cw cx=>?_)))))))
         have ap:=h.ext cv
         refine Ah (Am ap (BF 10 rfl g f ap (Ws rfl rfl rfl (Ad 11 rfl g ap (Ep rfl rfl f rfl (Ba ?_))))))
         exact jx (az ((decide (0 ≤ ct))) _ b cw (cx.sel [0] rfl)) rfl
        ·replace b:=Cf f b
         refine AZ 3 rfl g f h (AZ 4 rfl g f h (AZ 5 rfl g f h (AZ 6 rfl g f h (AZ 7 rfl g f h (AZ 8 rfl g f h (AZ 9 rfl g f h (AZ 10 rfl g f h (Ad 11 rfl g h (FV rfl rfl f rfl (Ba ?_))))))))))
         exact jx (az false _ b an (ao.sel [0] rfl)) rfl
       ·refine Bd (bq ?_)
        refine An 1 rfl (Ay (rt u rfl rfl (by cases b; exact ⟨rfl,ag⟩)))
theorem La (i:Ae) (j:Ae4) (n:Ac) (t:RO Ch i n j) (r:Bool) (b:FH j = some r) :
  A1 45 [n] i fun e w'=>e = .returned (.bool r) ∧ Bl i w':=by
 refine cm Tryz.func45 Tryz.ntmps45 rfl fun Q x hP hB hS=>?_
 unfold FH at b
 refine An 1 rfl (Ap fun _ au=>(Ap fun K3 aw=>?_))
 obtain ⟨k8,ay,b⟩:=Cj b
 have ag:∀ (y:Bool) (u:Ae) (_:k8 y = some r) (_:Bl i u) (_:Sp i u []),∀ a,St 46 [(0,n),(15,(.bool y))] a → K3 a u:=by
  intro y u b ah az
  subst ay
  refine aw (A3 rfl b (fun _ b=>?_) (fun _ b=>?_))
  ·refine An 1 rfl ?_
   refine Ay (rt x rfl rfl (by cases b; exact ⟨rfl,ah⟩))
  ·refine Au (au ?_)
   refine Ap fun _ a0=>Ak fun _ a1=>wp 1 rfl (BX t Tryz.underlying41 rfl (Aq 1 rfl (a1 (A0 (AU (fun m a z=>∃ (l:Int),St 46 [(16,n),(17,(iv (List.length j:Int))),(18,(iv l))] a ∧ Bl i z ∧ Sp i z [] ∧ DS j m l = some r) FU ?_ ?_)))))
   ·exact fun a ha=>⟨0,ha.sb rfl,ah,(az.sel [] rfl),b⟩
   ·rintro p a z ⟨l,ha,aa,a2,b⟩ b4 a3
    refine BE ?_ ha
    cases p with
    | zero=>exact Bg b
    | succ p =>
     obtain ⟨b5,ai⟩:∃ k,k = DS j p:=⟨_,rfl⟩
     rw [DS,← ai] at b
     refine An 1 rfl (Ap fun _ a4=>(A3 rfl b (fun _ b=>?_) (fun _ b=>?_)))
     ·refine Au (a4 ?_)
      refine Ap fun _ a5=>A0 (Ak fun _ a6=>(wp 1 rfl (bB b fun q a7 b=>(BP (e:=Ch) Tryz.underlying41 rfl rfl rfl t a7 ?_))))
      rintro b6 _ rfl a8
      refine BZ L2 rfl (a8.ro aa) rfl (Ei L2 rfl aa a2 fun b7 b8 _ a9 ba=>(wp 1 rfl (Gj 0 L2 rfl rfl a9 ba rfl rfl rfl fun aj _ ak v=>(Ah (a6 (Ap fun bb bc=>?_))))))
      obtain ⟨bd,be,b⟩:=Cj b
      have s:∀ (ab:Bool) (w:Ae) (_:bd ab = some r) (_:Bl i w) (_:Sp i w []),∀ a,St 46 [(16,n),(17,(iv (List.length j:Int))),(18,(iv l)),(44,(.bool ab))] a → bb a w:=by
       intro ab w b al bf
       subst be
       refine bc (A3 rfl b (fun _ b=>?_) (fun _ b=>?_))
       ·refine An 1 rfl ?_
        refine Ay (rt x rfl rfl (by cases b; exact ⟨rfl,al⟩))
       ·refine Au (a5 ?_)
        refine As (Aq 2 rfl ?_)
        rw [ai] at b
        exact fun a ha=>a3 a _ p (AB p) ⟨(Ag (l + 1)),ha.sb rfl,al,(bf.sel [] rfl),b⟩
      refine As (wp 3 rfl ?_)
      rcases bE (decide (0 < l)) with c | c
      ·replace b:=BA c b
       refine wn rfl c (Bp ND rfl (wn rfl c (AO 0 A4 rfl v rfl rfl (wn rfl c (wp 1 rfl (wn rfl c (wp 1 rfl (wn rfl c (bB b fun bg bh b=>(Bu rfl Tryz.call60 ak v (Cr aj q.1 0 (Ag (l - 1)) _ bh) rfl fun bi _ am ac=>(wn rfl c (wp 1 rfl (AA rfl rfl c rfl (wp 1 rfl ?_))))))))))))))
       rcases bE (!bg) with f | f
       ·replace b:=BA f b
        refine wo rfl f (wo rfl f (wo rfl f (wo rfl f (AA rfl rfl f rfl (wp 1 rfl (wo rfl rfl (wo rfl rfl (wo rfl rfl (wo rfl rfl (AA rfl rfl rfl rfl (Ah ?_)))))))))))
        exact jx (s true _ b am (ac.sel [] rfl)) rfl
       ·replace b:=Cf f b
        refine wn rfl f (Bp NC rfl (wn rfl f (AO 0 A4 rfl ac rfl rfl (wn rfl f (bB b fun bj bk b=>(Bu rfl Tryz.call60 am ac (Cr bi q.2.1 0 7 _ bk) rfl fun bl _ an ad=>(wn rfl f (wp 1 rfl (A9 rfl rfl f rfl (wp 1 rfl ?_))))))))))
        rcases bE (!bj) with g | g
        ·replace b:=BA g b
         refine wo rfl g (wo rfl g (wo rfl g (wo rfl g (AA rfl rfl g rfl (Ah ?_)))))
         exact jx (s true _ b an (ad.sel [] rfl)) rfl
        ·replace b:=Cf g b
         refine wn rfl g (Bp NB rfl (wn rfl g (AO 0 A4 rfl ad rfl rfl (wn rfl g (bB b fun bm bn b=>(Bu rfl Tryz.call60 an ad (Cr bl q.2.2 0 999 _ bn) rfl fun b9 _ bo bp=>(wn rfl g (wp 1 rfl (A9 rfl rfl g rfl (Ah ?_))))))))))
         exact jx (s ((!bm)) _ b bo (bp.sel [] rfl)) rfl
      ·replace b:=Cf c b
       refine wo rfl c (wo rfl c (wo rfl c (wo rfl c (wo rfl c (wo rfl c (A9 rfl rfl c rfl (wp 1 rfl (wn rfl rfl (Bp NC rfl (wn rfl rfl (AO 0 A4 rfl v rfl rfl (wn rfl rfl (bB b fun bq br b=>(Bu rfl Tryz.call60 ak v (Cr aj q.2.1 0 7 _ br) rfl fun bs _ ao ae=>wn rfl rfl (wp 1 rfl (A9 rfl rfl rfl rfl (wp 1 rfl ?_)))))))))))))))))
       rcases bE (!bq) with h | h
       ·replace b:=BA h b
        refine wo rfl h (wo rfl h (wo rfl h (wo rfl h (AA rfl rfl h rfl (Ah ?_)))))
        exact jx (s true _ b ao (ae.sel [] rfl)) rfl
       ·replace b:=Cf h b
        refine wn rfl h (Bp NB rfl (wn rfl h (AO 0 A4 rfl ae rfl rfl (wn rfl h (bB b fun bt bu b=>(Bu rfl Tryz.call60 ao ae (Cr bs q.2.2 0 999 _ bu) rfl fun ca _ bv bw=>(wn rfl h (wp 1 rfl (A9 rfl rfl h rfl (Ah ?_))))))))))
        exact jx (s ((!bt)) _ b bv (bw.sel [] rfl)) rfl
     ·refine Bd (a0 ?_)
      refine An 1 rfl (Ay (rt x rfl rfl (by cases b; exact ⟨rfl,aa⟩)))
 refine As (wp 1 rfl (BX t Tryz.underlying41 rfl (bB b fun bx bz b=>(Bu rfl Tryz.call60 hB hS (Cr i (List.length j:Int) 1 60 _ bz) rfl fun cb _ af ap=>(wp 2 rfl ?_)))))
 rcases bE (!bx) with d | d
 ·replace b:=BA d b
  refine wo rfl d (wo rfl d (wo rfl d (wo rfl d (wo rfl d (AA rfl rfl d rfl (Ah ?_))))))
  exact jx (ag true _ b af (ap.sel [] rfl)) rfl
 ·replace b:=Cf d b
  refine wn rfl d (wp 1 rfl (wn rfl d (bB b fun b0 b1 b=>(BP (e:=Ch) Tryz.underlying41 rfl rfl rfl t b1 ?_))))
  rintro cc _ rfl b2
  refine wn rfl d (JT (o:=0) ND rfl rfl (wn rfl d (BZ A4 rfl ((b2.ro af).add 0) rfl (wn rfl d (wp 1 rfl (A9 rfl rfl d rfl (Ah ?_)))))))
  exact jx (ag ((b0.1 != (-1))) _ b af (ap.sel [] rfl)) rfl
theorem RM (g:Ae) (y:Ae4) (z:Ac) (n:RO Ch g z y) (d:(Int × Int × Int)) (r:(Ae4 × Bool)) (c:Ii y d = some r) :
  A1 117 [z,(.agg #[(iv d.1),(iv d.2.1),(iv d.2.2)])] g fun e w'=>∃ (q0:Ac) (G0:Al),e = .returned (.tuple #[q0,(.bool r.2)]) ∧ Bl g w' ∧ Sp g w' [Ab Ch G0 q0 r.1]:=by
 refine cm Tryz.func117 Tryz.ntmps117 rfl fun Q hQ j hB hS=>?_
 unfold Ii at c
 refine Ak fun _ bm=>CK rfl hB hS fun b2 w3 _ ak bo=>Aq 2 rfl (bm (Ap fun _ bp=>(Ak fun _ bq=>(wp 1 rfl (bB c fun u9 br c=>(Bu rfl Tryz.call45 ak bo (La w3 y z (n.ro ak) _ br) rfl fun dj _ al am=>(Aq 1 rfl (bq (A3 rfl c (fun _ c=>?_) (fun _ c=>?_))))))))))
 ·refine An 2 rfl ?_
  refine Ay ?_
  have bs:=am.push0 (r:=Ab Ch [] (.slice none 0 0) []) rfl fun _=>.inl ⟨rfl,rfl,rfl⟩
  refine rt hQ rfl rfl (by cases c; exact ⟨(.slice none 0 0),[],rfl,al,bs.sel [0] rfl⟩)
 ·refine Au (bp ?_)
  refine Ap fun bt bu=>?_
  obtain ⟨bv,bw,c⟩:=Cj c
  have ab:∀ (o:Ae4) (k:Ac) (ac:Al) (m:Ae) (_:bv o = some r) (_:Bl g m) (_:Sp g m [Ab Ch ac k o]),∀ a,St 20 [(6,k)] a → bt a m:=by
   intro o k ac m c bx an
   subst bw
   refine bu (Ap fun _ bz=>(Ak fun _ b0=>(wp 1 rfl (bB c fun dk b1 c=>(Bu rfl Tryz.call45 bx an (La m o k (an.own_ro (i:=0) rfl) _ b1) rfl fun dl _ ao ap=>(Aq 1 rfl (b0 (A3 rfl c (fun _ c=>?_) (fun _ c=>?_)))))))))
   ·refine An 2 rfl ?_
    refine Ay ?_
    have b3:=ap.push0 (r:=Ab Ch [] (.slice none 0 0) []) rfl fun _=>.inl ⟨rfl,rfl,rfl⟩
    refine rt hQ rfl rfl (by cases c; exact ⟨(.slice none 0 0),[],rfl,ao,b3.sel [0] rfl⟩)
   ·refine Au (bz ?_)
    refine An 3 rfl (Ay (rt hQ rfl rfl (by cases c; exact ⟨k,ac,rfl,ao,ap.sel [0] rfl⟩)))
  refine AQ B4 [] al am fun f _ p ad=>?_
  have q:=KeepX.refl f []
  refine Ax 1 rfl j q (Ad 3 rfl j q (CQ 0 L2 rfl ad rfl (by simp) (C0 (is:=[0,4]) (by kernel_rfl) rfl (Bb.2 ⟨⟨_,rfl,?_⟩,Bb.2 ⟨⟨_,rfl,?_⟩,fun _ h=>by cases h⟩⟩))))
  ·refine Bc (vs:=[]) (l:=[]) GG Tryz.underlying41 rfl rfl rfl rfl rfl rfl (Bf f) (Sep.nil _ _) fun dm b4 aq s _ ar=>?_
   have t:=tm p s
   have au:=ad.join s ar p.size
   have u:∀ b ∈ b4,f.heap.size ≤ b:=fun b hb=>Aw (Nat.le_refl f.heap.size) ((ar.1 _ (List.mem_cons_self ..)).2.1 b hb).1
   have ae:=q.ext s
   have av:=Aw (Nat.le_refl f.heap.size) s.size
   refine Ah (Am ae (C0 (is:=[2,4]) (by kernel_rfl) rfl (Bb.2 ⟨⟨_,rfl,?_⟩,Bb.2 ⟨⟨_,rfl,?_⟩,fun _ h=>by cases h⟩⟩)))
   ·refine bB c fun dn b5 c=>?_
    refine AF (i:=0) (S:=(· < aq.heap.size)) GG Tryz.underlying41 rfl rfl rfl t au rfl (n.ro t) b5 fun dp b6 b7 af aw b8=>?_
    have ax:=ae.wr' af.1 af.2.1 (fun b hlt hb=>absurd hlt (AK.2 (u b hb)))
    have b9:∀ b ∈ b6,f.heap.size ≤ b:=fun b hb=>(af.2.2 b hb).elim (u b) fun h=>Aw av h
    refine Ah (Am ax (Av 4 rfl (Bc (vs:=[(.agg #[(iv d.1),(iv d.2.1),(iv d.2.2)])]) (l:=[d]) GG Tryz.underlying41 rfl rfl rfl rfl rfl rfl (Bf b7) (Sep.nil _ _) fun dq dr ca ag _ cb=>?_)))
    have cc:=tm aw ag
    have ay:=b8.join ag cb aw.size
    have az:=ax.ext ag
    refine Ah (Am az (Av 5 rfl (bB c fun cd ce c=>(AF (i:=1) (S:=(· < ca.heap.size)) GG Tryz.underlying41 rfl rfl rfl cc ay rfl (ay.own_ro (i:=0) rfl) ce fun cf cg ds a0 ch ci=>?_))))
    have a1:=az.wr' a0.1 a0.2.1 (fun b hlt hb=>absurd hlt (AK.2 (b9 b hb)))
    refine Ah (Am a1 (Ad 6 rfl j a1 (AC rfl rfl (Ba ?_))))
    exact jx (ab cd cf cg _ c ch (ci.sel [1] rfl)) rfl
   ·refine Bc (vs:=[(.agg #[(iv d.1),(iv d.2.1),(iv d.2.2)])]) (l:=[d]) GG Tryz.underlying41 rfl rfl rfl rfl rfl rfl (Bf aq) (Sep.nil _ _) fun dt du cj v _ ck=>?_
    have a2:=tm t v
    have cl:=au.join v ck t.size
    have a3:=ae.ext v
    have cn:=Aw av v.size
    refine Ah (Am a3 (Av 2 rfl (bB c fun dv co c=>(AF (i:=1) (S:=(· < cj.heap.size)) GG Tryz.underlying41 rfl rfl rfl a2 cl rfl (n.ro a2) co fun dw cp cq ah cr a4=>?_))))
    have a5:=a3.wr' ah.1 ah.2.1 (fun b hlt hb=>absurd hlt (AK.2 (u b hb)))
    have cs:∀ b ∈ cp,f.heap.size ≤ b:=fun b hb=>(ah.2.2 b hb).elim (u b) fun h=>Aw cn h
    refine Ah (Am a5 (Av 5 rfl (bB c fun ct cu c=>(AF (i:=1) (S:=(· < cq.heap.size)) GG Tryz.underlying41 rfl rfl rfl cr a4 rfl (a4.own_ro (i:=0) rfl) cu fun cv cw dx a6 cx cy=>?_))))
    have a7:=a5.wr' a6.1 a6.2.1 (fun b hlt hb=>absurd hlt (AK.2 (cs b hb)))
    refine Ah (Am a7 (Ad 6 rfl j a7 (AC rfl rfl (Ba ?_))))
    exact jx (ab ct cv cw _ c cx (cy.sel [1] rfl)) rfl
  ·refine Bc (vs:=[(.agg #[(iv d.1),(iv d.2.1),(iv d.2.2)])]) (l:=[d]) GG Tryz.underlying41 rfl rfl rfl rfl rfl rfl (Bf f) (Sep.nil _ _) fun dy dz cz w _ c0=>?_
   have a8:=tm p w
   have c1:=ad.join w c0 p.size
   have a9:=q.ext w
   have ba:=Aw (Nat.le_refl f.heap.size) w.size
   refine Ah (Am a9 (Av 0 rfl (Bc (vs:=[]) (l:=[]) GG Tryz.underlying41 rfl rfl rfl rfl rfl rfl (Bf cz) (Sep.nil _ _) fun d0 c2 c3 x _ bb=>?_)))
   have bc:=tm a8 x
   have c4:=c1.join x bb a8.size
   have bd:∀ b ∈ c2,f.heap.size ≤ b:=fun b hb=>Aw ba ((bb.1 _ (List.mem_cons_self ..)).2.1 b hb).1
   have be:=a9.ext x
   have c5:=Aw ba x.size
   refine Ah (Am be (Av 2 rfl (bB c fun d1 c6 c=>(AF (i:=0) (S:=(· < c3.heap.size)) GG Tryz.underlying41 rfl rfl rfl bc c4 rfl (n.ro bc) c6 fun d2 c7 c8 ai c9 bf=>?_))))
   have bg:=be.wr' ai.1 ai.2.1 (fun b hlt hb=>absurd hlt (AK.2 (bd b hb)))
   have da:∀ b ∈ c7,f.heap.size ≤ b:=fun b hb=>(ai.2.2 b hb).elim (bd b) fun h=>Aw c5 h
   refine Ah (Am bg (Av 5 rfl (bB c fun db dc c=>(AF (i:=0) (S:=(· < c8.heap.size)) GG Tryz.underlying41 rfl rfl rfl c9 bf rfl (bf.own_ro (i:=1) rfl) dc fun dd de d3 bh df dg=>?_))))
   have bi:=bg.wr' bh.1 bh.2.1 (fun b hlt hb=>absurd hlt (AK.2 (da b hb)))
   refine Ah (Am bi (Ad 6 rfl j bi (AC rfl rfl (Ba ?_))))
   exact jx (ab db dd de _ c df (dg.sel [0] rfl)) rfl
theorem D8 (j:Ae) (v:Ae2) (p:Ac) (n:Al) (q:Int) (x:Int) (bh:Sep 0 j [Ab Az n p v]) (r:Ae2) (c:Bj v q x = some r) :
  A1 210 [p,(iv q),(iv x),(.func (.func 115) #[] #[])] j fun e w'=>e = .returned (.tuple #[]) ∧ Below 0 (wE j) w' ∧ Sep 0 w' [A6 j (Be [Ab Az n p v]),Ab Az n p r]:=by
 refine Ij Tryz.func210 rfl Tryz.ntmps210 rfl rfl fun Q hQn hQ d=>?_
 have hB:Bl (wE j) j:=Ej j
 have hS:Sp (wE j) j [A6 j (Be [Ab Az n p v]),Ab Az n p v]:=bh.rest
 unfold Bj at c
 refine An 3 rfl (A0 (AU (fun m a w2=>∃ (l5:Ae2) (w:Int),St 53 [(0,p),(1,(iv q)),(2,(iv x)),(3,(.func (.func 115) #[] #[])),(8,(iv w))] a ∧ Bl (wE j) w2 ∧ Sp (wE j) w2 [A6 j (Be [Ab Az n p v]),Ab Az n p l5] ∧ AW x q m l5 w = some r) FU ?_ ?_))
 ·exact fun a ha=>⟨v,(Ag (q + 1)),ha.sb rfl,hB,(hS.sel [0,1] rfl),c⟩
 ·rintro m9 a w2 ⟨l5,w,ha,av,aw,c⟩ cr bk
  refine BE ?_ ha
  cases m9 with
  | zero=>exact Bg c
  | succ m9 =>
   obtain ⟨ax,ay⟩:∃ k,k = AW x q m9:=⟨_,rfl⟩
   rw [AW,← ay] at c
   refine Ap fun _ bl=>An 3 rfl (A3 rfl c (fun _ c=>?_) (fun _ c=>?_))
   ·refine Au (bl ?_)
    refine Ap fun _ bm=>A0 (An 2 rfl (A0 (AU (fun m a al=>∃ (y:Ae2) (u:Int),St 53 [(0,p),(1,(iv q)),(2,(iv x)),(3,(.func (.func 115) #[] #[])),(8,(iv w)),(9,(iv u))] a ∧ Bl (wE j) al ∧ Sp (wE j) al [A6 j (Be [Ab Az n p v]),Ab Az n p y] ∧ Bm ax w q m y u = some r) FU ?_ ?_)))
    ·exact fun a ha=>⟨l5,w,ha.sb rfl,av,(aw.sel [0,1] rfl),c⟩
    ·rintro ab a al ⟨y,u,ha,bn,bo,c⟩ cs bp
     refine BE ?_ ha
     cases ab with
     | zero=>exact Bg c
     | succ ab =>
      obtain ⟨ct,az⟩:∃ k,k = Bm ax w q ab:=⟨_,rfl⟩
      rw [Bm,← az] at c
      refine Ap fun _ bq=>Ap fun br bs=>?_
      obtain ⟨bt,bu,c⟩:=Cj c
      have a0:∀ (am:Bool) (ag:Ae) (_:bt am = some r) (_:Bl (wE j) ag) (_:Sp (wE j) ag [A6 j (Be [Ab Az n p v]),Ab Az n p y]),∀ a,St 53 [(0,p),(1,(iv q)),(2,(iv x)),(3,(.func (.func 115) #[] #[])),(8,(iv w)),(9,(iv u)),(34,(.bool am))] a → br a ag:=by
       intro am ag c a1 a2
       subst bu
       refine bs (A3 rfl c (fun _ c=>?_) (fun _ c=>?_))
       ·refine Au (bq ?_)
        refine Ap fun bv bw=>?_
        obtain ⟨bx,bz,c⟩:=Cj c
        have a3:∀ (ah:Ae2) (ai:Ae) (_:bx ah = some r) (_:Bl (wE j) ai) (_:Sp (wE j) ai [A6 j (Be [Ab Az n p v]),Ab Az n p ah]),∀ a,St 53 [(0,p),(1,(iv q)),(2,(iv x)),(3,(.func (.func 115) #[] #[])),(8,(iv w)),(9,(iv u))] a → bv a ai:=by
         intro ah ai c b0 b1
         subst bz
         refine bw (As (Aq 3 rfl ?_))
         rw [az] at c
         exact fun a ha=>bp a _ ab (AB ab) ⟨ah,(Ag (u - 1)),ha.sb rfl,b0,(b1.sel [0,1] rfl),c⟩
        refine A0 (AQ B4 n a1 a2 fun ac _ a4 z=>?_)
        have l:=KeepX.refl ac n
        refine Ax 0 rfl d l (Ax 1 rfl d l (Ax 2 rfl d l (Ax 3 rfl d l (Ad 4 rfl d l (GM rfl rfl rfl (Ax 5 rfl d l (Ax 6 rfl d l (Ad 7 rfl d l (GM rfl rfl rfl (bB c fun s b2 c=>(Ad 8 rfl d l (Bv (e:=Az) (i:=1) Tryz.underlying72 rfl rfl rfl z rfl b2 ?_))))))))))))
        rintro cu _ rfl a5 cv
        refine Ax 10 rfl d l (Ax 11 rfl d l (bB c fun t b3 c=>(Ad 12 rfl d l (Bv (e:=Az) (i:=1) Tryz.underlying72 rfl rfl rfl z rfl b3 ?_))))
        rintro cw _ rfl a6 cx
        refine C0 (is:=[9,13]) (by kernel_rfl) rfl (Bb.2 ⟨⟨_,rfl,?_⟩,Bb.2 ⟨⟨_,rfl,?_⟩,fun _ h=>by cases h⟩⟩)
        ·refine BZ BD rfl a5 rfl ?_
         refine Ah (Am l (Av 13 rfl (BZ BD rfl a6 rfl (Ah (Am l (bB c fun cy a7 c=>(Ad 14 rfl d l (Bv (e:=Az) (i:=1) Tryz.underlying72 rfl rfl rfl z rfl a7 ?_))))))))
         rintro cz _ rfl c0 b4
         refine Av 15 rfl (BT (i:=1) (o:=0) (vs:=[(iv s.1),(iv s.2.1),(iv s.2.2.1),(iv s.2.2.2)]) (u':=s) Cs BD rfl rfl rfl rfl b4 a7 a4 z rfl rfl ⟨rfl,rfl,rfl,rfl,trivial⟩ rfl fun c1 an b5 a8=>?_)
         have ao:=l.wr' an.1 an.2.1 (fun _ _ h=>h)
         have b6:∀ b,b < ac.heap.size → b ∈ n → b ∈ n:=fun b hlt hb=>(an.2.2 b hb).elim ((fun _ _ h=>h) b hlt) (fun h=>absurd hlt (AK.2 (Aw (Nat.le_refl ac.heap.size) h)))
         refine Ah (Am ao (Av 16 rfl (bB c fun c2 a9 c=>(Cw (e:=Az) (i:=1) Tryz.underlying72 rfl rfl rfl a8 rfl a9 ?_))))
         rintro c3 _ rfl c4 b7
         refine Ah (Am ao (Av 17 rfl (BT (i:=1) (o:=0) (vs:=[(iv t.1),(iv t.2.1),(iv t.2.2.1),(iv t.2.2.2)]) (u':=t) Cs BD rfl rfl rfl rfl b7 a9 b5 a8 rfl rfl ⟨rfl,rfl,rfl,rfl,trivial⟩ rfl fun c5 ba b8 b9=>?_)))
         have ca:=ao.wr' ba.1 ba.2.1 (b6)
         refine Ah (Am ca (Ba ?_))
         exact jx (a3 ((BG (BG y u s) (Ag (u - 1)) t)) _ c b8 (b9.sel [0,1] rfl)) rfl
        ·refine BZ BD rfl a6 rfl ?_
         refine Ah (Am l (Av 9 rfl (BZ BD rfl a5 rfl (Ah (Am l (bB c fun c6 bb c=>(Ad 14 rfl d l (Bv (e:=Az) (i:=1) Tryz.underlying72 rfl rfl rfl z rfl bb ?_))))))))
         rintro c7 _ rfl c8 cb
         refine Av 15 rfl (BT (i:=1) (o:=0) (vs:=[(iv s.1),(iv s.2.1),(iv s.2.2.1),(iv s.2.2.2)]) (u':=s) Cs BD rfl rfl rfl rfl cb bb a4 z rfl rfl ⟨rfl,rfl,rfl,rfl,trivial⟩ rfl fun c9 ap cc bc=>?_)
         have aq:=l.wr' ap.1 ap.2.1 (fun _ _ h=>h)
         have cd:∀ b,b < ac.heap.size → b ∈ n → b ∈ n:=fun b hlt hb=>(ap.2.2 b hb).elim ((fun _ _ h=>h) b hlt) (fun h=>absurd hlt (AK.2 (Aw (Nat.le_refl ac.heap.size) h)))
         refine Ah (Am aq (Av 16 rfl (bB c fun da bd c=>(Cw (e:=Az) (i:=1) Tryz.underlying72 rfl rfl rfl bc rfl bd ?_))))
         rintro db _ rfl dc ce
         refine Ah (Am aq (Av 17 rfl (BT (i:=1) (o:=0) (vs:=[(iv t.1),(iv t.2.1),(iv t.2.2.1),(iv t.2.2.2)]) (u':=t) Cs BD rfl rfl rfl rfl ce bd cc bc rfl rfl ⟨rfl,rfl,rfl,rfl,trivial⟩ rfl fun dd be cf cg=>?_)))
         have ch:=aq.wr' be.1 be.2.1 (cd)
         refine Ah (Am ch (Ba ?_))
         exact jx (a3 ((BG (BG y u s) (Ag (u - 1)) t)) _ c cf (cg.sel [0,1] rfl)) rfl
       ·refine Bd (bm ?_)
        refine As (Aq 3 rfl ?_)
        rw [ay] at c
        exact fun a ha=>bk a _ m9 (AB m9) ⟨y,(Ag (w + 1)),ha.sb rfl,a1,(a2.sel [0,1] rfl),c⟩
      refine AQ B4 [] bn bo fun bf _ bg aj=>?_
      have g:=KeepX.refl bf []
      refine Ax 0 rfl d g (Ax 1 rfl d g (Ad 2 rfl d g (Tg rfl rfl rfl (Ax 3 rfl d g ?_))))
      rcases bE (decide (q < u)) with f | f
      ·replace c:=BA f c
       refine BF 4 rfl d f g (Da rfl rfl (BF 5 rfl d f g (Da rfl rfl (BF 6 rfl d f g (Da rfl rfl (bB c fun ad ci c=>(BF 7 rfl d f g (Bv (e:=Az) (i:=1) Tryz.underlying72 rfl rfl rfl aj rfl ci ?_))))))))
       rintro de _ rfl cj df
       refine BF 8 rfl d f g (BL BD rfl (cj.kx0) rfl (BF 9 rfl d f g (Da rfl rfl (BF 10 rfl d f g (Da rfl rfl (BF 11 rfl d f g (GM rfl rfl rfl (bB c fun ae ck c=>(BF 12 rfl d f g (Bv (e:=Az) (i:=1) Tryz.underlying72 rfl rfl rfl aj rfl ck ?_))))))))))
       rintro dg _ rfl cl dh
       refine BF 13 rfl d f g (BL BD rfl (cl.kx0) rfl (Av 14 rfl (wn rfl f (bB c fun cm cn c=>(PD (caps:=[]) (vs:=[(.agg #[(iv ad.1),(iv ad.2.1),(iv ad.2.2.1),(iv ad.2.2.2)]),(.agg #[(iv ae.1),(iv ae.2.1),(iv ae.2.2.1),(iv ae.2.2.2)])]) rfl rfl Tryz.call115 (GE bf ad ae _ cn) rfl ?_)))))
       rintro _ di ⟨rfl,ar⟩
       refine ⟨_,rfl,?_⟩
       have co:=tm bg ar
       have cp:=aj.below ar
       have au:=g.ext ar
       refine Ah (Am au (BF 15 rfl d f au (LY rfl rfl rfl (Ad 16 rfl d au (Ep rfl rfl f rfl (Ba ?_))))))
       exact jx (a0 ((decide (cm < 0))) _ c co (cp.sel [0,1] rfl)) rfl
      ·replace c:=Cf f c
       refine AZ 4 rfl d f g (AZ 5 rfl d f g (AZ 6 rfl d f g (AZ 7 rfl d f g (AZ 8 rfl d f g (AZ 9 rfl d f g (AZ 10 rfl d f g (AZ 11 rfl d f g (AZ 12 rfl d f g (AZ 13 rfl d f g (AZ 14 rfl d f g (AZ 15 rfl d f g (Ad 16 rfl d g (FV rfl rfl f rfl (Ba ?_))))))))))))))
       exact jx (a0 false _ c bg (aj.sel [0,1] rfl)) rfl
   ·refine Bd ?_
    obtain rfl:=Option.some.inj c
    exact LW (vs:=[]) hQn rfl trivial ⟨rfl,av,aw.sel [0,1] rfl⟩
theorem CW (g:Ae) (s:Ae2) (l:Ac) (j:Al) (t:Int) (u:Int) (v:Int) (ay:Sep 0 g [Ab Az j l s]) (r:Ae2) (c:B7 s t u v = some r) :
  A1 253 [l,(iv t),(iv u),(iv v),(.func (.func 115) #[] #[])] g fun e w'=>e = .returned (.tuple #[]) ∧ Below 0 (wE g) w' ∧ Sep 0 w' [A6 g (Be [Ab Az j l s]),Ab Az j l r]:=by
 refine Ij Tryz.func253 rfl Tryz.ntmps253 rfl rfl fun Q hQn hQ f=>?_
 have hB:Bl (wE g) g:=Ej g
 have hS:Sp (wE g) g [A6 g (Be [Ab Az j l s]),Ab Az j l s]:=ay.rest
 unfold B7 at c
 refine An 1 rfl (A0 (AU (fun m a w2=>∃ (x:Ae2) (q:Int),St 38 [(0,l),(1,(iv t)),(2,(iv u)),(3,(iv v)),(10,(iv q))] a ∧ Bl (wE g) w2 ∧ Sp (wE g) w2 [A6 g (Be [Ab Az j l s]),Ab Az j l x] ∧ Bw v u t m x q = some r) FU ?_ ?_))
 ·exact fun a ha=>⟨s,0,ha.sb rfl,hB,(hS.sel [0,1] rfl),c⟩
 ·rintro y a w2 ⟨x,q,ha,ah,ai,c⟩ bq a1
  refine BE ?_ ha
  cases y with
  | zero=>exact Bg c
  | succ y =>
   obtain ⟨br,aj⟩:∃ k,k = Bw v u t y:=⟨_,rfl⟩
   rw [Bw,← aj] at c
   refine Ap fun _ a2=>An 3 rfl (A3 rfl c (fun _ c=>?_) (fun _ c=>?_))
   ·refine Au (a2 ?_)
    refine Ap fun a3 a4=>?_
    obtain ⟨a5,a6,c⟩:=Cj c
    have ak:∀ (aa:Ae2) (ab:Ae) (_:a5 aa = some r) (_:Bl (wE g) ab) (_:Sp (wE g) ab [A6 g (Be [Ab Az j l s]),Ab Az j l aa]),∀ a,St 38 [(0,l),(1,(iv t)),(2,(iv u)),(3,(iv v)),(10,(iv q))] a → a3 a ab:=by
     intro aa ab c a7 a8
     subst a6
     refine a4 (As (Aq 3 rfl ?_))
     rw [aj] at c
     exact fun a ha=>a1 a _ y (AB y) ⟨aa,(Ag (q + 1)),ha.sb rfl,a7,(a8.sel [0,1] rfl),c⟩
    refine A0 (AQ B4 j ah ai fun z _ al w=>?_)
    have d:=KeepX.refl z j
    refine Ax 0 rfl f d (Ax 1 rfl f d (Ax 2 rfl f d (Ad 3 rfl f d (E7 rfl rfl rfl (Ax 4 rfl f d (Ax 5 rfl f d (Ax 6 rfl f d (Ad 7 rfl f d (E7 rfl rfl rfl (Ax 8 rfl f d (Ax 9 rfl f d (Ax 10 rfl f d (Ad 11 rfl f d (E7 rfl rfl rfl (bB c fun n a9 c=>(Ad 12 rfl f d (Bv (e:=Az) (i:=1) Tryz.underlying72 rfl rfl rfl w rfl a9 ?_)))))))))))))))))
    rintro bs _ rfl am bt
    refine Ax 14 rfl f d (Ax 15 rfl f d (Ax 16 rfl f d (Ad 17 rfl f d (E7 rfl rfl rfl (bB c fun p ba c=>(Ad 18 rfl f d (Bv (e:=Az) (i:=1) Tryz.underlying72 rfl rfl rfl w rfl ba ?_)))))))
    rintro bu _ rfl an bv
    refine C0 (is:=[13,19]) (by kernel_rfl) rfl (Bb.2 ⟨⟨_,rfl,?_⟩,Bb.2 ⟨⟨_,rfl,?_⟩,fun _ h=>by cases h⟩⟩)
    ·refine BZ BD rfl am rfl ?_
     refine Ah (Am d (Av 19 rfl (BZ BD rfl an rfl (Ah (Am d (bB c fun bw ao c=>(Ad 20 rfl f d (Bv (e:=Az) (i:=1) Tryz.underlying72 rfl rfl rfl w rfl ao ?_))))))))
     rintro bx _ rfl bz bb
     refine Av 21 rfl (BT (i:=1) (o:=0) (vs:=[(iv n.1),(iv n.2.1),(iv n.2.2.1),(iv n.2.2.2)]) (u':=n) Cs BD rfl rfl rfl rfl bb ao al w rfl rfl ⟨rfl,rfl,rfl,rfl,trivial⟩ rfl fun b0 ad bc ap=>?_)
     have ae:=d.wr' ad.1 ad.2.1 (fun _ _ h=>h)
     have bd:∀ b,b < z.heap.size → b ∈ j → b ∈ j:=fun b hlt hb=>(ad.2.2 b hb).elim ((fun _ _ h=>h) b hlt) (fun h=>absurd hlt (AK.2 (Aw (Nat.le_refl z.heap.size) h)))
     refine Ah (Am ae (Av 22 rfl (bB c fun b1 aq c=>(Cw (e:=Az) (i:=1) Tryz.underlying72 rfl rfl rfl ap rfl aq ?_))))
     rintro b2 _ rfl b3 be
     refine Ah (Am ae (Av 23 rfl (BT (i:=1) (o:=0) (vs:=[(iv p.1),(iv p.2.1),(iv p.2.2.1),(iv p.2.2.2)]) (u':=p) Cs BD rfl rfl rfl rfl be aq bc ap rfl rfl ⟨rfl,rfl,rfl,rfl,trivial⟩ rfl fun b4 ar bf bg=>?_)))
     have bh:=ae.wr' ar.1 ar.2.1 (bd)
     refine Ah (Am bh (Ba ?_))
     exact jx (ak ((BG (BG x (Ag (t + q)) n) (Ag (u + q)) p)) _ c bf (bg.sel [0,1] rfl)) rfl
    ·refine BZ BD rfl an rfl ?_
     refine Ah (Am d (Av 13 rfl (BZ BD rfl am rfl (Ah (Am d (bB c fun b5 au c=>(Ad 20 rfl f d (Bv (e:=Az) (i:=1) Tryz.underlying72 rfl rfl rfl w rfl au ?_))))))))
     rintro b6 _ rfl b7 bi
     refine Av 21 rfl (BT (i:=1) (o:=0) (vs:=[(iv n.1),(iv n.2.1),(iv n.2.2.1),(iv n.2.2.2)]) (u':=n) Cs BD rfl rfl rfl rfl bi au al w rfl rfl ⟨rfl,rfl,rfl,rfl,trivial⟩ rfl fun b8 af bj av=>?_)
     have ag:=d.wr' af.1 af.2.1 (fun _ _ h=>h)
     have bk:∀ b,b < z.heap.size → b ∈ j → b ∈ j:=fun b hlt hb=>(af.2.2 b hb).elim ((fun _ _ h=>h) b hlt) (fun h=>absurd hlt (AK.2 (Aw (Nat.le_refl z.heap.size) h)))
     refine Ah (Am ag (Av 22 rfl (bB c fun b9 aw c=>(Cw (e:=Az) (i:=1) Tryz.underlying72 rfl rfl rfl av rfl aw ?_))))
     rintro ca _ rfl cb bl
     refine Ah (Am ag (Av 23 rfl (BT (i:=1) (o:=0) (vs:=[(iv p.1),(iv p.2.1),(iv p.2.2.1),(iv p.2.2.2)]) (u':=p) Cs BD rfl rfl rfl rfl bl aw bj av rfl rfl ⟨rfl,rfl,rfl,rfl,trivial⟩ rfl fun cc ax bm bn=>?_)))
     have bo:=ag.wr' ax.1 ax.2.1 (bk)
     refine Ah (Am bo (Ba ?_))
     exact jx (ak ((BG (BG x (Ag (t + q)) n) (Ag (u + q)) p)) _ c bm (bn.sel [0,1] rfl)) rfl
   ·refine Bd ?_
    obtain rfl:=Option.some.inj c
    exact LW (vs:=[]) hQn rfl trivial ⟨rfl,ah,ai.sel [0,1] rfl⟩
theorem He (f:Ae) (j:Ae2) (b:Ac) (c:Al) (u:Int) (g:Int) (v:Int) (ac:Sep 0 f [Ab Az c b j]) (r:Ae2) (d:BJ j u g v = some r) :
  A1 235 [b,(iv u),(iv g),(iv v),(.func (.func 115) #[] #[])] f fun e w'=>e = .returned (.tuple #[]) ∧ Below 0 (wE f) w' ∧ Sep 0 w' [A6 f (Be [Ab Az c b j]),Ab Az c b r]:=by
 refine Ij Tryz.func235 rfl Tryz.ntmps235 rfl rfl fun Q hQn hQ hP=>?_
 have hB:Bl (wE f) f:=Ej f
 have hS:Sp (wE f) f [A6 f (Be [Ab Az c b j]),Ab Az c b j]:=ac.rest
 unfold BJ at d
 refine An 4 rfl (An 4 rfl (Ap fun _ af=>(A0 (AU (fun m a p=>∃ (h:Ae2) (i:Int) (n:Int),St 58 [(0,b),(2,(iv g)),(4,(.func (.func 115) #[] #[])),(10,(iv i)),(11,(iv n))] a ∧ Bl (wE f) p ∧ Sp (wE f) p [A6 f (Be [Ab Az c b j]),Ab Az c b h] ∧ B0 g m h i n = some r) FU ?_ ?_))))
 ·exact fun a ha=>⟨j,(Ag (g - u)),(Ag (v - g)),ha.sb rfl,hB,(hS.sel [0,1] rfl),d⟩
 ·rintro o a p ⟨h,i,n,ha,q,l,d⟩ a2 y
  refine BE ?_ ha
  cases o with
  | zero=>exact Bg d
  | succ o =>
   obtain ⟨a3,w⟩:∃ k,k = B0 g o:=⟨_,rfl⟩
   rw [B0,← w] at d
   refine Ap fun _ ag=>An 3 rfl (A3 rfl d (fun _ d=>?_) (fun _ d=>?_))
   ·refine Au (ag ?_)
    refine A0 (An 3 rfl (A3 rfl d (fun _ d=>?_) (fun _ d=>?_)))
    ·refine Ak fun _ ah=>?_
     refine wp 7 rfl (bB d fun s ai d=>(A7 rfl Tryz.call253 (CW p h b c (Ag (g - i)) g n (l.sel [1] rfl).base0 _ ai) rfl ?_))
     rintro _ aj ⟨rfl,ak,z⟩
     refine ⟨_,rfl,?_⟩
     have al:=l.mutB [1] rfl (M:=[Ab Az c b h]) rfl (M':=[Ab Az c b s]) rfl q q.size ak z
     have am:Sp (wE f) aj [Ab Az c b s,A6 f (Be [Ab Az c b j])]:=l.mut [1] [0] rfl (M:=[Ab Az c b h]) rfl (M':=[Ab Az c b s]) rfl z
     refine Ah (ah (As (Aq 4 rfl ?_)))
     rw [w] at d
     exact fun a ha=>y a _ o (AB o) ⟨s,(Ag (i - n)),n,ha.sb rfl,al,(am.sel [1,0] rfl),d⟩
    ·refine Ak fun _ an=>?_
     refine wp 11 rfl (bB d fun t ao d=>(A7 rfl Tryz.call253 (CW p h b c (Ag (g - i)) (Ag ((Ag (g + n)) - i)) i (l.sel [1] rfl).base0 _ ao) rfl ?_))
     rintro _ ap ⟨rfl,aq,aa⟩
     refine ⟨_,rfl,?_⟩
     have ar:=l.mutB [1] rfl (M:=[Ab Az c b h]) rfl (M':=[Ab Az c b t]) rfl q q.size aq aa
     have au:Sp (wE f) ap [Ab Az c b t,A6 f (Be [Ab Az c b j])]:=l.mut [1] [0] rfl (M:=[Ab Az c b h]) rfl (M':=[Ab Az c b t]) rfl aa
     refine Ah (an (As (Aq 4 rfl ?_)))
     rw [w] at d
     exact fun a ha=>y a _ o (AB o) ⟨t,i,(Ag (n - i)),ha.sb rfl,ar,(au.sel [1,0] rfl),d⟩
   ·refine Bd (af ?_)
    refine As (wp 7 rfl (bB d fun x av d=>(A7 rfl Tryz.call253 (CW p h b c (Ag (g - i)) g i (l.sel [1] rfl).base0 _ av) rfl ?_)))
    rintro _ aw ⟨rfl,ax,ab⟩
    refine ⟨_,rfl,?_⟩
    have ay:=l.mutB [1] rfl (M:=[Ab Az c b h]) rfl (M':=[Ab Az c b x]) rfl q q.size ax ab
    have az:Sp (wE f) aw [Ab Az c b x,A6 f (Be [Ab Az c b j])]:=l.mut [1] [0] rfl (M:=[Ab Az c b h]) rfl (M':=[Ab Az c b x]) rfl ab
    refine Ah ?_
    obtain rfl:=Option.some.inj d
    exact LW (vs:=[]) hQn rfl trivial ⟨rfl,ay,az.sel [1,0] rfl⟩
end Go.Proofs.YtellehgihceicaaGreatDoor
