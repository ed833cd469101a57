/-
  THE WALKS of functions of this seat, by program (gen.py, prune.py).
-/
import Derived.Test.YtellehgihceicaaGreatDoorBld
set_option linter.unusedVariables false
set_option linter.unusedSimpArgs false
set_option maxRecDepth 100000
set_option maxHeartbeats 1600000
namespace Go.Proofs.YtellehgihceicaaGreatDoor
open Go Go.RowKit
theorem UG (b:Ae)  (r:(Ae4 × Ae4 × Int × Ae4 × Ae5 × Ae7 × (List Int) × (List Int) × Int)) (h:Lp  = some r) :
  A1 63 [] b fun e w'=>∃ (j:Nat) (m:An),e = .returned (.pointer (some ⟨j,0,none⟩)) ∧ Bl b w' ∧ Sp b w' [A3 B1 74 m j r]:=by
 refine cm Tryz.func63 Tryz.ntmps63 rfl fun Q n hP o p=>?_
 unfold Lp at h
 refine Al 1 rfl (Ak fun _ q=>(DY (zs:=[(iv 0),(iv 0)]) (out:=[(iv 0),(iv 0)]) (vs:=[]) (css:=[]) Bt LE rfl rfl rfl rfl rfl (Bb (vs:=[(.agg #[(iv 0),(iv 0)])]) (l:=[(0,0)]) CC Tryz.underlying26 rfl rfl rfl rfl rfl rfl o p fun c F4 w5 _ s t=>(DY (zs:=[(iv 0),(iv 0)]) (out:=[(iv 0),(iv 0)]) (vs:=[]) (css:=[]) Bt LE rfl rfl rfl rfl rfl (Bb (vs:=[(.agg #[(iv 0),(iv 0)])]) (l:=[(0,0)]) CC Tryz.underlying26 rfl rfl rfl rfl rfl rfl s t fun d ak al _ u v=>(DY (zs:=[(iv 0),(iv 0)]) (out:=[(iv 4),(iv 120)]) (vs:=[(iv 4),(iv 120)]) (css:=[[(iv 4)],[(iv 120)]]) GR VK rfl rfl rfl rfl rfl (Bb (vs:=[(.agg #[(iv 4),(iv 120)])]) (l:=[(4,120)]) GM Tryz.underlying31 rfl rfl rfl rfl rfl rfl u v fun f am an _ w x=>(DY (zs:=[(iv 0),(iv 0),(iv 0)]) (out:=[(iv (-1)),(iv 0),(iv 0)]) (vs:=[(iv (-1))]) (css:=[[(iv (-1))]]) LC VJ rfl rfl rfl rfl rfl (Bb (vs:=[(.agg #[(iv (-1)),(iv 0),(iv 0)])]) (l:=[((-1),0,0)]) GL Tryz.underlying41 rfl rfl rfl rfl rfl rfl w x fun g ao ap _ y a=>(DY (zs:=[(.slice none 0 0),(.slice none 0 0),(iv 0),(.slice none 0 0),(.slice none 0 0),(.slice none 0 0),(.slice none 0 0),(.slice none 0 0),(iv 0)]) (out:=[c,d,(iv 8),f,(.slice none 0 0),g,(.slice none 0 0),(.slice none 0 0),(iv 0)]) (vs:=[c,d,(iv 8),f,g]) (css:=[[c],[d],[(iv 8)],[f],[g]]) Adw Ady rfl rfl (by simp only [List.map_cons,List.map_nil,Cl ((a.own_ro (i:=3) rfl).one),Cl ((a.own_ro (i:=2) rfl).one),Cl ((a.own_ro (i:=1) rfl).one),Cl ((a.own_ro (i:=0) rfl).one)] <;> rfl) rfl rfl (CM rfl y a fun k z _ aa ab=>(Aq 1 rfl (q (Aw ?_))))))))))))))
 have ac:=ab.push0 (r:=Ab A0 [] (.slice none 0 0) []) rfl fun _=>.inl ⟨rfl,rfl,rfl⟩
 have ad:=ac.push0 (r:=Ab Ao [] (.slice none 0 0) []) rfl fun _=>.inl ⟨rfl,rfl,rfl⟩
 have ae:=ad.push0 (r:=Ab Ao [] (.slice none 0 0) []) rfl fun _=>.inl ⟨rfl,rfl,rfl⟩
 obtain ⟨af,ag⟩:∃ F,Sp b z [A3 B1 74 F k ([(0,0)],[(0,0)],8,[(4,120)],[],[((-1),0,0)],[],[],0)]:=⟨_,D5 (ae.sel [3,7,6,5,2,4,1,0] rfl)⟩
 refine rt n rfl rfl (by cases h; exact ⟨k,af,rfl,aa,ag.sel [0] rfl⟩)
theorem PB (c:Ae) (d:(List Aj)) (f:Int) (r:(List (List Aj))) (b:FQ d f = some r) :
  A1 73 [(.string (B5 d)),(.int .u8 f)] c fun e w'=>∃ (z:Ac) (G0:An),e = .returned z ∧ Bl c w' ∧ Sp c w' [Ab Cx G0 z r]:=by
 refine cm Tryz.func73 Tryz.ntmps73 rfl fun Q hQ hP hB hS=>?_
 unfold FQ at b
 refine Al 1 rfl (Al 1 rfl (Al 1 rfl (Am fun _ ak=>(Al 1 rfl (Az (AN (fun m a u=>∃ (j:(List (List Aj))) (n:Int) (g:Int) (o:Ac) (v:An),St 34 [(0,(.string (B5 d))),(1,(.int .u8 f)),(5,o),(6,(iv n)),(7,(iv g))] a ∧ Bl c u ∧ Sp c u [Ab Cx v o j] ∧ Fg d f m j n g = some r) FU ?_ ?_))))))
 ·have al:=hS.push0 (r:=Ab Cx [] (.slice none 0 0) []) rfl fun _=>.inl ⟨rfl,rfl,rfl⟩
  exact fun a ha=>⟨[],0,0,(.slice none 0 0),[],ha.sb rfl,hB,(al.sel [0] rfl),b⟩
 ·rintro h a u ⟨j,n,g,o,v,ha,w,x,b⟩ bj am
  refine BB ?_ ha
  cases h with
  | zero=>exact Be b
  | succ h =>
   obtain ⟨bk,aa⟩:∃ k,k = Fg d f h:=⟨_,rfl⟩
   rw [Fg,← aa] at b
   refine Am fun _ an=>Ak fun _ ao=>wp 2 rfl (DJ Tryz.underlying9 rfl rfl (Aq 1 rfl (ao (A2 rfl b (fun _ b=>?_) (fun _ b=>?_)))))
   ·refine Au (an ?_)
    refine Am fun ap aq=>?_
    obtain ⟨ar,au,b⟩:=Nd b
    have ab:∀ (p:(List (List Aj))) (q:Int) (s:Ac) (y:An) (t:Ae) (_:ar p q = some r) (_:Bl c t) (_:Sp c t [Ab Cx y s p]),∀ a,St 34 [(0,(.string (B5 d))),(1,(.int .u8 f)),(5,s),(6,(iv q)),(7,(iv g))] a → ap a t:=by
     intro p q s y t b av aw
     subst au
     refine aq (As (Aq 3 rfl ?_))
     rw [aa] at b
     exact fun a ha=>am a _ h (AB h) ⟨p,q,(Ag (g + 1)),s,y,ha.sb rfl,av,(aw.sel [0] rfl),b⟩
    refine Az (Ak fun _ ax=>(wp 2 rfl (bB b fun bl ay b=>(ES Tryz.underlying9 rfl rfl rfl ay (Aq 2 rfl (ax (A2 rfl b (fun _ b=>?_) (fun _ b=>?_))))))))
    ·refine Ak fun _ az=>?_
     refine wp 4 rfl (bB b fun ac a0 b=>(Kz Tryz.underlying9 rfl rfl a0 (.inr ⟨_,_,rfl,rfl⟩) (.inr ⟨_,_,rfl,rfl⟩) (Bb (vs:=[(.string (B5 ac))]) (l:=[ac]) IB Tryz.underlying61 rfl rfl rfl rfl rfl rfl w x fun bm bn a1 _ a2 ad=>(bB b fun a3 a4 b=>(AE (i:=1) (S:=(· < a1.heap.size)) IB Tryz.underlying61 rfl rfl rfl a2 ad rfl (ad.own_ro (i:=0) rfl) a4 fun a5 a6 bo _ a7 a8=>(Aq 1 rfl (az (As (Aq 3 rfl ?_)))))))))
     exact jx (ab a3 ((Ag (g + 1))) a5 a6 _ b a7 (a8.sel [1] rfl)) rfl
    ·refine Au ?_
     exact jx (ab j n o v _ b w (x.sel [0] rfl)) rfl
   ·refine Bc (ak ?_)
    refine Ak fun _ a9=>wp 3 rfl (bB b fun ae ba b=>(Kz Tryz.underlying9 rfl rfl ba (.inr ⟨_,_,rfl,rfl⟩) (.inl ⟨rfl,rfl⟩) (Bb (vs:=[(.string (B5 ae))]) (l:=[ae]) IB Tryz.underlying61 rfl rfl rfl rfl rfl rfl w x fun bp bq bb _ bc af=>(bB b fun br bd b=>(AE (i:=1) (S:=(· < bb.heap.size)) IB Tryz.underlying61 rfl rfl rfl bc af rfl (af.own_ro (i:=0) rfl) bd fun be bf bs _ bg bh=>(Aq 1 rfl (a9 (Aw (rt hQ rfl rfl (by cases b; exact ⟨be,bf,rfl,bg,bh.sel [1] rfl⟩))))))))))
theorem UH (j:Ae) (h:(List Aj)) (r:((List (List Aj)) × Bool)) (c:JM h = some r) :
  A1 59 [(.string (B5 h))] j fun e w'=>∃ (s:Ac) (G0:An),e = .returned (.tuple #[s,(.bool r.2)]) ∧ Bl j w' ∧ Sp j w' [Ab Cx G0 s r.1]:=by
 refine cm Tryz.func59 Tryz.ntmps59 rfl fun Q l hP m n=>?_
 unfold JM at c
 refine Al 2 rfl (Am fun _ ac=>(Am fun K3 ae=>?_))
 obtain ⟨k8,ag,c⟩:=Ch c
 have o:∀ (p:Bool) (k:Ae) (_:k8 p = some r) (_:Bl j k) (_:Sp j k []),∀ a,St 31 [(0,(.string (B5 h))),(19,(.bool p))] a → K3 a k:=by
  intro p k c t u
  subst ag
  refine ae (A2 rfl c (fun _ c=>?_) (fun _ c=>?_))
  ·refine Al 2 rfl ?_
   refine Aw ?_
   have ah:=u.push0 (r:=Ab Cx [] (.slice none 0 0) []) rfl fun _=>.inl ⟨rfl,rfl,rfl⟩
   refine rt l rfl rfl (by cases c; exact ⟨(.slice none 0 0),[],rfl,t,ah.sel [0] rfl⟩)
  ·refine Au (ac ?_)
   refine Ak fun _ ai=>wp 1 rfl (bB c fun v aj c=>(En rfl Tryz.call73 t u (PB k h 10 _ aj) rfl fun az a0 a1 _ _ w g=>(Aq 1 rfl (ai (Ak fun _ ak=>(wp 2 rfl (BQ (g.own_ro (i:=0) rfl) Tryz.underlying61 rfl (wp 1 rfl (bB c fun x q c=>(Lj (e:=Cx) Tryz.underlying61 rfl rfl (g.ok (i:=0) rfl:ownS Cx _ _ _ _).rd q (.inl ⟨rfl,rfl⟩) (.inr ⟨_,_,rfl,rfl⟩) fun y al am=>?_))))))))))
   have an:=al.mono fun b hb=>((g.get (i:=0) rfl).2.1 b hb).2
   refine Aq 1 rfl (ak (Am fun _ ao=>(Ak fun _ ap=>(wp 1 rfl (BQ an Tryz.underlying61 rfl (Aq 1 rfl (ap (A2 rfl c (fun _ c=>?_) (fun _ c=>?_)))))))))
   ·refine Al 2 rfl ?_
    refine Aw ?_
    have aq:=g.push0 (r:=Ab Cx [] (.slice none 0 0) []) rfl fun _=>.inl ⟨rfl,rfl,rfl⟩
    refine rt l rfl rfl (by cases c; exact ⟨(.slice none 0 0),[],rfl,w,aq.sel [0] rfl⟩)
   ·refine Au (ao ?_)
    refine Al 3 rfl (Aw ?_)
    obtain ⟨z,aa,ar,au⟩:=XH (g.ok (i:=0) rfl:ownS Cx _ _ _ _) (g.get (i:=0) rfl).1 am (VI q).1
    rw [show List.take ((Ag ((List.length v:Int) - 1)):Int).toNat v = x from (VI q).2.symm] at aa
    have av:=(g.sel [0] rfl).shrink (r':=Ab Cx z y x) ar au fun _ hk=>aa.keep hk
    refine rt l rfl rfl (by cases c; exact ⟨y,z,rfl,w,av.sel [0] rfl⟩)
 refine As (wp 1 rfl (DJ Tryz.underlying9 rfl rfl (wp 2 rfl ?_)))
 rcases bE (decide (2000 < (List.length h:Int))) with f | f
 ·replace c:=B9 f c
  refine wo rfl f (wo rfl f (wo rfl f (Dn rfl rfl rfl (Dn rfl rfl rfl (Dn rfl rfl rfl (Dn rfl rfl rfl (Dn rfl rfl rfl (Dn rfl rfl rfl (wo rfl f (AA rfl rfl f rfl (Ah ?_)))))))))))
  exact jx (o true _ c m (n.sel [] rfl)) rfl
 ·replace c:=Cf f c
  refine wn rfl f (wp 1 rfl (wn rfl f (Y7 rfl rfl rfl (wn rfl f (wp 1 rfl ?_)))))
  rcases bE (h != []) with d | d
  ·replace c:=B9 d c
   refine wn rfl d (wp 1 rfl (wn rfl d (wp 1 rfl (wn rfl d (DJ Tryz.underlying9 rfl rfl (wn rfl d (wp 1 rfl (wn rfl d (bB c fun aw ax c=>(ES Tryz.underlying9 rfl rfl rfl ax (wn rfl d (wp 1 rfl (wn rfl f (AA rfl rfl d rfl (A6 rfl rfl f rfl (Ah ?_))))))))))))))))
   exact jx (o (((UInt8.toNat aw:Int) != 10)) _ c m (n.sel [] rfl)) rfl
  ·replace c:=Cf d c
   refine wo rfl d (wo rfl d (wo rfl d (wo rfl d (wo rfl d (wo rfl d (wn rfl f (A6 rfl rfl d rfl (A6 rfl rfl f rfl (Ah ?_)))))))))
   exact jx (o false _ c m (n.sel [] rfl)) rfl
theorem UI (d:Ae) (c:(List Aj)) (r:Int) (b:GC c = some r) :
  A1 75 [(.string (B5 c))] d fun e w'=>e = .returned (iv r) ∧ Bl d w':=by
 refine cm Tryz.func75 Tryz.ntmps75 rfl fun Q g hP k l=>?_
 unfold GC at b
 refine Al 1 rfl (Am fun _ ac=>(Al 1 rfl (Az (Am fun K4 ae=>?_))))
 obtain ⟨k9,ag,b⟩:=Ch b
 have m:∀ (u:Bool) (n:Ae) (_:k9 u = some r) (_:Bl d n) (_:Sp d n []),∀ a,St 26 [(3,(.string (B5 c))),(4,(.bool u))] a → K4 a n:=by
  intro u n b f h
  subst ag
  refine ae (A2 rfl b (fun _ b=>?_) (fun _ b=>?_))
  ·refine Al 1 rfl ?_
   refine Aw (rt g rfl rfl (by cases b; exact ⟨rfl,f⟩))
  ·refine Am fun ah ai=>?_
   obtain ⟨aj,ak,b⟩:=Ch b
   have i:∀ (v:Bool) (o:Ae) (_:aj v = some r) (_:Bl d o) (_:Sp d o []),∀ a,St 26 [(3,(.string (B5 c))),(9,(.bool v))] a → ah a o:=by
    intro v o b j p
    subst ak
    refine ai (A2 rfl b (fun _ b=>?_) (fun _ b=>?_))
    ·refine Al 1 rfl ?_
     refine Aw (rt g rfl rfl (by cases b; exact ⟨rfl,j⟩))
    ·refine Am fun al am=>?_
     obtain ⟨an,ao,b⟩:=Ch b
     have q:∀ (w:Bool) (s:Ae) (_:an w = some r) (_:Bl d s) (_:Sp d s []),∀ a,St 26 [(3,(.string (B5 c))),(16,(.bool w))] a → al a s:=by
      intro w s b x aa
      subst ao
      refine am (A2 rfl b (fun _ b=>?_) (fun _ b=>?_))
      ·refine Al 1 rfl ?_
       refine Aw (rt g rfl rfl (by cases b; exact ⟨rfl,x⟩))
      ·refine Am fun ap aq=>?_
       obtain ⟨ar,au,b⟩:=Ch b
       have ab:∀ (y:Bool) (t:Ae) (_:ar y = some r) (_:Bl d t) (_:Sp d t []),∀ a,St 26 [(3,(.string (B5 c))),(21,(.bool y))] a → ap a t:=by
        intro y t b z a9
        subst au
        refine aq (A2 rfl b (fun _ b=>?_) (fun _ b=>?_))
        ·refine Al 1 rfl ?_
         refine Aw (rt g rfl rfl (by cases b; exact ⟨rfl,z⟩))
        ·refine Ak fun _ av=>?_
         refine AQ rfl rfl rfl (Aq 1 rfl (av (A2 rfl b (fun _ b=>?_) (fun _ b=>?_))))
         ·refine Al 1 rfl ?_
          refine Aw (rt g rfl rfl (by cases b; exact ⟨rfl,z⟩))
         ·refine Au (ac ?_)
          refine Al 1 rfl (Aw (rt g rfl rfl (by cases b; exact ⟨rfl,z⟩)))
       refine Ak fun _ aw=>AQ rfl rfl rfl (Aq 1 rfl (aw (A2 rfl b (fun _ b=>?_) (fun _ b=>?_))))
       ·refine Au ?_
        exact jx (ab ((c == [112,108,97,99,101])) _ b x (aa.sel [] rfl)) rfl
       ·refine As ?_
        refine AQ rfl rfl rfl (Aq 1 rfl ?_)
        exact jx (ab ((c == [118,101,114,115,105,111,110])) _ b x (aa.sel [] rfl)) rfl
     refine Ak fun _ ax=>AQ rfl rfl rfl (Aq 1 rfl (ax (A2 rfl b (fun _ b=>?_) (fun _ b=>?_))))
     ·refine Au ?_
      exact jx (q ((c == [115,112,111,116])) _ b j (p.sel [] rfl)) rfl
     ·refine Ak fun _ ay=>?_
      refine AQ rfl rfl rfl (Aq 1 rfl (ay (A2 rfl b (fun _ b=>?_) (fun _ b=>?_))))
      ·refine Au ?_
       exact jx (q ((c == [115,111,117,110,100])) _ b j (p.sel [] rfl)) rfl
      ·refine Ak fun _ az=>?_
       refine AQ rfl rfl rfl (Aq 1 rfl (az (A2 rfl b (fun _ b=>?_) (fun _ b=>?_))))
       ·refine Au ?_
        exact jx (q ((c == [109,101,97,115,117,114,101])) _ b j (p.sel [] rfl)) rfl
       ·refine As ?_
        refine AQ rfl rfl rfl (Aq 1 rfl ?_)
        exact jx (q ((c == [119,104,111])) _ b j (p.sel [] rfl)) rfl
   refine Ak fun _ a0=>AQ rfl rfl rfl (Aq 1 rfl (a0 (A2 rfl b (fun _ b=>?_) (fun _ b=>?_))))
   ·refine Au ?_
    exact jx (i ((c == [99,111,117,110,116,115])) _ b f (h.sel [] rfl)) rfl
   ·refine Ak fun _ a1=>?_
    refine AQ rfl rfl rfl (Aq 1 rfl (a1 (A2 rfl b (fun _ b=>?_) (fun _ b=>?_))))
    ·refine Au ?_
     exact jx (i ((c == [99,108,111,115,101])) _ b f (h.sel [] rfl)) rfl
    ·refine Ak fun _ a2=>?_
     refine AQ rfl rfl rfl (Aq 1 rfl (a2 (A2 rfl b (fun _ b=>?_) (fun _ b=>?_))))
     ·refine Au ?_
      exact jx (i ((c == [107,105,110,100])) _ b f (h.sel [] rfl)) rfl
     ·refine Ak fun _ a3=>?_
      refine AQ rfl rfl rfl (Aq 1 rfl (a3 (A2 rfl b (fun _ b=>?_) (fun _ b=>?_))))
      ·refine Au ?_
       exact jx (i ((c == [116,101,120,116])) _ b f (h.sel [] rfl)) rfl
      ·refine Ak fun _ a4=>?_
       refine AQ rfl rfl rfl (Aq 1 rfl (a4 (A2 rfl b (fun _ b=>?_) (fun _ b=>?_))))
       ·refine Au ?_
        exact jx (i ((c == [116,105,109,101])) _ b f (h.sel [] rfl)) rfl
       ·refine As ?_
        refine AQ rfl rfl rfl (Aq 1 rfl ?_)
        exact jx (i ((c == [115,116,97,116,101])) _ b f (h.sel [] rfl)) rfl
 refine Ak fun _ a5=>AQ rfl rfl rfl (Aq 1 rfl (a5 (A2 rfl b (fun _ b=>?_) (fun _ b=>?_))))
 ·refine Au ?_
  exact jx (m ((c == [109,105,114,114,111,114])) _ b k (l.sel [] rfl)) rfl
 ·refine Ak fun _ a6=>?_
  refine AQ rfl rfl rfl (Aq 1 rfl (a6 (A2 rfl b (fun _ b=>?_) (fun _ b=>?_))))
  ·refine Au ?_
   exact jx (m ((c == [107,101,101,112])) _ b k (l.sel [] rfl)) rfl
  ·refine Ak fun _ a7=>?_
   refine AQ rfl rfl rfl (Aq 1 rfl (a7 (A2 rfl b (fun _ b=>?_) (fun _ b=>?_))))
   ·refine Au ?_
    exact jx (m ((c == [115,117,109])) _ b k (l.sel [] rfl)) rfl
   ·refine As ?_
    refine AQ rfl rfl rfl (Aq 1 rfl ?_)
    exact jx (m ((c == [108,101,97,115,116])) _ b k (l.sel [] rfl)) rfl
theorem Ci (d:Ae) (f:Int) (h:Int) (i:Int) (r:Bool) (b:BR f h i = some r) :
  A1 77 [(iv f),(iv h),(iv i)] d fun e w'=>e = .returned (.bool r) ∧ Bl d w':=by
 refine cm Tryz.func77 Tryz.ntmps77 rfl fun Q n u k l=>?_
 unfold BR at b
 refine Al 1 rfl (Am fun o p=>?_)
 obtain ⟨q,s,b⟩:=Ch b
 have m:∀ (j:Bool) (g:Ae) (_:q j = some r) (_:Bl d g) (_:Sp d g []),∀ a,St 15 [(6,(.bool j))] a → o a g:=by
  intro j g b t v
  subst s
  refine p (Aw (rt n rfl rfl (by cases b; exact ⟨rfl,t⟩)))
 refine As (wp 4 rfl ?_)
 rcases bE (decide (h ≤ f)) with c | c
 ·replace b:=B9 c b
  refine wn rfl c (wp 1 rfl (wn rfl c (wp 1 rfl (wn rfl c (wp 1 rfl (AA rfl rfl c rfl (Aq 1 rfl ?_)))))))
  exact jx (m ((decide (f ≤ i))) _ b k (l.sel [] rfl)) rfl
 ·replace b:=Cf c b
  refine wo rfl c (wo rfl c (wo rfl c (A6 rfl rfl c rfl (Aq 1 rfl ?_))))
  exact jx (m false _ b k (l.sel [] rfl)) rfl
theorem V9 (g:Ae) (h:(List Aj)) (r:Int) (b:Kq h = some r) :
  A1 76 [(.string (B5 h))] g fun e w'=>e = .returned (iv r) ∧ Bl g w':=by
 refine cm Tryz.func76 Tryz.ntmps76 rfl fun Q p hP hB hS=>?_
 unfold Kq at b
 refine Al 1 rfl (Am fun _ af=>(Am fun K3 ah=>?_))
 obtain ⟨k8,aj,b⟩:=Ch b
 have q:∀ (s:Bool) (n:Ae) (_:k8 s = some r) (_:Bl g n) (_:Sp g n []),∀ a,St 44 [(0,(.string (B5 h))),(18,(.bool s))] a → K3 a n:=by
  intro s n b y ak
  subst aj
  refine ah (A2 rfl b (fun _ b=>?_) (fun _ b=>?_))
  ·refine Al 1 rfl ?_
   refine Aw (rt p rfl rfl (by cases b; exact ⟨rfl,y⟩))
  ·refine Au (af ?_)
   refine Al 1 rfl (Am fun _ al=>(Al 1 rfl (Az (AN (fun m a t=>∃ (i:Int) (j:Int),St 44 [(0,(.string (B5 h))),(3,(iv i)),(4,(iv j))] a ∧ Bl g t ∧ Sp g t [] ∧ FH h m i j = some r) FU ?_ ?_))))
   ·exact fun a ha=>⟨0,0,ha.sb rfl,y,(ak.sel [] rfl),b⟩
   ·rintro l a t ⟨i,j,ha,u,z,b⟩ a9 am
    refine BB ?_ ha
    cases l with
    | zero=>exact Be b
    | succ l =>
     obtain ⟨ba,aa⟩:∃ k,k = FH h l:=⟨_,rfl⟩
     rw [FH,← aa] at b
     refine Am fun _ an=>Ak fun _ ao=>wp 2 rfl (DJ Tryz.underlying9 rfl rfl (Aq 1 rfl (ao (A2 rfl b (fun _ b=>?_) (fun _ b=>?_)))))
     ·refine Au (an ?_)
      refine Am fun _ ap=>Az (Am fun _ aq=>(Am fun ar au=>?_))
      obtain ⟨av,aw,b⟩:=Ch b
      have ab:∀ (v:Bool) (o:Ae) (_:av v = some r) (_:Bl g o) (_:Sp g o []),∀ a,St 44 [(0,(.string (B5 h))),(3,(iv i)),(4,(iv j)),(34,(.bool v))] a → ar a o:=by
       intro v o b ac ax
       subst aw
       refine au (A2 rfl b (fun _ b=>?_) (fun _ b=>?_))
       ·refine Al 1 rfl ?_
        refine Aw (rt p rfl rfl (by cases b; exact ⟨rfl,ac⟩))
       ·refine Au (aq ?_)
        refine As (wp 4 rfl (bB b fun ay az b=>(ES Tryz.underlying9 rfl rfl rfl az (wp 1 rfl (DX Tryz.underlying5 Tryz.underlying3 rfl rfl (Aq 2 rfl (ap (As (Aq 3 rfl ?_)))))))))
        rw [aa] at b
        exact fun a ha=>am a _ l (AB l) ⟨(Ag ((Ag (10 * i)) + (Ag (M1 ((UInt8.toNat ay:Int) - 48))))),(Ag (j + 1)),ha.sb rfl,ac,(ax.sel [] rfl),b⟩
      refine As (wp 2 rfl (bB b fun a0 a1 b=>(ES Tryz.underlying9 rfl rfl rfl a1 (wp 2 rfl ?_))))
      rcases bE (decide ((UInt8.toNat a0:Int) < 48)) with d | d
      ·replace b:=B9 d b
       refine wo rfl d (wo rfl d (wo rfl d (wo rfl d (AA rfl rfl d rfl (Ah ?_)))))
       exact jx (ab true _ b u (z.sel [] rfl)) rfl
      ·replace b:=Cf d b
       refine wn rfl d (wp 1 rfl (wn rfl d (wp 1 rfl (wn rfl d (bB b fun a2 a3 b=>(ES Tryz.underlying9 rfl rfl rfl a3 (wn rfl d (wp 1 rfl (A6 rfl rfl d rfl (Ah ?_))))))))))
       exact jx (ab ((decide (57 < (UInt8.toNat a2:Int)))) _ b u (z.sel [] rfl)) rfl
     ·refine Bc (al ?_)
      refine Al 2 rfl (Aw (rt p rfl rfl (by cases b; exact ⟨rfl,u⟩)))
 refine As (wp 1 rfl (DJ Tryz.underlying9 rfl rfl (bB b fun a4 a5 b=>(Bs rfl Tryz.call77 hB hS (Ci g (List.length h:Int) 1 6 _ a5) rfl fun bb _ w x=>(wp 2 rfl ?_)))))
 rcases bE (!a4) with c | c
 ·replace b:=B9 c b
  refine wo rfl c (wo rfl c (wo rfl c (wo rfl c (Dn rfl rfl rfl (Dn rfl rfl rfl (Dn rfl rfl rfl (wo rfl c (AA rfl rfl c rfl (Ah ?_)))))))))
  exact jx (q true _ b w (x.sel [] rfl)) rfl
 ·replace b:=Cf c b
  refine wn rfl c (wp 1 rfl (wn rfl c (bB b fun a6 a7 b=>(ES Tryz.underlying9 rfl rfl rfl a7 (wn rfl c (wp 1 rfl (wn rfl c (wp 1 rfl ?_))))))))
  rcases bE ((UInt8.toNat a6:Int) == 48) with f | f
  ·replace b:=B9 f b
   refine wn rfl f (wp 1 rfl (wn rfl f (DJ Tryz.underlying9 rfl rfl (wn rfl f (wp 1 rfl (wn rfl c (AA rfl rfl f rfl (A6 rfl rfl c rfl (Ah ?_)))))))))
   exact jx (q ((decide (1 < (List.length h:Int)))) _ b w (x.sel [] rfl)) rfl
  ·replace b:=Cf f b
   refine wo rfl f (wo rfl f (wo rfl f (wn rfl c (A6 rfl rfl f rfl (A6 rfl rfl c rfl (Ah ?_))))))
   exact jx (q false _ b w (x.sel [] rfl)) rfl
theorem IM (a:Ae) (c:Ae4) (d:Ac) (h:RO Ar a d c) (r:Ae4) (b:Gr c = some r) :
  A1 90 [d] a fun e w'=>∃ (f:Ac) (j:An),e = .returned f ∧ Bl a w' ∧ Sp a w' [Ab Ar j f r]:=by
 refine cm Tryz.func90 Tryz.ntmps90 rfl fun Q k x m n=>?_
 unfold Gr at b
 refine Al 1 rfl (Ak fun _ o=>(Bb (vs:=[]) (l:=[]) CC Tryz.underlying26 rfl rfl rfl rfl rfl rfl m n fun y z p _ g q=>(wp 1 rfl (bB b fun u9 s b=>(AE (i:=0) (S:=(· < p.heap.size)) CC Tryz.underlying26 rfl rfl rfl g q rfl (h.ro g) s fun t u ab _ v w=>(Aq 1 rfl (o (Aw (rt k rfl rfl (by cases b; exact ⟨t,u,rfl,v,w.sel [0] rfl⟩))))))))))
theorem Np (f:Ae) (d:(Int × Int)) (r:Bool) (b:Ia d = some r) :
  A1 190 [(.agg #[(iv d.1),(iv d.2)])] f fun e w'=>e = .returned (.bool r) ∧ Bl f w':=by
 refine cm Tryz.func190 Tryz.ntmps190 rfl fun Q m hP n o=>?_
 unfold Ia at b
 refine Ak fun _ p=>CM rfl n o fun b2 q _ s j=>Aq 1 rfl (p (Am fun t u=>?_))
 obtain ⟨v,w,b⟩:=Ch b
 have k:∀ (h:Bool) (g:Ae) (_:v h = some r) (_:Bl f g) (_:Sp f g []),∀ a,St 11 [(2,(.bool h))] a → t a g:=by
  intro h g b x ah
  subst w
  refine u (Aw (rt m rfl rfl (by cases b; exact ⟨rfl,x⟩)))
 refine As (Bq CL rfl (AU 0 A4 rfl j rfl rfl (bB b fun y z b=>(Bs rfl Tryz.call77 s j (Ci q d.1 0 1280 _ z) rfl fun aa _ l i=>(wp 1 rfl ?_)))))
 rcases bE y with c | c
 ·replace b:=B9 c b
  refine wn rfl c (Bq CK rfl (wn rfl c (AU 0 A4 rfl i rfl rfl (wn rfl c (bB b fun ab ac b=>(Bs rfl Tryz.call77 l i (Ci aa d.2 0 672 _ ac) rfl fun ai _ ad ae=>(AA rfl rfl c rfl (Aq 1 rfl ?_))))))))
  exact jx (k ab _ b ad (ae.sel [] rfl)) rfl
 ·replace b:=Cf c b
  refine wo rfl c (wo rfl c (wo rfl c (A6 rfl rfl c rfl (Aq 1 rfl ?_))))
  exact jx (k false _ b l (i.sel [] rfl)) rfl
theorem Jn (c:Ae) (d:Ae4) (g:Ac) (l:RO Ar c g d) (r:Bool) (b:FN d = some r) :
  A1 132 [g] c fun e w'=>e = .returned (.bool r) ∧ Bl c w':=by
 refine cm Tryz.func132 Tryz.ntmps132 rfl fun Q p hP hB hS=>?_
 unfold FN at b
 refine Al 1 rfl (Am fun _ ah=>(Ak fun _ ai=>(wp 1 rfl (BQ l Tryz.underlying26 rfl (Aq 1 rfl (ai (Az (AN (fun m a n=>∃ (f:Int),St 33 [(0,g),(7,g),(8,(iv (List.length d:Int))),(9,(iv f))] a ∧ Bl c n ∧ Sp c n [] ∧ Em d m f = some r) FU ?_ ?_))))))))
 ·exact fun a ha=>⟨0,ha.sb rfl,hB,(hS.sel [] rfl),b⟩
 ·rintro i a n ⟨f,ha,q,aj,b⟩ bi ak
  refine BB ?_ ha
  cases i with
  | zero=>exact Be b
  | succ i =>
   obtain ⟨w,x⟩:∃ k,k = Em d i:=⟨_,rfl⟩
   rw [Em,← x] at b
   refine Al 1 rfl (Am fun _ al=>(A2 rfl b (fun _ b=>?_) (fun _ b=>?_)))
   ·refine Au (al ?_)
    refine Am fun _ am=>Az (Ak fun _ an=>(wp 1 rfl (bB b fun h ao b=>(BM (e:=Ar) Tryz.underlying26 rfl rfl rfl l ao ?_))))
    rintro bj _ rfl ap
    refine BV Bt rfl (ap.ro q) rfl (Ep Bt rfl q aj fun y bk _ aq ar=>(wp 1 rfl (Gq 0 Bt rfl rfl aq ar rfl rfl rfl fun au _ av z=>(Ah (an (Am fun _ aw=>(Ak fun _ ax=>(AU 0 Bt rfl z rfl rfl (bB b fun bl ay b=>(Bs rfl Tryz.call190 av z (Np au h _ ay) rfl fun bm _ aa az=>(Aq 1 rfl (ax (A2 rfl b (fun _ b=>?_) (fun _ b=>?_))))))))))))))
    ·refine Al 1 rfl ?_
     refine Aw (rt p rfl rfl (by cases b; exact ⟨rfl,aa⟩))
    ·refine Au (aw ?_)
     refine Ak fun _ a0=>wp 2 rfl (bB b fun s a1 b=>(PI (e:=Ar) Tryz.underlying26 rfl rfl l a1 (.inl ⟨rfl,rfl⟩) (.inr ⟨_,_,rfl,rfl⟩) fun a2 ab=>(BQ ab Tryz.underlying26 rfl (Aq 1 rfl (a0 (Az (AN (fun m a t=>∃ (o:Int),St 33 [(0,g),(4,(.pointer (some ⟨y,0,none⟩))),(7,g),(8,(iv (List.length d:Int))),(9,(iv f)),(19,a2),(20,(iv (List.length s:Int))),(21,(iv o))] a ∧ Bl c t ∧ Sp c t [A9 y 79 [(iv h.1),(iv h.2)]] ∧ FI s h w f m o = some r) FU ?_ ?_)))))))
     ·exact fun a ha=>⟨0,ha.sb rfl,aa,(az.sel [0] rfl),b⟩
     ·rintro j a t ⟨o,ha,u,ac,b⟩ bn a3
      refine BB ?_ ha
      cases j with
      | zero=>exact Be b
      | succ j =>
       obtain ⟨bo,ad⟩:∃ k,k = FI s h w f j:=⟨_,rfl⟩
       rw [FI,← ad] at b
       refine Al 1 rfl (Am fun _ a4=>(A2 rfl b (fun _ b=>?_) (fun _ b=>?_)))
       ·refine Au (a4 ?_)
        refine Am fun _ a5=>Az (Ak fun _ a6=>(bB b fun a7 a8 b=>(BM (e:=Ar) Tryz.underlying26 rfl rfl rfl ab a8 ?_)))
        rintro bp _ rfl a9
        refine BV Bt rfl (a9.ro u) rfl (Ep Bt rfl u ac fun bq br _ ba bb=>(Gq 0 Bt rfl rfl ba bb rfl rfl rfl fun bs _ ae v=>(Ah (a6 (Ak fun _ bc=>(AU 1 Bt rfl v rfl rfl (AU 0 Bt rfl v rfl rfl (Ace Tryz.eqGuardType79 (Abe h a7) rfl rfl rfl (Ah (bc (A2 rfl b (fun _ b=>?_) (fun _ b=>?_))))))))))))
        ·refine Al 1 rfl ?_
         refine Aw (rt p rfl rfl (by cases b; exact ⟨rfl,ae⟩))
        ·refine Au (a5 ?_)
         refine As (Aq 2 rfl ?_)
         rw [ad] at b
         exact fun a ha=>a3 a _ j (AB j) ⟨(Ag (o + 1)),ha.sb rfl,ae,(v.sel [1] rfl),b⟩
       ·refine Bc (am ?_)
        refine As (Aq 2 rfl ?_)
        rw [x] at b
        exact fun a ha=>ak a _ i (AB i) ⟨(Ag (f + 1)),ha.sb rfl,u,(ac.sel [] rfl),b⟩
   ·refine Bc (ah ?_)
    refine Ak fun _ bd=>wp 1 rfl (BQ l Tryz.underlying26 rfl (bB b fun bt be b=>(A7 rfl Tryz.call77 (Ci n (List.length d:Int) 1 12 _ be) rfl ?_)))
    rintro _ bu ⟨rfl,bf⟩
    refine ⟨_,rfl,?_⟩
    have bg:=tm q bf
    refine Aq 1 rfl (bd (Aw (rt p rfl rfl (by cases b; exact ⟨rfl,bg⟩))))
theorem Hf (c:Ae) (b:(Ae4 × Ae4 × Int × Ae4 × Ae5 × Ae7 × (List Int) × (List Int) × Int)) (d:Nat) (j:An) (g:Ae4) (h:Ac) (k:An) (m:Bool) (u:Sep 0 c [A3 B1 74 j d b,Ab Ar k h g]) (r:(Bool × (Ae4 × Ae4 × Int × Ae4 × Ae5 × Ae7 × (List Int) × (List Int) × Int))) (f:EK b g m = some r) :
  A1 88 [(.pointer (some ⟨d,0,none⟩)),h,(.bool m)] c fun e w'=>∃ (H_0:An),e = .returned (.bool r.1) ∧ Below 0 (wE c) w' ∧ Sep 0 w' [A5 c (Bf [A3 B1 74 j d b,Ab Ar k h g]),A3 B1 74 H_0 d r.2]:=by
 refine Gb Tryz.func88 rfl Tryz.ntmps88 rfl rfl fun Q v hP=>?_
 have q:Bl (wE c) c:=Ek c
 have s:Sp (wE c) c [A5 c (Bf [A3 B1 74 j d b,Ab Ar k h g]),A3 B1 74 j d b,Ab Ar k h g]:=u.rest
 unfold EK at f
 refine Al 1 rfl (Am fun w x=>?_)
 obtain ⟨y,z,f⟩:=Ch f
 have t:∀ (n:(Ae4 × Ae4 × Int × Ae4 × Ae5 × Ae7 × (List Int) × (List Int) × Int)) (o:An) (l:Ae) (_:y n = some r) (_:Bl (wE c) l) (_:Sp (wE c) l [A5 c (Bf [A3 B1 74 j d b,Ab Ar k h g]),A3 B1 74 o d n]),∀ a,St 13 [(2,(.bool m))] a → w a l:=by
  intro n o l f aa ab
  subst z
  refine x (Al 2 rfl (Aw (rt v rfl rfl (by cases f; exact ⟨o,rfl,aa,ab.sel [0,1] rfl⟩))))
 refine Al 1 rfl (A2 rfl f (fun _ f=>?_) (fun _ f=>?_))
 ·refine As ?_
  refine wp 2 rfl (BP rfl rfl (Bq IZ rfl ?_))
  obtain ⟨ac,ad,ae,aq,af,ar,ag,au,ah,av,ai,aw,aj,ax,p⟩:=Hi (s.sel [1,0,2] rfl)
  refine BC (i:=0) (vs:=[h]) (cs':=[h,ae,(iv b.2.2.1),af,ag,ah,ai,aj,(iv b.2.2.2.2.2.2.2.2)]) Cp rfl rfl (Cl (p.own_ro (i:=9) rfl).one) rfl q p rfl rfl ⟨(p.own_ro (i:=9) rfl).one,trivial⟩ rfl fun ak _ al am=>Ah ?_
  obtain ⟨an,ao⟩:∃ F,Sp (wE c) ak [A3 B1 74 F d (g,b.2.1,b.2.2.1,b.2.2.2.1,b.2.2.2.2.1,b.2.2.2.2.2.1,b.2.2.2.2.2.2.1,b.2.2.2.2.2.2.2.1,b.2.2.2.2.2.2.2.2),Ab Ar ad ac b.1,A5 c (Bf [A3 B1 74 j d b,Ab Ar k h g])]:=⟨_,D5 (am.sel [0,9,2,3,4,5,6,7,1,8] rfl)⟩
  exact jx (t ((g,b.2.1,b.2.2.1,b.2.2.2.1,b.2.2.2.2.1,b.2.2.2.2.2.1,b.2.2.2.2.2.2.1,b.2.2.2.2.2.2.2.1,b.2.2.2.2.2.2.2.2)) an _ f al (ao.sel [2,0] rfl)) rfl
 ·refine Au ?_
  exact jx (t b j _ f q (s.sel [0,1] rfl)) rfl
theorem Xi (d:Ae) (f:Ae4) (h:Ac) (k:RO Ar d h f) (i:Int) (r:Bool) (b:Mv f i = some r) :
  A1 133 [h,(iv i)] d fun e w'=>e = .returned (.bool r) ∧ Bl d w':=by
 refine cm Tryz.func133 Tryz.ntmps133 rfl fun Q p hP l q=>?_
 unfold Mv at b
 refine Al 1 rfl (Am fun s t=>?_)
 obtain ⟨u,v,b⟩:=Ch b
 have m:∀ (j:Bool) (g:Ae) (_:u j = some r) (_:Bl d g) (_:Sp d g []),∀ a,St 14 [(4,(.bool j))] a → s a g:=by
  intro j g b w af
  subst v
  refine t (Aw (rt p rfl rfl (by cases b; exact ⟨rfl,w⟩)))
 refine As (wp 1 rfl (bB b fun x y b=>(Bs rfl Tryz.call132 l q (Jn d f h (k.ro l) _ y) rfl fun z _ n o=>(wp 1 rfl ?_))))
 rcases bE x with c | c
 ·replace b:=B9 c b
  refine wn rfl c (wp 1 rfl (wn rfl c (wp 1 rfl (wn rfl c (BQ k Tryz.underlying26 rfl (wn rfl c (wp 1 rfl (wn rfl c (bB b fun aa ab b=>(Bs rfl Tryz.call77 n o (Ci z i 0 (Ag ((List.length f:Int) - 1)) _ ab) rfl fun ag _ ac ad=>(AA rfl rfl c rfl (Aq 1 rfl ?_))))))))))))
  exact jx (m aa _ b ac (ad.sel [] rfl)) rfl
 ·replace b:=Cf c b
  refine wo rfl c (wo rfl c (wo rfl c (wo rfl c (wo rfl c (A6 rfl rfl c rfl (Aq 1 rfl ?_))))))
  exact jx (m false _ b n (o.sel [] rfl)) rfl
theorem JD (a:Ae) (d:Ae4) (c:Ac) (f:An) (m:Sep 0 a [Ab Ar f c d]) (r:(Ae4 × Bool)) (b:Hj d = some r) :
  A1 89 [c] a fun e w'=>∃ (g:Ac) (n:An),e = .returned (.tuple #[g,(.bool r.2)]) ∧ Below 0 (wE a) w' ∧ Sep 0 w' [A5 a (Bf [Ab Ar f c d]),Ab Ar n g r.1]:=by
 refine Gb Tryz.func89 rfl Tryz.ntmps89 rfl rfl fun Q h u=>?_
 have o:Bl (wE a) a:=Ek a
 have j:Sp (wE a) a [A5 a (Bf [Ab Ar f c d]),Ab Ar f c d]:=m.rest
 unfold Hj at b
 refine Al 2 rfl (Am fun _ p=>(Ak fun _ q=>(wp 1 rfl (bB b fun v s b=>(Bs rfl Tryz.call132 o j (Jn a d c (j.own_ro (i:=1) rfl) _ s) rfl fun w _ k l=>(Aq 1 rfl (q (A2 rfl b (fun _ b=>?_) (fun _ b=>?_)))))))))
 ·refine Al 2 rfl ?_
  refine Aw ?_
  have t:=l.push0 (r:=Ab Ar [] (.slice none 0 0) []) rfl fun _=>.inl ⟨rfl,rfl,rfl⟩
  refine rt h rfl rfl (by cases b; exact ⟨(.slice none 0 0),[],rfl,k,t.sel [1,0] rfl⟩)
 ·refine Au (p ?_)
  refine Al 3 rfl (Aw (rt h rfl rfl (by cases b; exact ⟨c,f,rfl,k,l.sel [0,1] rfl⟩)))
theorem PD (d:Ae) (f:Ae4) (g:Ac) (p:RO Ar d g f) (c:Int) (b:(Int × Int)) (r:(Ae4 × Bool)) (a:GF f c b = some r) :
  A1 91 [g,(iv c),(.agg #[(iv b.1),(iv b.2)])] d fun e w'=>∃ (q:Ac) (G0:An),e = .returned (.tuple #[q,(.bool r.2)]) ∧ Bl d w' ∧ Sp d w' [Ab Ar G0 q r.1]:=by
 refine cm Tryz.func91 Tryz.ntmps91 rfl fun Q s hP hB hS=>?_
 unfold GF at a
 refine Ak fun _ ad=>CM rfl hB hS fun b2 w3 _ t ag=>Aq 2 rfl (ad (Am fun _ ah=>(Ak fun _ ai=>(wp 2 rfl (bB a fun u9 aj a=>(Bs rfl Tryz.call133 t ag (Xi w3 f g (p.ro t) c _ aj) rfl fun ak _ h u=>(Aq 1 rfl (ai (A2 rfl a (fun _ a=>?_) (fun _ a=>?_))))))))))
 ·refine Al 2 rfl ?_
  refine Aw ?_
  have al:=u.push0 (r:=Ab Ar [] (.slice none 0 0) []) rfl fun _=>.inl ⟨rfl,rfl,rfl⟩
  refine rt s rfl rfl (by cases a; exact ⟨(.slice none 0 0),[],rfl,h,al.sel [0] rfl⟩)
 ·refine Au (ah ?_)
  refine Ak fun _ am=>wp 1 rfl (bB a fun j an a=>(En rfl Tryz.call90 h u (IM ak f g (p.ro h) _ an) rfl fun k l a3 _ _ ao m=>(Aq 1 rfl (am (Ak fun _ ap=>(wp 2 rfl (AU 1 Bt rfl m rfl rfl (bB a fun a4 v a=>(Cj (e:=Ar) (i:=0) Tryz.underlying26 rfl rfl rfl m rfl v ?_)))))))))
  rintro a5 _ rfl a6 aq
  refine BO (i:=0) (o:=0) (vs:=[(iv b.1),(iv b.2)]) (u':=b) CC Bt rfl rfl rfl rfl aq v ao m rfl rfl ⟨rfl,rfl,trivial⟩ rfl fun ar _ w n=>Ah (ap (Ak fun _ au=>(wp 1 rfl (bB a fun av aw a=>(A7 rfl Tryz.call89 (JD ar (BE j c b) k l (n.sel [0] rfl).base0 _ aw) rfl ?_)))))
  rintro _ ax ⟨x,y,rfl,ay,z⟩
  refine ⟨_,rfl,?_⟩
  have az:=n.takeB [0] rfl (M:=[Ab Ar l k (BE j c b)]) rfl w ay z
  have a0:Sp d ax [Ab Ar y x av.1,A9 b2 79 [(iv b.1),(iv b.2)]]:=n.take [0] [1] rfl (M:=[Ab Ar l k (BE j c b)]) rfl z w.size
  refine Aq 4 rfl (au (Aw (rt s rfl rfl (by cases a; exact ⟨x,y,rfl,az,a0.sel [0] rfl⟩))))
theorem TI (c:Ae) (a:(Int × Int)) (r:(Int × Int)) (d:KJ a = some r) :
  A1 134 [(.agg #[(iv a.1),(iv a.2)])] c fun e w'=>e = .returned (.agg #[(iv r.1),(iv r.2)]) ∧ Bl c w':=by
 refine cm Tryz.func134 Tryz.ntmps134 rfl fun Q f q g h=>?_
 unfold KJ at d
 refine Ak fun _ j=>CM rfl g h fun s t _ k l=>Ep Bt rfl k l fun u v _ m b=>Ah (j (Ak fun _ n=>(Bq CL rfl (AU 1 A4 rfl b rfl rfl (wp 1 rfl (Bq CK rfl (AU 1 A4 rfl b rfl rfl (DY (zs:=[(iv 0),(iv 0)]) (out:=[(iv (Ag (1280 - a.1))),(iv a.2)]) (vs:=[(iv (Ag (1280 - a.1))),(iv a.2)]) (css:=[[(iv (Ag (1280 - a.1)))],[(iv a.2)]]) Bt LE rfl rfl rfl rfl rfl (Gq 0 Bt rfl rfl m b rfl rfl rfl fun w _ o p=>(Ah (n (Aw ?_))))))))))))
 obtain rfl:=Option.some.inj d
 exact J9 (vs:=[(.agg #[(iv (Ag (1280 - a.1))),(iv a.2)])]) f rfl ⟨Hh (i:=0) Bt rfl p rfl rfl rfl,trivial⟩ ⟨rfl,o⟩
theorem Rk (c:Ae) (d:Ae4) (g:Ac) (n:RO Ar c g d) (r:(Ae4 × Bool)) (b:HH d = some r) :
  A1 92 [g] c fun e w'=>∃ (u:Ac) (G0:An),e = .returned (.tuple #[u,(.bool r.2)]) ∧ Bl c w' ∧ Sp c w' [Ab Ar G0 u r.1]:=by
 refine cm Tryz.func92 Tryz.ntmps92 rfl fun Q v hP w hS=>?_
 unfold HH at b
 refine Al 2 rfl (Am fun _ af=>(Ak fun _ ag=>(wp 1 rfl (bB b fun u4 ah b=>(Bs rfl Tryz.call132 w hS (Jn c d g (n.ro w) _ ah) rfl fun w5 _ x y=>(Aq 1 rfl (ag (A2 rfl b (fun _ b=>?_) (fun _ b=>?_)))))))))
 ·refine Al 2 rfl ?_
  refine Aw ?_
  have ai:=y.push0 (r:=Ab Ar [] (.slice none 0 0) []) rfl fun _=>.inl ⟨rfl,rfl,rfl⟩
  refine rt v rfl rfl (by cases b; exact ⟨(.slice none 0 0),[],rfl,x,ai.sel [0] rfl⟩)
 ·refine Au (af ?_)
  refine Al 1 rfl (Am fun _ aj=>(Ak fun _ ak=>(wp 1 rfl (BQ n Tryz.underlying26 rfl (Aq 1 rfl (ak (Az (AN (fun m a o=>∃ (p:Ae4) (h:Int) (j:Ac) (q:An),St 23 [(4,j),(10,g),(11,(iv (List.length d:Int))),(12,(iv h))] a ∧ Bl c o ∧ Sp c o [Ab Ar q j p] ∧ DM d m p h = some r) FU ?_ ?_))))))))
  ·have al:=y.push0 (r:=Ab Ar [] (.slice none 0 0) []) rfl fun _=>.inl ⟨rfl,rfl,rfl⟩
   exact fun a ha=>⟨[],0,(.slice none 0 0),[],ha.sb rfl,x,(al.sel [0] rfl),b⟩
  ·rintro f a o ⟨p,h,j,q,ha,s,z,b⟩ bd am
   refine BB ?_ ha
   cases f with
   | zero=>exact Be b
   | succ f =>
    obtain ⟨be,aa⟩:∃ k,k = DM d f:=⟨_,rfl⟩
    rw [DM,← aa] at b
    refine Al 1 rfl (Am fun _ an=>(A2 rfl b (fun _ b=>?_) (fun _ b=>?_)))
    ·refine Au (an ?_)
     refine Am fun _ ao=>Az (Ak fun _ ap=>(bB b fun aq ar b=>(BM (e:=Ar) Tryz.underlying26 rfl rfl rfl n ar ?_)))
     rintro bf _ rfl au
     refine BV Bt rfl (au.ro s) rfl (Ep Bt rfl s z fun bg bh _ av aw=>(Gq 0 Bt rfl rfl av aw rfl rfl rfl fun ax _ ay ab=>(Ah (ap (As (wp 1 rfl (AU 0 Bt rfl ab rfl rfl (bB b fun t az b=>(Bs rfl Tryz.call134 ay ab (TI ax aq _ az) rfl fun bi _ a0 a1=>(Bb (vs:=[(.agg #[(iv t.1),(iv t.2)])]) (l:=[t]) CC Tryz.underlying26 rfl rfl rfl rfl rfl rfl a0 a1 fun bj bk a2 _ a3 ac=>(bB b fun a4 a5 b=>(AE (i:=2) (S:=(· < a2.heap.size)) CC Tryz.underlying26 rfl rfl rfl a3 ac rfl (ac.own_ro (i:=0) rfl) a5 fun a6 a7 bl _ a8 a9=>(Aq 1 rfl (ao (As (Aq 2 rfl ?_))))))))))))))))
     rw [aa] at b
     exact fun a ha=>am a _ f (AB f) ⟨a4,(Ag (h + 1)),a6,a7,ha.sb rfl,a8,(a9.sel [2] rfl),b⟩
    ·refine Bc (aj ?_)
     refine Al 3 rfl (Aw (rt v rfl rfl (by cases b; exact ⟨j,q,rfl,s,z.sel [0] rfl⟩)))
theorem SG (f:Ae) (d:(Int × Int)) (r:Bool) (b:ID d = some r) :
  A1 135 [(.agg #[(iv d.1),(iv d.2)])] f fun e w'=>e = .returned (.bool r) ∧ Bl f w':=by
 refine cm Tryz.func135 Tryz.ntmps135 rfl fun Q m hP n o=>?_
 unfold ID at b
 refine Ak fun _ p=>CM rfl n o fun b2 q _ s j=>Aq 1 rfl (p (Am fun t u=>?_))
 obtain ⟨v,w,b⟩:=Ch b
 have k:∀ (h:Bool) (g:Ae) (_:v h = some r) (_:Bl f g) (_:Sp f g []),∀ a,St 11 [(2,(.bool h))] a → t a g:=by
  intro h g b x ah
  subst w
  refine u (Aw (rt m rfl rfl (by cases b; exact ⟨rfl,x⟩)))
 refine As (Bq KA rfl (AU 0 A4 rfl j rfl rfl (bB b fun y z b=>(Bs rfl Tryz.call77 s j (Ci q d.1 1 12 _ z) rfl fun aa _ l i=>(wp 1 rfl ?_)))))
 rcases bE y with c | c
 ·replace b:=B9 c b
  refine wn rfl c (Bq NN rfl (wn rfl c (AU 0 A4 rfl i rfl rfl (wn rfl c (bB b fun ab ac b=>(Bs rfl Tryz.call77 l i (Ci aa d.2 40 220 _ ac) rfl fun ai _ ad ae=>(AA rfl rfl c rfl (Aq 1 rfl ?_))))))))
  exact jx (k ab _ b ad (ae.sel [] rfl)) rfl
 ·replace b:=Cf c b
  refine wo rfl c (wo rfl c (wo rfl c (A6 rfl rfl c rfl (Aq 1 rfl ?_))))
  exact jx (k false _ b l (i.sel [] rfl)) rfl
theorem Qw (d:Ae) (c:Ae4) (g:Ac) (j:RO BN d g c) (r:Bool) (b:Jg c = some r) :
  A1 93 [g] d fun e w'=>e = .returned (.bool r) ∧ Bl d w':=by
 refine cm Tryz.func93 Tryz.ntmps93 rfl fun Q n hP s t=>?_
 unfold Jg at b
 refine Al 1 rfl (Am fun _ u=>(Ak fun _ v=>(wp 1 rfl (BQ j Tryz.underlying31 rfl (Aq 1 rfl (v (Az (AN (fun m a h=>∃ (i:Int),St 18 [(0,g),(5,g),(6,(iv (List.length c:Int))),(7,(iv i))] a ∧ Bl d h ∧ Sp d h [] ∧ FG c m i = some r) FU ?_ ?_))))))))
 ·exact fun a ha=>⟨0,ha.sb rfl,s,(t.sel [] rfl),b⟩
 ·rintro f a h ⟨i,ha,l,w,b⟩ aq x
  refine BB ?_ ha
  cases f with
  | zero=>exact Be b
  | succ f =>
   obtain ⟨ar,o⟩:∃ k,k = FG c f:=⟨_,rfl⟩
   rw [FG,← o] at b
   refine Al 1 rfl (Am fun _ y=>(A2 rfl b (fun _ b=>?_) (fun _ b=>?_)))
   ·refine Au (y ?_)
    refine Am fun _ z=>Az (Ak fun _ aa=>(bB b fun ab ac b=>(BM (e:=BN) Tryz.underlying31 rfl rfl rfl j ac ?_)))
    rintro au _ rfl ad
    refine BV GR rfl (ad.ro l) rfl (Ep GR rfl l w fun av aw _ ae af=>(Gq 0 GR rfl rfl ae af rfl rfl rfl fun ag _ ah p=>(Ah (aa (Ak fun _ ai=>(AU 0 GR rfl p rfl rfl (bB b fun ax aj b=>(Bs rfl Tryz.call135 ah p (SG ag ab _ aj) rfl fun ay _ q ak=>(Aq 1 rfl (ai (A2 rfl b (fun _ b=>?_) (fun _ b=>?_))))))))))))
    ·refine Al 1 rfl ?_
     refine Aw (rt n rfl rfl (by cases b; exact ⟨rfl,q⟩))
    ·refine Au (z ?_)
     refine As (Aq 2 rfl ?_)
     rw [o] at b
     exact fun a ha=>x a _ f (AB f) ⟨(Ag (i + 1)),ha.sb rfl,q,(ak.sel [] rfl),b⟩
   ·refine Bc (u ?_)
    refine Ak fun _ al=>wp 1 rfl (BQ j Tryz.underlying31 rfl (bB b fun az am b=>(A7 rfl Tryz.call77 (Ci h (List.length c:Int) 1 40 _ am) rfl ?_)))
    rintro _ a0 ⟨rfl,an⟩
    refine ⟨_,rfl,?_⟩
    have ao:=tm l an
    refine Aq 1 rfl (al (Aw (rt n rfl rfl (by cases b; exact ⟨rfl,ao⟩))))
theorem OO (i:Ae) (g:(Int × Int × Int × Int)) (h:(Int × Int × Int × Int)) (r:Bool) (c:HV g h = some r) :
  A1 136 [(.agg #[(iv g.1),(iv g.2.1),(iv g.2.2.1),(iv g.2.2.2)]),(.agg #[(iv h.1),(iv h.2.1),(iv h.2.2.1),(iv h.2.2.2)])] i fun e w'=>e = .returned (.bool r) ∧ Bl i w':=by
 refine cm Tryz.func136 Tryz.ntmps136 rfl fun Q n z o p=>?_
 unfold HV at c
 refine Ak fun _ q=>CM rfl o p fun b2 w3 _ s t=>CM rfl s t fun b7 w8 _ k f=>Aq 1 rfl (q (Am fun u v=>?_))
 obtain ⟨w,x,c⟩:=Ch c
 have l:∀ (m:Bool) (j:Ae) (_:w m = some r) (_:Bl i j) (_:Sp i j []),∀ a,St 24 [(4,(.bool m))] a → u a j:=by
  intro m j c y ae
  subst x
  refine v (Aw (rt n rfl rfl (by cases c; exact ⟨rfl,y⟩)))
 refine As (Bq DD rfl (AU 1 A4 rfl f rfl rfl (Bq DD rfl (AU 0 A4 rfl f rfl rfl (wp 2 rfl ?_)))))
 rcases bE (decide (g.2.2.1 < h.2.2.1)) with b | b
 ·replace c:=B9 b c
  refine wo rfl b (wo rfl b (wo rfl b (wo rfl b (wo rfl b (wo rfl b (Dn rfl rfl rfl (Dn rfl rfl rfl (Dn rfl rfl rfl (Dn rfl rfl rfl (Dn rfl rfl rfl (wo rfl b (AA rfl rfl b rfl (Aq 1 rfl ?_)))))))))))))
  exact jx (l true _ c k (f.sel [] rfl)) rfl
 ·replace c:=Cf b c
  refine wn rfl b (Bq DD rfl (wn rfl b (AU 1 A4 rfl f rfl rfl (wn rfl b (Bq DD rfl (wn rfl b (AU 0 A4 rfl f rfl rfl (wn rfl b (wp 1 rfl (wn rfl b (wp 1 rfl ?_)))))))))))
  rcases bE (g.2.2.1 == h.2.2.1) with d | d
  ·replace c:=B9 d c
   refine wn rfl d (Bq HY rfl (wn rfl d (AU 1 A4 rfl f rfl rfl (wn rfl d (Bq HY rfl (wn rfl d (AU 0 A4 rfl f rfl rfl (wn rfl d (wp 1 rfl (wn rfl b (AA rfl rfl d rfl (A6 rfl rfl b rfl (Aq 1 rfl ?_)))))))))))))
   exact jx (l ((decide (g.2.1 < h.2.1))) _ c k (f.sel [] rfl)) rfl
  ·replace c:=Cf d c
   refine wo rfl d (wo rfl d (wo rfl d (wo rfl d (wo rfl d (wn rfl b (A6 rfl rfl d rfl (A6 rfl rfl b rfl (Aq 1 rfl ?_))))))))
   exact jx (l false _ c k (f.sel [] rfl)) rfl
theorem Rj (b:Ae) (c:Int) (r:Bool) (a:J0 c = some r) :
  A1 191 [(iv c)] b fun e w'=>e = .returned (.bool r) ∧ Bl b w':=by
 refine cm Tryz.func191 Tryz.ntmps191 rfl fun Q d k f _=>?_
 unfold J0 at a
 refine Al 1 rfl (Ak fun _ g=>(wp 1 rfl (bB a fun l h a=>(A7 rfl Tryz.call77 (Ci b c 1 12 _ h) rfl ?_))))
 rintro _ m ⟨rfl,i⟩
 refine ⟨_,rfl,?_⟩
 have j:=tm f i
 refine Aq 1 rfl (g (Aw (rt d rfl rfl (by cases a; exact ⟨rfl,j⟩))))
theorem Qy (b:Ae) (c:Int) (r:Bool) (a:Jk c = some r) :
  A1 156 [(iv c)] b fun e w'=>e = .returned (.bool r) ∧ Bl b w':=by
 refine cm Tryz.func156 Tryz.ntmps156 rfl fun Q d k f _=>?_
 unfold Jk at a
 refine Al 1 rfl (Ak fun _ g=>(wp 1 rfl (bB a fun l h a=>(A7 rfl Tryz.call77 (Ci b c 1 9 _ h) rfl ?_))))
 rintro _ m ⟨rfl,i⟩
 refine ⟨_,rfl,?_⟩
 have j:=tm f i
 refine Aq 1 rfl (g (Aw (rt d rfl rfl (by cases a; exact ⟨rfl,j⟩))))
theorem Qz (t:Ae) (x:Ae5) (w:Ac) (ab:RO A0 t w x) (r:Bool) (c:Jl x = some r) :
  A1 137 [w] t fun e w'=>e = .returned (.bool r) ∧ Bl t w':=by
 refine cm Tryz.func137 Tryz.ntmps137 rfl fun Q hQ b hB hS=>?_
 unfold Jl at c
 refine Al 1 rfl (Am fun _ bg=>(Ak fun _ bh=>(wp 1 rfl (BQ ab Tryz.underlying72 rfl (Aq 1 rfl (bh (Az (AN (fun m a w4=>∃ (u:Int),St 85 [(0,w),(7,w),(8,(iv (List.length x:Int))),(9,(iv u))] a ∧ Bl t w4 ∧ Sp t w4 [] ∧ Dv x m u = some r) FU ?_ ?_))))))))
 ·exact fun a ha=>⟨0,ha.sb rfl,hB,(hS.sel [] rfl),c⟩
 ·rintro ac a w4 ⟨u,ha,am,bi,c⟩ c5 bj
  refine BB ?_ ha
  cases ac with
  | zero=>exact Be c
  | succ ac =>
   obtain ⟨ay,az⟩:∃ k,k = Dv x ac:=⟨_,rfl⟩
   rw [Dv,← az] at c
   refine Al 1 rfl (Am fun _ bk=>(A2 rfl c (fun _ c=>?_) (fun _ c=>?_)))
   ·refine Au (bk ?_)
    refine Am fun _ bl=>Az (Ak fun _ bm=>(wp 1 rfl (bB c fun i bn c=>(BM (e:=A0) Tryz.underlying72 rfl rfl rfl ab bn ?_))))
    rintro c6 _ rfl bo
    refine BV BD rfl (bo.ro am) rfl (Ep BD rfl am bi fun z c7 _ bp bq=>(wp 1 rfl (Gq 0 BD rfl rfl bp bq rfl rfl rfl fun c8 _ br bs=>(Ah (bm (Am fun _ bt=>(Am fun bu bv=>?_)))))))
    obtain ⟨bw,bx,c⟩:=Ch c
    have aa:∀ (an:Bool) (af:Ae) (_:bw an = some r) (_:Bl t af) (_:Sp t af [A9 z 125 [(iv i.1),(iv i.2.1),(iv i.2.2.1),(iv i.2.2.2)]]),∀ a,St 85 [(0,w),(3,(iv u)),(4,(.pointer (some ⟨z,0,none⟩))),(7,w),(8,(iv (List.length x:Int))),(9,(iv u)),(52,(.bool an))] a → bu a af:=by
     intro an af c a0 bz
     subst bx
     refine bv (A2 rfl c (fun _ c=>?_) (fun _ c=>?_))
     ·refine Al 1 rfl ?_
      refine Aw (rt hQ rfl rfl (by cases c; exact ⟨rfl,a0⟩))
     ·refine Au (bt ?_)
      refine Ak fun _ b0=>wp 2 rfl (bB c fun ag b1 c=>(PI (e:=A0) Tryz.underlying72 rfl rfl ab b1 (.inl ⟨rfl,rfl⟩) (.inr ⟨_,_,rfl,rfl⟩) fun a1 a2=>(BQ a2 Tryz.underlying72 rfl (Aq 1 rfl (b0 (Az (AN (fun m a ao=>∃ (ad:Int),St 85 [(0,w),(4,(.pointer (some ⟨z,0,none⟩))),(7,w),(8,(iv (List.length x:Int))),(9,(iv u)),(55,a1),(56,(iv (List.length ag:Int))),(57,(iv ad))] a ∧ Bl t ao ∧ Sp t ao [A9 z 125 [(iv i.1),(iv i.2.1),(iv i.2.2.1),(iv i.2.2.2)]] ∧ EM ag i ay u m ad = some r) FU ?_ ?_)))))))
      ·exact fun a ha=>⟨0,ha.sb rfl,a0,(bz.sel [0] rfl),c⟩
      ·rintro ae a ao ⟨ad,ha,ap,a3,c⟩ c9 b2
       refine BB ?_ ha
       cases ae with
       | zero=>exact Be c
       | succ ae =>
        obtain ⟨da,a4⟩:∃ k,k = EM ag i ay u ae:=⟨_,rfl⟩
        rw [EM,← a4] at c
        refine Al 1 rfl (Am fun _ b3=>(A2 rfl c (fun _ c=>?_) (fun _ c=>?_)))
        ·refine Au (b3 ?_)
         refine Am fun _ b4=>Az (Ak fun _ b5=>(bB c fun ah b6 c=>(BM (e:=A0) Tryz.underlying72 rfl rfl rfl a2 b6 ?_)))
         rintro db _ rfl b7
         refine BV BD rfl (b7.ro ap) rfl (Ep BD rfl ap a3 fun dc dd _ b8 b9=>(Gq 0 BD rfl rfl b8 b9 rfl rfl rfl fun de _ aq v=>(Ah (b5 (Am fun ca cb=>?_)))))
         obtain ⟨cc,cd,c⟩:=Ch c
         have ar:∀ (au:Bool) (ai:Ae) (_:cc au = some r) (_:Bl t ai) (_:Sp t ai [A9 z 125 [(iv i.1),(iv i.2.1),(iv i.2.2.1),(iv i.2.2.2)]]),∀ a,St 85 [(0,w),(4,(.pointer (some ⟨z,0,none⟩))),(7,w),(8,(iv (List.length x:Int))),(9,(iv u)),(55,a1),(56,(iv (List.length ag:Int))),(57,(iv ad)),(79,(.bool au))] a → ca a ai:=by
          intro au ai c a5 ce
          subst cd
          refine cb (A2 rfl c (fun _ c=>?_) (fun _ c=>?_))
          ·refine Al 1 rfl ?_
           refine Aw (rt hQ rfl rfl (by cases c; exact ⟨rfl,a5⟩))
          ·refine Au (b4 ?_)
           refine As (Aq 2 rfl ?_)
           rw [a4] at c
           exact fun a ha=>b2 a _ ae (AB ae) ⟨(Ag (ad + 1)),ha.sb rfl,a5,(ce.sel [0] rfl),c⟩
         refine As (Bq HY rfl (AU 0 A4 rfl v rfl rfl (Bq HY rfl (AU 1 A4 rfl v rfl rfl (wp 2 rfl ?_)))))
         rcases bE (ah.2.1 == i.2.1) with n | n
         ·replace c:=B9 n c
          refine wo rfl n (wo rfl n (wo rfl n (wo rfl n (wo rfl n (AA rfl rfl n rfl (wp 1 rfl (wn rfl rfl (Bq GW rfl (wn rfl rfl (AU 0 A4 rfl v rfl rfl (wn rfl rfl (Bq DD rfl (wn rfl rfl (AU 1 A4 rfl v rfl rfl (wn rfl rfl (wp 1 rfl (AA rfl rfl rfl rfl (Ah ?_))))))))))))))))))
          exact jx (ar ((decide (i.2.2.1 < ah.2.2.2))) _ c aq (v.sel [1] rfl)) rfl
         ·replace c:=Cf n c
          refine wn rfl n (Bq JA rfl (wn rfl n (AU 0 A4 rfl v rfl rfl (wn rfl n (Bq JA rfl (wn rfl n (AU 1 A4 rfl v rfl rfl (wn rfl n (wp 1 rfl (A6 rfl rfl n rfl (wp 1 rfl ?_)))))))))))
          rcases bE (ah.1 == i.1) with o | o
          ·replace c:=B9 o c
           refine wn rfl o (Bq GW rfl (wn rfl o (AU 0 A4 rfl v rfl rfl (wn rfl o (Bq DD rfl (wn rfl o (AU 1 A4 rfl v rfl rfl (wn rfl o (wp 1 rfl (AA rfl rfl o rfl (Ah ?_)))))))))))
           exact jx (ar ((decide (i.2.2.1 < ah.2.2.2))) _ c aq (v.sel [1] rfl)) rfl
          ·replace c:=Cf o c
           refine wo rfl o (wo rfl o (wo rfl o (wo rfl o (wo rfl o (A6 rfl rfl o rfl (Ah ?_))))))
           exact jx (ar false _ c aq (v.sel [1] rfl)) rfl
        ·refine Bc (bl ?_)
         refine As (Aq 2 rfl ?_)
         rw [az] at c
         exact fun a ha=>bj a _ ac (AB ac) ⟨(Ag (u + 1)),ha.sb rfl,ap,(a3.sel [] rfl),c⟩
    refine AR B2 [] br bs fun a6 _ a7 y=>?_
    have av:=KeepX.refl a6 []
    refine Ad 0 rfl b av (C5 JA rfl (Ad 1 rfl b av (CJ 0 A4 rfl y rfl (by simp) (Av 2 rfl (bB c fun cf cg c=>(Bs rfl Tryz.call191 a7 y (Rj a6 i.1 _ cg) rfl fun ch ci a8 a9=>?_))))))
    have d:=av.ext ci
    refine Ah (Ap d (Ad 3 rfl b d (KT rfl rfl (Ax 4 rfl b d ?_))))
    rcases bE (!cf) with q | q
    ·replace c:=B9 q c
     refine AZ 5 rfl b q d (AZ 6 rfl b q d (AZ 7 rfl b q d (AZ 8 rfl b q d (Ad 9 rfl b d (Es rfl rfl q rfl (Ax 10 rfl b d (AZ 11 rfl b rfl d (AZ 12 rfl b rfl d (AZ 13 rfl b rfl d (AZ 14 rfl b rfl d (Ad 15 rfl b d (Es rfl rfl rfl rfl (Ax 16 rfl b d (AZ 17 rfl b rfl d (AZ 18 rfl b rfl d (AZ 19 rfl b rfl d (AZ 20 rfl b rfl d (AZ 21 rfl b rfl d (AZ 22 rfl b rfl d (AZ 23 rfl b rfl d (Ad 24 rfl b d (Es rfl rfl rfl rfl (Ax 25 rfl b d (AZ 26 rfl b rfl d (AZ 27 rfl b rfl d (AZ 28 rfl b rfl d (E5 29 rfl b d (E5 30 rfl b d (E5 31 rfl b d (E5 32 rfl b d (E5 33 rfl b d (E5 34 rfl b d (E5 35 rfl b d (E5 36 rfl b d (AZ 37 rfl b rfl d (Ad 38 rfl b d (Es rfl rfl rfl rfl (Ba ?_))))))))))))))))))))))))))))))))))))))
     exact jx (aa true _ c a8 (a9.sel [0] rfl)) rfl
    ·replace c:=Cf q c
     refine BF 5 rfl b q d (C5 HY rfl (BF 6 rfl b q d (CJ 0 A4 rfl y rfl (by simp) (Av 7 rfl (wn rfl q (bB c fun cj ck c=>(Bs rfl Tryz.call156 a8 a9 (Qy ch i.2.1 _ ck) rfl fun cl cn ba bb=>?_)))))))
     have g:=d.ext cn
     refine Ah (Ap g (BF 8 rfl b q g (KT rfl rfl (Ad 9 rfl b g (Ga rfl rfl q rfl (Ax 10 rfl b g ?_))))))
     rcases bE (!cj) with s | s
     ·replace c:=B9 s c
      refine AZ 11 rfl b s g (AZ 12 rfl b s g (AZ 13 rfl b s g (AZ 14 rfl b s g (Ad 15 rfl b g (Es rfl rfl s rfl (Ax 16 rfl b g (AZ 17 rfl b rfl g (AZ 18 rfl b rfl g (AZ 19 rfl b rfl g (AZ 20 rfl b rfl g (AZ 21 rfl b rfl g (AZ 22 rfl b rfl g (AZ 23 rfl b rfl g (Ad 24 rfl b g (Es rfl rfl rfl rfl (Ax 25 rfl b g (AZ 26 rfl b rfl g (AZ 27 rfl b rfl g (AZ 28 rfl b rfl g (E5 29 rfl b g (E5 30 rfl b g (E5 31 rfl b g (E5 32 rfl b g (E5 33 rfl b g (E5 34 rfl b g (E5 35 rfl b g (E5 36 rfl b g (AZ 37 rfl b rfl g (Ad 38 rfl b g (Es rfl rfl rfl rfl (Ba ?_)))))))))))))))))))))))))))))))
      exact jx (aa true _ c ba (bb.sel [0] rfl)) rfl
     ·replace c:=Cf s c
      refine BF 11 rfl b s g (C5 DD rfl (BF 12 rfl b s g (CJ 0 A4 rfl y rfl (by simp) (Av 13 rfl (wn rfl s (bB c fun co cp c=>(Bs rfl Tryz.call77 ba bb (Ci cl i.2.2.1 0 999 _ cp) rfl fun cq cr bc bd=>?_)))))))
      have h:=g.ext cr
      refine Ah (Ap h (BF 14 rfl b s h (KT rfl rfl (Ad 15 rfl b h (Ga rfl rfl s rfl (Ax 16 rfl b h ?_))))))
      rcases bE (!co) with l | l
      ·replace c:=B9 l c
       refine AZ 17 rfl b l h (AZ 18 rfl b l h (AZ 19 rfl b l h (AZ 20 rfl b l h (AZ 21 rfl b l h (AZ 22 rfl b l h (AZ 23 rfl b l h (Ad 24 rfl b h (Es rfl rfl l rfl (Ax 25 rfl b h (AZ 26 rfl b rfl h (AZ 27 rfl b rfl h (AZ 28 rfl b rfl h (E5 29 rfl b h (E5 30 rfl b h (E5 31 rfl b h (E5 32 rfl b h (E5 33 rfl b h (E5 34 rfl b h (E5 35 rfl b h (E5 36 rfl b h (AZ 37 rfl b rfl h (Ad 38 rfl b h (Es rfl rfl rfl rfl (Ba ?_))))))))))))))))))))))))
       exact jx (aa true _ c bc (bd.sel [0] rfl)) rfl
      ·replace c:=Cf l c
       refine BF 17 rfl b l h (C5 GW rfl (BF 18 rfl b l h (CJ 0 A4 rfl y rfl (by simp) (BF 19 rfl b l h (C5 DD rfl (BF 20 rfl b l h (CJ 0 A4 rfl y rfl (by simp) (BF 21 rfl b l h (EA rfl rfl rfl (Av 22 rfl (wn rfl l (bB c fun cs ct c=>(Bs rfl Tryz.call77 bc bd (Ci cq i.2.2.2 (Ag (i.2.2.1 + 1)) 1000 _ ct) rfl fun cu cv aw ax=>?_)))))))))))))
       have f:=h.ext cv
       refine Ah (Ap f (BF 23 rfl b l f (KT rfl rfl (Ad 24 rfl b f (Ga rfl rfl l rfl (Ax 25 rfl b f ?_))))))
       rcases bE (!cs) with p | p
       ·replace c:=B9 p c
        refine AZ 26 rfl b p f (AZ 27 rfl b p f (AZ 28 rfl b p f (E5 29 rfl b f (E5 30 rfl b f (E5 31 rfl b f (E5 32 rfl b f (E5 33 rfl b f (E5 34 rfl b f (E5 35 rfl b f (E5 36 rfl b f (AZ 37 rfl b p f (Ad 38 rfl b f (Es rfl rfl p rfl (Ba ?_))))))))))))))
        exact jx (aa true _ c aw (ax.sel [0] rfl)) rfl
       ·replace c:=Cf p c
        refine BF 26 rfl b p f (Da rfl rfl (BF 27 rfl b p f (To rfl rfl rfl (BF 28 rfl b p f (Da rfl rfl ?_)))))
        rcases bE (decide (0 < u)) with j | j
        ·replace c:=B9 j c
         refine BF 29 rfl b j f (Da rfl rfl (BF 30 rfl b j f (Da rfl rfl (BF 31 rfl b j f (GS rfl rfl rfl (bB c fun cw cx c=>(BF 32 rfl b j f (BA (e:=A0) Tryz.underlying72 rfl rfl rfl ab cx ?_))))))))
         rintro df _ rfl cy
         refine BF 33 rfl b j f (BJ BD rfl (cy.kx a7 (by simp)) rfl (BF 34 rfl b j f (CJ 0 BD rfl y rfl (by simp) (Av 35 rfl (wn rfl j (bB c fun cz c0 c=>(Bs rfl Tryz.call136 aw ax (OO cu cw i _ c0) rfl fun dg c1 c2 c3=>?_)))))))
         have aj:=f.ext c1
         refine Ah (Ap aj (BF 36 rfl b j aj (KT rfl rfl (BF 37 rfl b p aj (Es rfl rfl j rfl (Ad 38 rfl b aj (Ga rfl rfl p rfl (Ba ?_))))))))
         exact jx (aa ((!cz)) _ c c2 (c3.sel [0] rfl)) rfl
        ·replace c:=Cf j c
         refine AZ 29 rfl b j f (AZ 30 rfl b j f (AZ 31 rfl b j f (AZ 32 rfl b j f (AZ 33 rfl b j f (AZ 34 rfl b j f (AZ 35 rfl b j f (AZ 36 rfl b j f (BF 37 rfl b p f (Ga rfl rfl j rfl (Ad 38 rfl b f (Ga rfl rfl p rfl (Ba ?_))))))))))))
         exact jx (aa false _ c aw (ax.sel [0] rfl)) rfl
   ·refine Bc (bg ?_)
    refine Ak fun _ c4=>wp 1 rfl (BQ ab Tryz.underlying72 rfl (Aq 2 rfl (c4 (Aw (rt hQ rfl rfl (by cases c; exact ⟨rfl,am⟩))))))
theorem Nr (p:Ae) (w:Ae5) (z:Ac) (bp:RO A0 p z w) (r:(Ae5 × Bool)) (c:Jj w = some r) :
  A1 94 [z] p fun e w'=>∃ (q0:Ac) (G0:An),e = .returned (.tuple #[q0,(.bool r.2)]) ∧ Bl p w' ∧ Sp p w' [Ab A0 G0 q0 r.1]:=by
 refine cm Tryz.func94 Tryz.ntmps94 rfl fun Q hQ d hB hS=>?_
 unfold Jj at c
 refine Al 2 rfl (Al 1 rfl (Am fun _ c5=>(Ak fun _ c6=>(wp 1 rfl (BQ bp Tryz.underlying72 rfl (Aq 1 rfl (c6 (Az (AN (fun m a w5=>∃ (q:Ae5) (x:Int) (s:Ac) (ab:An),St 46 [(4,s),(8,z),(9,(iv (List.length w:Int))),(10,(iv x))] a ∧ Bl p w5 ∧ Sp p w5 [Ab A0 ab s q] ∧ EL w m q x = some r) FU ?_ ?_)))))))))
 ·have c7:=hS.push0 (r:=Ab A0 [] (.slice none 0 0) []) rfl fun _=>.inl ⟨rfl,rfl,rfl⟩
  exact fun a ha=>⟨[],0,(.slice none 0 0),[],ha.sb rfl,hB,(c7.sel [0] rfl),c⟩
 ·rintro ac a w5 ⟨q,x,s,ab,ha,a5,a6,c⟩ fw c8
  refine BB ?_ ha
  cases ac with
  | zero=>exact Be c
  | succ ac =>
   obtain ⟨fx,bs⟩:∃ k,k = EL w ac:=⟨_,rfl⟩
   rw [EL,← bs] at c
   refine Al 1 rfl (Am fun _ c9=>(A2 rfl c (fun _ c=>?_) (fun _ c=>?_)))
   ·refine Au (c9 ?_)
    refine Am fun da db=>?_
    obtain ⟨a7,dc,c⟩:=Ch c
    have a8:∀ (af:Ae5) (ag:Ac) (a9:An) (ah:Ae) (_:a7 af = some r) (_:Bl p ah) (_:Sp p ah [Ab A0 a9 ag af]),∀ a,St 46 [(4,ag),(8,z),(9,(iv (List.length w:Int))),(10,(iv x))] a → da a ah:=by
     intro af ag a9 ah c dd de
     subst dc
     refine db (As (Aq 2 rfl ?_))
     rw [bs] at c
     exact fun a ha=>c8 a _ ac (AB ac) ⟨af,(Ag (x + 1)),ag,a9,ha.sb rfl,dd,(de.sel [0] rfl),c⟩
    refine Az (Ak fun _ df=>(bB c fun f dg c=>(BM (e:=A0) Tryz.underlying72 rfl rfl rfl bp dg ?_)))
    rintro fy _ rfl dh
    refine BV BD rfl (dh.ro a5) rfl (Ep BD rfl a5 a6 fun ai fz _ di dj=>(Gq 0 BD rfl rfl di dj rfl rfl rfl fun f0 _ dk bt=>(Ah (df (Ak fun _ dl=>(wp 1 rfl (BQ (bt.own_ro (i:=1) rfl) Tryz.underlying72 rfl (Aq 1 rfl (dl (Am fun _ dm=>(Az (AN (fun m a ba=>∃ (aa:Int),St 46 [(4,s),(6,(.pointer (some ⟨ai,0,none⟩))),(7,(iv aa)),(8,z),(9,(iv (List.length w:Int))),(10,(iv x))] a ∧ Bl p ba ∧ Sp p ba [Ab A0 ab s q,A9 ai 125 [(iv f.1),(iv f.2.1),(iv f.2.2.1),(iv f.2.2.2)]] ∧ FJ q f a7 m aa = some r) FU ?_ ?_))))))))))))
    ·exact fun a ha=>⟨(List.length q:Int),ha.sb rfl,dk,(bt.sel [1,0] rfl),c⟩
    ·rintro ad a ba ⟨aa,ha,dn,dp,c⟩ f1 dq
     refine BB ?_ ha
     cases ad with
     | zero=>exact Be c
     | succ ad =>
      obtain ⟨f2,bu⟩:∃ k,k = FJ q f a7 ad:=⟨_,rfl⟩
      rw [FJ,← bu] at c
      refine Am fun _ dr=>Am fun ds dt=>?_
      obtain ⟨du,dv,c⟩:=Ch c
      have bv:∀ (bb:Bool) (aj:Ae) (_:du bb = some r) (_:Bl p aj) (_:Sp p aj [Ab A0 ab s q,A9 ai 125 [(iv f.1),(iv f.2.1),(iv f.2.2.1),(iv f.2.2.2)]]),∀ a,St 46 [(4,s),(6,(.pointer (some ⟨ai,0,none⟩))),(7,(iv aa)),(8,z),(9,(iv (List.length w:Int))),(10,(iv x)),(26,(.bool bb))] a → ds a aj:=by
       intro bb aj c bw bx
       subst dv
       refine dt (A2 rfl c (fun _ c=>?_) (fun _ c=>?_))
       ·refine Au (dr ?_)
        refine Az (As (Aq 3 rfl ?_))
        rw [bu] at c
        exact fun a ha=>dq a _ ad (AB ad) ⟨(Ag (aa - 1)),ha.sb rfl,bw,(bx.sel [0,1] rfl),c⟩
       ·refine Bc (dm ?_)
        refine AR B2 [] bw bx fun o _ n y=>?_
        have t:=KeepX.refl o []
        refine Ax 1 rfl d t (Ax 2 rfl d t (bB c fun u64 dw c=>(Ad 3 rfl d t (Tl (e:=A0) Tryz.underlying72 rfl rfl (y.ok (i:=0) rfl:ownS A0 _ _ _ _).rd dw (.inl ⟨rfl,rfl⟩) (.inr ⟨_,_,rfl,rfl⟩) fun f3 dx _=>?_))))
        have u:=dx.mono fun b hb=>((y.get (i:=0) rfl).2.1 b hb).2
        refine Ad 5 rfl d t (CJ 1 BD rfl y rfl (by simp) (Ax 8 rfl d t (Ax 9 rfl d t (bB c fun f4 dy c=>(Ad 10 rfl d t (Tl (e:=A0) Tryz.underlying72 rfl rfl (y.ok (i:=0) rfl:ownS A0 _ _ _ _).rd dy (.inr ⟨_,_,rfl,rfl⟩) (.inl ⟨rfl,rfl⟩) fun f5 dz _=>?_))))))
        have v:=dz.mono fun b hb=>((y.get (i:=0) rfl).2.1 b hb).2
        refine Cz (is:=[0,6]) (by kernel_rfl) rfl (Bd.2 ⟨⟨_,rfl,?_⟩,Bd.2 ⟨⟨_,rfl,?_⟩,fun _ h=>by cases h⟩⟩)
        ·refine Bb (vs:=[]) (l:=[]) Ct Tryz.underlying72 rfl rfl rfl rfl rfl rfl (Bg o) (Sep.nil _ _) fun f6 d0 bz ak _ b0=>?_
         have al:=tm n ak
         have b1:=y.join ak b0 n.size
         have am:∀ b ∈ d0,o.heap.size ≤ b:=fun b hb=>Ay (Nat.le_refl o.heap.size) ((b0.1 _ (List.mem_cons_self ..)).2.1 b hb).1
         have an:=t.ext ak
         have ao:=Ay (Nat.le_refl o.heap.size) ak.size
         refine Ah (Ap an (Cz (is:=[4,6]) (by kernel_rfl) rfl (Bd.2 ⟨⟨_,rfl,?_⟩,Bd.2 ⟨⟨_,rfl,?_⟩,fun _ h=>by cases h⟩⟩)))
         ·refine bB c fun f7 d1 c=>?_
          refine AE (i:=0) (S:=(· < bz.heap.size)) Ct Tryz.underlying72 rfl rfl rfl al b1 rfl (u.ro (an.below ao n al)) d1 fun f8 d2 d3 ap b2 d4=>?_
          have b3:=an.wr' ap.1 ap.2.1 (fun b hlt hb=>absurd hlt (AK.2 (am b hb)))
          have b4:∀ b ∈ d2,o.heap.size ≤ b:=fun b hb=>(ap.2.2 b hb).elim (am b) fun h=>Ay ao h
          have d5:=Ay ao ap.1
          refine Ah (Ap b3 (Av 6 rfl (Bb (vs:=[(.agg #[(iv f.1),(iv f.2.1),(iv f.2.2.1),(iv f.2.2.2)])]) (l:=[f]) Ct Tryz.underlying72 rfl rfl rfl rfl rfl rfl (Bg d3) (Sep.nil _ _) fun f9 ga d6 aq _ d7=>?_)))
          have d8:=tm b2 aq
          have b5:=d4.join aq d7 b2.size
          have b6:=b3.ext aq
          have b7:=Ay d5 aq.size
          refine Ah (Ap b6 (Av 7 rfl (bB c fun gb d9 c=>(AE (i:=1) (S:=(· < d6.heap.size)) Ct Tryz.underlying72 rfl rfl rfl d8 b5 rfl (b5.own_ro (i:=0) rfl) d9 fun gc ea eb ar b8 ec=>?_))))
          have bc:=b6.wr' ar.1 ar.2.1 (fun b hlt hb=>absurd hlt (AK.2 (b4 b hb)))
          have ed:∀ b ∈ ea,o.heap.size ≤ b:=fun b hb=>(ar.2.2 b hb).elim (b4 b) fun h=>Ay b7 h
          have b9:=Ay b7 ar.1
          refine Ah (Ap bc (Av 11 rfl (bB c fun ee ef c=>(AE (i:=1) (S:=(· < eb.heap.size)) Ct Tryz.underlying72 rfl rfl rfl b8 ec rfl (v.ro (bc.below b9 n b8)) ef fun eg eh gd bd be ei=>?_))))
          have au:=bc.wr' bd.1 bd.2.1 (fun b hlt hb=>absurd hlt (AK.2 (ed b hb)))
          have ca:=Ay b9 bd.1
          refine Ah (Ap au (Ad 12 rfl d au (AD rfl rfl (Ba ?_))))
          have u:=u.ro (au.below ca n be)
          have v:=v.ro (au.below ca n be)
          exact jx (a8 ee eg eh _ c be (ei.sel [1] rfl)) rfl
         ·refine Bb (vs:=[(.agg #[(iv f.1),(iv f.2.1),(iv f.2.2.1),(iv f.2.2.2)])]) (l:=[f]) Ct Tryz.underlying72 rfl rfl rfl rfl rfl rfl (Bg bz) (Sep.nil _ _) fun ge gf ej av _ ek=>?_
          have cb:=tm al av
          have el:=b1.join av ek al.size
          have bf:=an.ext av
          have bg:=Ay ao av.size
          refine Ah (Ap bf (Av 4 rfl (bB c fun gg em c=>(AE (i:=1) (S:=(· < ej.heap.size)) Ct Tryz.underlying72 rfl rfl rfl cb el rfl (u.ro (bf.below bg n cb)) em fun gh en eo aw ep cc=>?_))))
          have cd:=bf.wr' aw.1 aw.2.1 (fun b hlt hb=>absurd hlt (AK.2 (am b hb)))
          have ce:∀ b ∈ en,o.heap.size ≤ b:=fun b hb=>(aw.2.2 b hb).elim (am b) fun h=>Ay bg h
          have cf:=Ay bg aw.1
          refine Ah (Ap cd (Av 7 rfl (bB c fun gi eq c=>(AE (i:=1) (S:=(· < eo.heap.size)) Ct Tryz.underlying72 rfl rfl rfl ep cc rfl (cc.own_ro (i:=0) rfl) eq fun gj er es ax cg et=>?_))))
          have bh:=cd.wr' ax.1 ax.2.1 (fun b hlt hb=>absurd hlt (AK.2 (ce b hb)))
          have eu:∀ b ∈ er,o.heap.size ≤ b:=fun b hb=>(ax.2.2 b hb).elim (ce b) fun h=>Ay cf h
          have ch:=Ay cf ax.1
          refine Ah (Ap bh (Av 11 rfl (bB c fun ev ew c=>(AE (i:=1) (S:=(· < es.heap.size)) Ct Tryz.underlying72 rfl rfl rfl cg et rfl (v.ro (bh.below ch n cg)) ew fun ex ey gk bi bj ez=>?_))))
          have ay:=bh.wr' bi.1 bi.2.1 (fun b hlt hb=>absurd hlt (AK.2 (eu b hb)))
          have ci:=Ay ch bi.1
          refine Ah (Ap ay (Ad 12 rfl d ay (AD rfl rfl (Ba ?_))))
          have u:=u.ro (ay.below ci n bj)
          have v:=v.ro (ay.below ci n bj)
          exact jx (a8 ev ex ey _ c bj (ez.sel [1] rfl)) rfl
        ·refine Bb (vs:=[(.agg #[(iv f.1),(iv f.2.1),(iv f.2.2.1),(iv f.2.2.2)])]) (l:=[f]) Ct Tryz.underlying72 rfl rfl rfl rfl rfl rfl (Bg o) (Sep.nil _ _) fun gl gm e0 az _ e1=>?_
         have cj:=tm n az
         have e2:=y.join az e1 n.size
         have ck:=t.ext az
         have cl:=Ay (Nat.le_refl o.heap.size) az.size
         refine Ah (Ap ck (Av 0 rfl (Bb (vs:=[]) (l:=[]) Ct Tryz.underlying72 rfl rfl rfl rfl rfl rfl (Bg e0) (Sep.nil _ _) fun gn e3 e4 a0 _ cn=>?_)))
         have co:=tm cj a0
         have e5:=e2.join a0 cn cj.size
         have cp:∀ b ∈ e3,o.heap.size ≤ b:=fun b hb=>Ay cl ((cn.1 _ (List.mem_cons_self ..)).2.1 b hb).1
         have bk:=ck.ext a0
         have bl:=Ay cl a0.size
         refine Ah (Ap bk (Av 4 rfl (bB c fun go e6 c=>(AE (i:=0) (S:=(· < e4.heap.size)) Ct Tryz.underlying72 rfl rfl rfl co e5 rfl (u.ro (bk.below bl n co)) e6 fun gp e7 e8 a1 e9 cq=>?_))))
         have cr:=bk.wr' a1.1 a1.2.1 (fun b hlt hb=>absurd hlt (AK.2 (cp b hb)))
         have cs:∀ b ∈ e7,o.heap.size ≤ b:=fun b hb=>(a1.2.2 b hb).elim (cp b) fun h=>Ay bl h
         have ct:=Ay bl a1.1
         refine Ah (Ap cr (Av 7 rfl (bB c fun gq fa c=>(AE (i:=0) (S:=(· < e8.heap.size)) Ct Tryz.underlying72 rfl rfl rfl e9 cq rfl (cq.own_ro (i:=1) rfl) fa fun gr fb fc a2 cu fd=>?_))))
         have bm:=cr.wr' a2.1 a2.2.1 (fun b hlt hb=>absurd hlt (AK.2 (cs b hb)))
         have fe:∀ b ∈ fb,o.heap.size ≤ b:=fun b hb=>(a2.2.2 b hb).elim (cs b) fun h=>Ay ct h
         have cv:=Ay ct a2.1
         refine Ah (Ap bm (Av 11 rfl (bB c fun ff fg c=>(AE (i:=0) (S:=(· < fc.heap.size)) Ct Tryz.underlying72 rfl rfl rfl cu fd rfl (v.ro (bm.below cv n cu)) fg fun fh fi gs bn bo fj=>?_))))
         have a3:=bm.wr' bn.1 bn.2.1 (fun b hlt hb=>absurd hlt (AK.2 (fe b hb)))
         have cw:=Ay cv bn.1
         refine Ah (Ap a3 (Ad 12 rfl d a3 (AD rfl rfl (Ba ?_))))
         have u:=u.ro (a3.below cw n bo)
         have v:=v.ro (a3.below cw n bo)
         exact jx (a8 ff fh fi _ c bo (fj.sel [0] rfl)) rfl
      refine AR B2 [] dn dp fun cx _ cy a4=>?_
      have j:=KeepX.refl cx []
      refine Ax 0 rfl d j (Ad 1 rfl d j (To rfl rfl rfl (Ax 2 rfl d j ?_)))
      rcases bE (decide (0 < aa)) with g | g
      ·replace c:=B9 g c
       refine BF 3 rfl d g j (CJ 1 BD rfl a4 rfl (by simp) (BF 4 rfl d g j (Da rfl rfl (BF 5 rfl d g j (Da rfl rfl (BF 6 rfl d g j (GS rfl rfl rfl (bB c fun fk fl c=>(BF 7 rfl d g j (Bv (e:=A0) (i:=0) Tryz.underlying72 rfl rfl rfl a4 rfl fl ?_))))))))))
       rintro gt _ rfl fm gu
       refine BF 8 rfl d g j (BJ BD rfl (fm.kx0) rfl (Av 9 rfl (wn rfl g (bB c fun fn fo c=>(Bs rfl Tryz.call136 cy a4 (OO cx f fk _ fo) rfl fun gv fp fq fr=>?_)))))
       have cz:=j.ext fp
       refine Ah (Ap cz (Ad 10 rfl d cz (Es rfl rfl g rfl (Ba ?_))))
       exact jx (bv fn _ c fq (fr.sel [0,1] rfl)) rfl
      ·replace c:=Cf g c
       refine AZ 3 rfl d g j (AZ 4 rfl d g j (AZ 5 rfl d g j (AZ 6 rfl d g j (AZ 7 rfl d g j (AZ 8 rfl d g j (AZ 9 rfl d g j (Ad 10 rfl d j (Ga rfl rfl g rfl (Ba ?_)))))))))
       exact jx (bv false _ c cy (a4.sel [0,1] rfl)) rfl
   ·refine Bc (c5 ?_)
    refine Am fun _ fs=>Ak fun _ ft=>wp 1 rfl (bB c fun gw fu c=>(Bs rfl Tryz.call137 a5 a6 (Qz w5 q s (a6.own_ro (i:=0) rfl) _ fu) rfl fun gx _ c0 c1=>(Aq 1 rfl (ft (A2 rfl c (fun _ c=>?_) (fun _ c=>?_))))))
    ·refine Al 2 rfl ?_
     refine Aw ?_
     have fv:=c1.push0 (r:=Ab A0 [] (.slice none 0 0) []) rfl fun _=>.inl ⟨rfl,rfl,rfl⟩
     refine rt hQ rfl rfl (by cases c; exact ⟨(.slice none 0 0),[],rfl,c0,fv.sel [0] rfl⟩)
    ·refine Au (fs ?_)
     refine Al 3 rfl (Aw (rt hQ rfl rfl (by cases c; exact ⟨s,ab,rfl,c0,c1.sel [0] rfl⟩)))
theorem Nn (i:Ae) (j:Ae7) (o:Ac) (w:RO Cm i o j) (r:Bool) (b:HZ j = some r) :
  A1 138 [o] i fun e w'=>e = .returned (.bool r) ∧ Bl i w':=by
 refine cm Tryz.func138 Tryz.ntmps138 rfl fun Q hQ hP hB hS=>?_
 unfold HZ at b
 refine Al 1 rfl (Am fun _ ak=>(Ak fun _ al=>(wp 1 rfl (BQ w Tryz.underlying41 rfl (Aq 1 rfl (al (Az (AN (fun m a t=>∃ (l:Int),St 43 [(0,o),(5,o),(6,(iv (List.length j:Int))),(7,(iv l))] a ∧ Bl i t ∧ Sp i t [] ∧ FE j m l = some r) FU ?_ ?_))))))))
 ·exact fun a ha=>⟨0,ha.sb rfl,hB,(hS.sel [] rfl),b⟩
 ·rintro s a t ⟨l,ha,x,am,b⟩ bp an
  refine BB ?_ ha
  cases s with
  | zero=>exact Be b
  | succ s =>
   obtain ⟨bq,ac⟩:∃ k,k = FE j s:=⟨_,rfl⟩
   rw [FE,← ac] at b
   refine Al 1 rfl (Am fun _ ao=>(A2 rfl b (fun _ b=>?_) (fun _ b=>?_)))
   ·refine Au (ao ?_)
    refine Am fun _ ap=>Az (Ak fun _ aq=>(wp 1 rfl (bB b fun p ar b=>(BM (e:=Cm) Tryz.underlying41 rfl rfl rfl w ar ?_))))
    rintro br _ rfl au
    refine BV LC rfl (au.ro x) rfl (Ep LC rfl x am fun bs bt _ av aw=>(wp 1 rfl (Gq 0 LC rfl rfl av aw rfl rfl rfl fun ax _ ay ad=>(Ah (aq (Am fun az a0=>?_))))))
    obtain ⟨a1,a2,b⟩:=Ch b
    have q:∀ (y:Bool) (u:Ae) (_:a1 y = some r) (_:Bl i u) (_:Sp i u []),∀ a,St 43 [(0,o),(5,o),(6,(iv (List.length j:Int))),(7,(iv l)),(38,(.bool y))] a → az a u:=by
     intro y u b ae a3
     subst a2
     refine a0 (A2 rfl b (fun _ b=>?_) (fun _ b=>?_))
     ·refine Al 1 rfl ?_
      refine Aw (rt hQ rfl rfl (by cases b; exact ⟨rfl,ae⟩))
     ·refine Au (ap ?_)
      refine As (Aq 2 rfl ?_)
      rw [ac] at b
      exact fun a ha=>an a _ s (AB s) ⟨(Ag (l + 1)),ha.sb rfl,ae,(a3.sel [] rfl),b⟩
    refine As (Bq NM rfl (AU 0 A4 rfl ad rfl rfl (wp 2 rfl (bB b fun a4 a5 b=>(Bs rfl Tryz.call77 ay ad (Ci ax p.1 0 (Ag (l - 1)) _ a5) rfl fun af _ v n=>(wp 2 rfl ?_))))))
    rcases bE (!a4) with c | c
    ·replace b:=B9 c b
     refine wn rfl c (wp 1 rfl (wn rfl c (wp 1 rfl (wn rfl c (wp 1 rfl ?_)))))
     rcases bE (decide (0 < l)) with h | h
     ·replace b:=B9 h b
      refine wo rfl h (wo rfl h (wo rfl h (wn rfl c (AA rfl rfl h rfl (AA rfl rfl c rfl (wp 1 rfl (wo rfl rfl (wo rfl rfl (wo rfl rfl (wo rfl rfl (AA rfl rfl rfl rfl (wp 1 rfl (wo rfl rfl (wo rfl rfl (wo rfl rfl (wo rfl rfl (AA rfl rfl rfl rfl (Ah ?_))))))))))))))))))
      exact jx (q true _ b v (n.sel [] rfl)) rfl
     ·replace b:=Cf h b
      refine wn rfl h (Bq NM rfl (wn rfl h (AU 0 A4 rfl n rfl rfl (wn rfl h (wp 1 rfl (wn rfl c (A6 rfl rfl h rfl (AA rfl rfl c rfl (wp 1 rfl ?_)))))))))
      rcases bE (p.1 != (-1)) with d | d
      ·replace b:=B9 d b
       refine wo rfl d (wo rfl d (wo rfl d (wo rfl d (AA rfl rfl d rfl (wp 1 rfl (wo rfl rfl (wo rfl rfl (wo rfl rfl (wo rfl rfl (AA rfl rfl rfl rfl (Ah ?_)))))))))))
       exact jx (q true _ b v (n.sel [] rfl)) rfl
      ·replace b:=Cf d b
       refine wn rfl d (Bq NL rfl (wn rfl d (AU 0 A4 rfl n rfl rfl (wn rfl d (bB b fun a6 a7 b=>(Bs rfl Tryz.call77 v n (Ci af p.2.1 0 7 _ a7) rfl fun a8 _ ag z=>(wn rfl d (wp 1 rfl (A6 rfl rfl d rfl (wp 1 rfl ?_))))))))))
       rcases bE (!a6) with f | f
       ·replace b:=B9 f b
        refine wo rfl f (wo rfl f (wo rfl f (wo rfl f (AA rfl rfl f rfl (Ah ?_)))))
        exact jx (q true _ b ag (z.sel [] rfl)) rfl
       ·replace b:=Cf f b
        refine wn rfl f (Bq NK rfl (wn rfl f (AU 0 A4 rfl z rfl rfl (wn rfl f (bB b fun a9 ba b=>(Bs rfl Tryz.call77 ag z (Ci a8 p.2.2 0 999 _ ba) rfl fun bu _ bb bc=>(wn rfl f (wp 1 rfl (A6 rfl rfl f rfl (Ah ?_))))))))))
        exact jx (q ((!a9)) _ b bb (bc.sel [] rfl)) rfl
    ·replace b:=Cf c b
     refine wo rfl c (wo rfl c (wo rfl c (Dn rfl rfl rfl (Dn rfl rfl rfl (Dn rfl rfl rfl (wo rfl c (A6 rfl rfl c rfl (wp 1 rfl (wn rfl rfl (Bq NL rfl (wn rfl rfl (AU 0 A4 rfl n rfl rfl (wn rfl rfl (bB b fun bd be b=>Bs rfl Tryz.call77 v n (Ci af p.2.1 0 7 _ be) rfl fun bf _ ah aa=>wn rfl rfl (wp 1 rfl (A6 rfl rfl rfl rfl (wp 1 rfl ?_)))))))))))))))))
     rcases bE (!bd) with g | g
     ·replace b:=B9 g b
      refine wo rfl g (wo rfl g (wo rfl g (wo rfl g (AA rfl rfl g rfl (Ah ?_)))))
      exact jx (q true _ b ah (aa.sel [] rfl)) rfl
     ·replace b:=Cf g b
      refine wn rfl g (Bq NK rfl (wn rfl g (AU 0 A4 rfl aa rfl rfl (wn rfl g (bB b fun bg bh b=>(Bs rfl Tryz.call77 ah aa (Ci bf p.2.2 0 999 _ bh) rfl fun bv _ bi bj=>(wn rfl g (wp 1 rfl (A6 rfl rfl g rfl (Ah ?_))))))))))
      exact jx (q ((!bg)) _ b bi (bj.sel [] rfl)) rfl
   ·refine Bc (ak ?_)
    refine Ak fun _ bk=>wp 1 rfl (BQ w Tryz.underlying41 rfl (bB b fun bw bl b=>(A7 rfl Tryz.call77 (Ci t (List.length j:Int) 1 60 _ bl) rfl ?_)))
    rintro _ bx ⟨rfl,bm⟩
    refine ⟨_,rfl,?_⟩
    have bn:=tm x bm
    refine Aq 1 rfl (bk (Aw (rt hQ rfl rfl (by cases b; exact ⟨rfl,bn⟩))))
theorem RK (j:Ae) (x0:Ae7) (p:Ac) (q:RO Cm j p x0) (d:(Int × Int × Int)) (r:(Ae7 × Bool)) (c:Ih x0 d = some r) :
  A1 95 [p,(.agg #[(iv d.1),(iv d.2.1),(iv d.2.2)])] j fun e w'=>∃ (q0:Ac) (G0:An),e = .returned (.tuple #[q0,(.bool r.2)]) ∧ Bl j w' ∧ Sp j w' [Ab Cm G0 q0 r.1]:=by
 refine cm Tryz.func95 Tryz.ntmps95 rfl fun Q hQ m hB hS=>?_
 unfold Ih at c
 refine Ak fun _ bp=>CM rfl hB hS fun b2 w3 _ bq br=>Aq 2 rfl (bp (Am fun K7 bt=>?_))
 obtain ⟨bu,bv,c⟩:=Ch c
 have ad:∀ (n:Ae7) (k:Ac) (s:An) (o:Ae) (_:bu n = some r) (_:Bl j o) (_:Sp j o [Ab Cm s k n]),∀ a,St 22 [(0,p),(6,k)] a → K7 a o:=by
  intro n k s o c ao bw
  subst bv
  refine bt (Am fun _ bx=>(Am fun bz b0=>?_))
  obtain ⟨b1,b3,c⟩:=Ch c
  have ap:∀ (ae:Bool) (t:Ae) (_:b1 ae = some r) (_:Bl j t) (_:Sp j t [Ab Cm s k n]),∀ a,St 22 [(6,k),(20,(.bool ae))] a → bz a t:=by
   intro ae t c aq ar
   subst b3
   refine b0 (A2 rfl c (fun _ c=>?_) (fun _ c=>?_))
   ·refine Al 2 rfl ?_
    refine Aw ?_
    have b4:=ar.push0 (r:=Ab Cm [] (.slice none 0 0) []) rfl fun _=>.inl ⟨rfl,rfl,rfl⟩
    refine rt hQ rfl rfl (by cases c; exact ⟨(.slice none 0 0),[],rfl,aq,b4.sel [0] rfl⟩)
   ·refine Au (bx ?_)
    refine Al 3 rfl (Aw (rt hQ rfl rfl (by cases c; exact ⟨k,s,rfl,aq,ar.sel [0] rfl⟩)))
  refine As (wp 1 rfl (bB c fun b5 b6 c=>(Bs rfl Tryz.call138 ao bw (Nn o x0 p (q.ro ao) _ b6) rfl fun b7 _ au af=>(wp 2 rfl ?_))))
  rcases bE (!b5) with f | f
  ·replace c:=B9 f c
   refine wo rfl f (wo rfl f (wo rfl f (AA rfl rfl f rfl (Ah ?_))))
   exact jx (ap true _ c au (af.sel [0] rfl)) rfl
  ·replace c:=Cf f c
   refine wn rfl f (wp 1 rfl (wn rfl f (bB c fun b8 b9 c=>(Bs rfl Tryz.call138 au af (Nn b7 n k (af.own_ro (i:=0) rfl) _ b9) rfl fun ds _ ca cb=>(wn rfl f (wp 1 rfl (A6 rfl rfl f rfl (Ah ?_))))))))
   exact jx (ap ((!b8)) _ c ca (cb.sel [0] rfl)) rfl
 refine AR B2 [] bq br fun g _ u ag=>?_
 have v:=KeepX.refl g []
 refine Ax 1 rfl m v (Ad 3 rfl m v (CJ 0 LC rfl ag rfl (by simp) (Cz (is:=[0,4]) (by kernel_rfl) rfl (Bd.2 ⟨⟨_,rfl,?_⟩,Bd.2 ⟨⟨_,rfl,?_⟩,fun _ h=>by cases h⟩⟩))))
 ·refine Bb (vs:=[]) (l:=[]) GL Tryz.underlying41 rfl rfl rfl rfl rfl rfl (Bg g) (Sep.nil _ _) fun dt cc av w _ aw=>?_
  have x:=tm u w
  have ax:=ag.join w aw u.size
  have y:∀ b ∈ cc,g.heap.size ≤ b:=fun b hb=>Ay (Nat.le_refl g.heap.size) ((aw.1 _ (List.mem_cons_self ..)).2.1 b hb).1
  have ah:=v.ext w
  have ay:=Ay (Nat.le_refl g.heap.size) w.size
  refine Ah (Ap ah (Cz (is:=[2,4]) (by kernel_rfl) rfl (Bd.2 ⟨⟨_,rfl,?_⟩,Bd.2 ⟨⟨_,rfl,?_⟩,fun _ h=>by cases h⟩⟩)))
  ·refine bB c fun du cd c=>?_
   refine AE (i:=0) (S:=(· < av.heap.size)) GL Tryz.underlying41 rfl rfl rfl x ax rfl (q.ro x) cd fun dv ce cf ai az cg=>?_
   have a0:=ah.wr' ai.1 ai.2.1 (fun b hlt hb=>absurd hlt (AK.2 (y b hb)))
   have ch:∀ b ∈ ce,g.heap.size ≤ b:=fun b hb=>(ai.2.2 b hb).elim (y b) fun h=>Ay ay h
   refine Ah (Ap a0 (Av 4 rfl (Bb (vs:=[(.agg #[(iv d.1),(iv d.2.1),(iv d.2.2)])]) (l:=[d]) GL Tryz.underlying41 rfl rfl rfl rfl rfl rfl (Bg cf) (Sep.nil _ _) fun dw dx ci aj _ cj=>?_)))
   have ck:=tm az aj
   have a1:=cg.join aj cj az.size
   have a2:=a0.ext aj
   refine Ah (Ap a2 (Av 5 rfl (bB c fun cl cn c=>(AE (i:=1) (S:=(· < ci.heap.size)) GL Tryz.underlying41 rfl rfl rfl ck a1 rfl (a1.own_ro (i:=0) rfl) cn fun co cp dy a3 cq cr=>?_))))
   have a4:=a2.wr' a3.1 a3.2.1 (fun b hlt hb=>absurd hlt (AK.2 (ch b hb)))
   refine Ah (Ap a4 (Ad 6 rfl m a4 (AD rfl rfl (Ba ?_))))
   exact jx (ad cl co cp _ c cq (cr.sel [1] rfl)) rfl
  ·refine Bb (vs:=[(.agg #[(iv d.1),(iv d.2.1),(iv d.2.2)])]) (l:=[d]) GL Tryz.underlying41 rfl rfl rfl rfl rfl rfl (Bg av) (Sep.nil _ _) fun dz d0 cs z _ ct=>?_
   have a5:=tm x z
   have cu:=ax.join z ct x.size
   have a6:=ah.ext z
   have cv:=Ay ay z.size
   refine Ah (Ap a6 (Av 2 rfl (bB c fun d1 cw c=>(AE (i:=1) (S:=(· < cs.heap.size)) GL Tryz.underlying41 rfl rfl rfl a5 cu rfl (q.ro a5) cw fun d2 cx cy ak cz a7=>?_))))
   have a8:=a6.wr' ak.1 ak.2.1 (fun b hlt hb=>absurd hlt (AK.2 (y b hb)))
   have c0:∀ b ∈ cx,g.heap.size ≤ b:=fun b hb=>(ak.2.2 b hb).elim (y b) fun h=>Ay cv h
   refine Ah (Ap a8 (Av 5 rfl (bB c fun c1 c2 c=>(AE (i:=1) (S:=(· < cy.heap.size)) GL Tryz.underlying41 rfl rfl rfl cz a7 rfl (a7.own_ro (i:=0) rfl) c2 fun c3 c4 d3 a9 c5 c6=>?_))))
   have ba:=a8.wr' a9.1 a9.2.1 (fun b hlt hb=>absurd hlt (AK.2 (c0 b hb)))
   refine Ah (Ap ba (Ad 6 rfl m ba (AD rfl rfl (Ba ?_))))
   exact jx (ad c1 c3 c4 _ c c5 (c6.sel [1] rfl)) rfl
 ·refine Bb (vs:=[(.agg #[(iv d.1),(iv d.2.1),(iv d.2.2)])]) (l:=[d]) GL Tryz.underlying41 rfl rfl rfl rfl rfl rfl (Bg g) (Sep.nil _ _) fun d4 d5 c7 aa _ c8=>?_
  have bb:=tm u aa
  have c9:=ag.join aa c8 u.size
  have bc:=v.ext aa
  have bd:=Ay (Nat.le_refl g.heap.size) aa.size
  refine Ah (Ap bc (Av 0 rfl (Bb (vs:=[]) (l:=[]) GL Tryz.underlying41 rfl rfl rfl rfl rfl rfl (Bg c7) (Sep.nil _ _) fun d6 da db ab _ be=>?_)))
  have bf:=tm bb ab
  have dc:=c9.join ab be bb.size
  have bg:∀ b ∈ da,g.heap.size ≤ b:=fun b hb=>Ay bd ((be.1 _ (List.mem_cons_self ..)).2.1 b hb).1
  have bh:=bc.ext ab
  have dd:=Ay bd ab.size
  refine Ah (Ap bh (Av 2 rfl (bB c fun d7 de c=>(AE (i:=0) (S:=(· < db.heap.size)) GL Tryz.underlying41 rfl rfl rfl bf dc rfl (q.ro bf) de fun d8 df dg al dh bi=>?_))))
  have bj:=bh.wr' al.1 al.2.1 (fun b hlt hb=>absurd hlt (AK.2 (bg b hb)))
  have di:∀ b ∈ df,g.heap.size ≤ b:=fun b hb=>(al.2.2 b hb).elim (bg b) fun h=>Ay dd h
  refine Ah (Ap bj (Av 5 rfl (bB c fun dj dk c=>(AE (i:=0) (S:=(· < dg.heap.size)) GL Tryz.underlying41 rfl rfl rfl dh bi rfl (bi.own_ro (i:=1) rfl) dk fun dl dm d9 bk dn dp=>?_))))
  have bl:=bj.wr' bk.1 bk.2.1 (fun b hlt hb=>absurd hlt (AK.2 (di b hb)))
  refine Ah (Ap bl (Ad 6 rfl m bl (AD rfl rfl (Ba ?_))))
  exact jx (ad dj dl dm _ c dn (dp.sel [0] rfl)) rfl
theorem Pj (k:Ae) (d:(Ae4 × Ae4 × Int × Ae4 × Ae5 × Ae7 × (List Int) × (List Int) × Int)) (g:Nat) (q:An) (x1:(List Aj)) (n:(List Int)) (o:Ac) (p:An) (jm:Sep 0 k [A3 B1 74 q g d,Ab Ao p o n]) (r:(Bool × (Ae4 × Ae4 × Int × Ae4 × Ae5 × Ae7 × (List Int) × (List Int) × Int))) (c:C0 d x1 n = some r) :
  A1 79 [(.pointer (some ⟨g,0,none⟩)),(.string (B5 x1)),o] k fun e w'=>∃ (H_0:An),e = .returned (.bool r.1) ∧ Below 0 (wE k) w' ∧ Sep 0 w' [A5 k (Bf [A3 B1 74 q g d,Ab Ao p o n]),A3 B1 74 H_0 g r.2]:=by
 refine Gb Tryz.func79 rfl Tryz.ntmps79 rfl rfl fun Q hQ f=>?_
 have hB:Bl (wE k) k:=Ek k
 have hS:Sp (wE k) k [A5 k (Bf [A3 B1 74 q g d,Ab Ao p o n]),A3 B1 74 q g d,Ab Ao p o n]:=jm.rest
 unfold C0 at c
 refine Al 1 rfl (Al 1 rfl (Am fun K3 jp=>?_))
 obtain ⟨jq,jr,c⟩:=Nd c
 have aj:∀ (df:(Ae4 × Ae4 × Int × Ae4 × Ae5 × Ae7 × (List Int) × (List Int) × Int)) (dg:Bool) (dh:An) (b8:Ae) (_:jq df dg = some r) (_:Bl (wE k) b8) (_:Sp (wE k) b8 [A5 k (Bf [A3 B1 74 q g d,Ab Ao p o n]),A3 B1 74 dh g df]),∀ a,St 174 [(7,(.bool dg))] a → K3 a b8:=by
  intro df dg dh b8 c js jt
  subst jr
  refine jp (Al 2 rfl (Aw (rt hQ rfl rfl (by cases c; exact ⟨dh,rfl,js,jt.sel [0,1] rfl⟩))))
 refine Al 1 rfl (Az (Ak fun _ ju=>(AQ rfl rfl rfl (Aq 1 rfl (ju (A2 rfl c (fun _ c=>?_) (fun _ c=>?_)))))))
 ·obtain ⟨a0,aa,a3,ab,a4,ac,a5,ad,a6,ae,a7,af,a8,ag,jv⟩:=Hi (hS.sel [1,0,2] rfl)
  refine AR B2 ((((((([g] ++ aa) ++ ab) ++ ac) ++ ad) ++ ae) ++ af) ++ ag) hB jv fun ah _ a9 t=>?_
  have ak:=KeepX.refl ah ((((((([g] ++ aa) ++ ab) ++ ac) ++ ad) ++ ae) ++ af) ++ ag)
  refine Ax 0 rfl f ak (Ax 1 rfl f ak (Ad 2 rfl f ak (B6 rfl rfl (Ad 3 rfl f ak (C5 IZ rfl (Ax 6 rfl f ak (bB c fun y jw c=>(Ad 7 rfl f ak (C8 (e:=Ao) (i:=9) Tryz.underlying36 rfl rfl rfl t rfl jw ?_)))))))))
  rintro sv _ rfl jy sw
  refine Ad 8 rfl f ak (BJ A4 rfl (fun w hw=>jy.keepS (fun b m=>(hw.blk b (((t.get (i:=9) rfl).2.1 b m).2) (fun hb=>(AP.1 hb).elim (fun hb=>(AP.1 hb).elim (fun hb=>(AP.1 hb).elim (fun hb=>(AP.1 hb).elim (fun hb=>(AP.1 hb).elim (fun hb=>(AP.1 hb).elim (fun hb=>(AP.1 hb).elim (t.disj (i:=9) (j:=0) rfl rfl rfl b m) (t.disj (i:=9) (j:=1) rfl rfl rfl b m)) (t.disj (i:=9) (j:=2) rfl rfl rfl b m)) (t.disj (i:=9) (j:=3) rfl rfl rfl b m)) (t.disj (i:=9) (j:=4) rfl rfl rfl b m)) (t.disj (i:=9) (j:=5) rfl rfl rfl b m)) (t.disj (i:=9) (j:=6) rfl rfl rfl b m)) (t.disj (i:=9) (j:=7) rfl rfl rfl b m)))) (fun _ h=>h)) rfl (Ax 9 rfl f ak (bB c fun z jz c=>(Ad 10 rfl f ak (C8 (e:=Ao) (i:=9) Tryz.underlying36 rfl rfl rfl t rfl jz ?_)))))
  rintro sx _ rfl j0 sy
  refine Ad 11 rfl f ak (BJ A4 rfl (fun w hw=>j0.keepS (fun b m=>(hw.blk b (((t.get (i:=9) rfl).2.1 b m).2) (fun hb=>(AP.1 hb).elim (fun hb=>(AP.1 hb).elim (fun hb=>(AP.1 hb).elim (fun hb=>(AP.1 hb).elim (fun hb=>(AP.1 hb).elim (fun hb=>(AP.1 hb).elim (fun hb=>(AP.1 hb).elim (t.disj (i:=9) (j:=0) rfl rfl rfl b m) (t.disj (i:=9) (j:=1) rfl rfl rfl b m)) (t.disj (i:=9) (j:=2) rfl rfl rfl b m)) (t.disj (i:=9) (j:=3) rfl rfl rfl b m)) (t.disj (i:=9) (j:=4) rfl rfl rfl b m)) (t.disj (i:=9) (j:=5) rfl rfl rfl b m)) (t.disj (i:=9) (j:=6) rfl rfl rfl b m)) (t.disj (i:=9) (j:=7) rfl rfl rfl b m)))) (fun _ h=>h)) rfl (Ad 12 rfl f ak (HW (zs:=[(iv 0),(iv 0)]) (out:=[(iv y),(iv z)]) (vs:=[(iv y),(iv z)]) (css:=[[(iv y)],[(iv z)]]) Bt LE rfl rfl rfl rfl rfl (Cz (is:=[4,13]) (by kernel_rfl) rfl (Bd.2 ⟨⟨_,rfl,?_⟩,Bd.2 ⟨⟨_,rfl,?_⟩,fun _ h=>by cases h⟩⟩)))))
  ·refine AU 0 Cp rfl t rfl rfl ?_
   refine Ah (Ap ak (Cz (is:=[5,13]) (by kernel_rfl) rfl (Bd.2 ⟨⟨_,rfl,?_⟩,Bd.2 ⟨⟨_,rfl,?_⟩,fun _ h=>by cases h⟩⟩)))
   ·refine bB c fun sz j1 c=>?_
    refine A7 rfl Tryz.call90 (IM ah d.1 a0 (t.own_ro (i:=1) rfl) _ j1) rfl ?_
    rintro _ j2 ⟨s0,j3,rfl,b9,fd⟩
    refine ⟨_,rfl,?_⟩
    have fe:=tm a9 b9
    have ff:∀ b ∈ j3,ah.heap.size ≤ b:=fun b hb=>Ay (Nat.le_refl ah.heap.size) ((fd.get (i:=0) rfl).2.1 b hb).1
    have j4:=t.join b9 fd a9.size
    have fg:=ak.ext b9
    have j5:=Ay (Nat.le_refl ah.heap.size) b9.size
    refine Ah (Ap fg (Av 13 rfl (Bb (vs:=[(.agg #[(iv y),(iv z)])]) (l:=[(y,z)]) CC Tryz.underlying26 rfl rfl rfl rfl rfl rfl (Bg j2) (Sep.nil _ _) fun di dj j6 ca _ j7=>?_)))
    have j8:=tm fe ca
    have fh:=j4.join ca j7 fe.size
    have fi:=fg.ext ca
    have fj:=Ay j5 ca.size
    refine Ah (Ap fi (Av 14 rfl (bB c fun dk j9 c=>(AE (i:=1) (S:=(· < j6.heap.size)) CC Tryz.underlying26 rfl rfl rfl j8 fh rfl (fh.own_ro (i:=0) rfl) j9 fun dl cb ka cc fk dm=>?_))))
    have fl:=fi.wr' cc.1 cc.2.1 (fun b hlt hb=>absurd hlt (AK.2 (ff b hb)))
    have fm:∀ b ∈ cb,ah.heap.size ≤ b:=fun b hb=>(cc.2.2 b hb).elim (ff b) fun h=>Ay fj h
    have kb:=Ay fj cc.1
    refine Ah (Ap fl (Av 15 rfl (bB c fun ba kc c=>(A7 rfl Tryz.call89 (JD ka dk dl cb (dm.sel [1] rfl).base0 _ kc) rfl ?_))))
    rintro _ dn ⟨bt,bb,rfl,kd,cd⟩
    refine ⟨_,rfl,?_⟩
    have fn:=dm.takeB [1] rfl (M:=[Ab Ar cb dl dk]) rfl fk kd cd
    have ke:Sp (wE k) dn [Ab Ar bb bt ba.1,Ab Ar dj di [(y,z)],A9 g 74 [a0,a3,(iv d.2.2.1),a4,a5,a6,a7,a8,(iv d.2.2.2.2.2.2.2.2)],Ab Ar aa a0 d.1,Ab Ar ab a3 d.2.1,Ab BN ac a4 d.2.2.2.1,Ab A0 ad a5 d.2.2.2.2.1,Ab Cm ae a6 d.2.2.2.2.2.1,Ab Ao af a7 d.2.2.2.2.2.2.1,Ab Ao ag a8 d.2.2.2.2.2.2.2.1,A5 k (Bf [A3 B1 74 q g d,Ab Ao p o n]),Ab Ao p o n]:=dm.take [1] [0,2,3,4,5,6,7,8,9,10,11] rfl (M:=[Ab Ar cb dl dk]) rfl cd fk.size
    have kf:∀ b ∈ bb,ah.heap.size ≤ b:=fun b hb=>(KP cd (i:=0) rfl b hb).elim ((BS (fm) CV) b) fun h=>Ay kb h
    have ce:=fl.tk cd (BS (fun b hb hlt=>absurd hlt (AK.2 (fm b hb))) CV)
    refine Ah (Ap ce (Ad 16 rfl f ce (AW rfl rfl rfl (Ad 17 rfl f ce (AW rfl rfl rfl (Av 18 rfl ?_))))))
    have dp:Sp (wE k) dn [A3 B1 74 ([aa,ab,ac,ad,ae,af,ag].flatten) g d,Ab Ar bb bt ba.1,Ab Ar dj di [(y,z)],A5 k (Bf [A3 B1 74 q g d,Ab Ao p o n]),Ab Ao p o n]:=D5 (ke.sel [2,3,4,5,6,7,8,9,0,1,10,11] rfl)
    refine bB c fun dq kg c=>A7 rfl Tryz.call88 (Hf dn d g ([aa,ab,ac,ad,ae,af,ag].flatten) ba.1 bt bb ba.2 (dp.sel [0,1] rfl).base0 _ kg) rfl ?_
    rintro _ kh ⟨fo,rfl,ki,dr⟩
    refine ⟨_,rfl,?_⟩
    have kj:=dp.takeB [0,1] rfl (M:=[A3 B1 74 ([aa,ab,ac,ad,ae,af,ag].flatten) g d,Ab Ar bb bt ba.1]) rfl fn ki dr
    have kk:Sp (wE k) kh [A3 B1 74 fo g dq.2,Ab Ar dj di [(y,z)],A5 k (Bf [A3 B1 74 q g d,Ab Ao p o n]),Ab Ao p o n]:=dp.take [0,1] [2,3,4] rfl (M:=[A3 B1 74 ([aa,ab,ac,ad,ae,af,ag].flatten) g d,Ab Ar bb bt ba.1]) rfl dr fn.size
    have fp:=ce.tk dr (BS (Pz (fun b hb hlt=>(fun _ _ h=>At _ (At _ (At _ (At _ (At _ (At _ (At _ (h)))))))) b hlt hb) (Bu (fun b hb hlt=>(fun _ _ h=>At _ (At _ (At _ (At _ (At _ (At _ (Bi _ h))))))) b hlt hb) (Bu (fun b hb hlt=>(fun _ _ h=>At _ (At _ (At _ (At _ (At _ (Bi _ h)))))) b hlt hb) (Bu (fun b hb hlt=>(fun _ _ h=>At _ (At _ (At _ (At _ (Bi _ h))))) b hlt hb) (Bu (fun b hb hlt=>(fun _ _ h=>At _ (At _ (At _ (Bi _ h)))) b hlt hb) (Bu (fun b hb hlt=>(fun _ _ h=>At _ (At _ (Bi _ h))) b hlt hb) (Bu (fun b hb hlt=>(fun _ _ h=>At _ (Bi _ h)) b hlt hb) (Bu (fun b hb hlt=>(fun _ _ h=>Bi _ h) b hlt hb) Iz)))))))) (BS (fun b hb hlt=>absurd hlt (AK.2 (kf b hb))) CV))
    refine Ah (Ap fp (Ad 19 rfl f fp (AD rfl rfl (Ba ?_))))
    exact jx (aj (dq.2) (dq.1) fo _ c kj (kk.sel [2,0] rfl)) rfl
   ·refine Bb (vs:=[(.agg #[(iv y),(iv z)])]) (l:=[(y,z)]) CC Tryz.underlying26 rfl rfl rfl rfl rfl rfl (Bg ah) (Sep.nil _ _) fun ds dt kl cf _ km=>?_
    have fq:=tm a9 cf
    have fr:=t.join cf km a9.size
    have fs:=ak.ext cf
    have ft:=Ay (Nat.le_refl ah.heap.size) cf.size
    refine Ah (Ap fs (Av 5 rfl (bB c fun s1 kn c=>(A7 rfl Tryz.call90 (IM kl d.1 a0 (fr.own_ro (i:=2) rfl) _ kn) rfl ?_))))
    rintro _ ko ⟨s2,kp,rfl,cg,fu⟩
    refine ⟨_,rfl,?_⟩
    have kq:=tm fq cg
    have fv:∀ b ∈ kp,ah.heap.size ≤ b:=fun b hb=>Ay ft ((fu.get (i:=0) rfl).2.1 b hb).1
    have fw:=fr.join cg fu fq.size
    have fx:=fs.ext cg
    have fy:=Ay ft cg.size
    refine Ah (Ap fx (Av 14 rfl (bB c fun du kr c=>(AE (i:=0) (S:=(· < ko.heap.size)) CC Tryz.underlying26 rfl rfl rfl kq fw rfl (fw.own_ro (i:=1) rfl) kr fun dv ch ks ci fz dw=>?_))))
    have f0:=fx.wr' ci.1 ci.2.1 (fun b hlt hb=>absurd hlt (AK.2 (fv b hb)))
    have f1:∀ b ∈ ch,ah.heap.size ≤ b:=fun b hb=>(ci.2.2 b hb).elim (fv b) fun h=>Ay fy h
    have kt:=Ay fy ci.1
    refine Ah (Ap f0 (Av 15 rfl (bB c fun bc ku c=>(A7 rfl Tryz.call89 (JD ks du dv ch (dw.sel [0] rfl).base0 _ ku) rfl ?_))))
    rintro _ dx ⟨bu,bd,rfl,kv,cj⟩
    refine ⟨_,rfl,?_⟩
    have f2:=dw.takeB [0] rfl (M:=[Ab Ar ch dv du]) rfl fz kv cj
    have kw:Sp (wE k) dx [Ab Ar bd bu bc.1,Ab Ar dt ds [(y,z)],A9 g 74 [a0,a3,(iv d.2.2.1),a4,a5,a6,a7,a8,(iv d.2.2.2.2.2.2.2.2)],Ab Ar aa a0 d.1,Ab Ar ab a3 d.2.1,Ab BN ac a4 d.2.2.2.1,Ab A0 ad a5 d.2.2.2.2.1,Ab Cm ae a6 d.2.2.2.2.2.1,Ab Ao af a7 d.2.2.2.2.2.2.1,Ab Ao ag a8 d.2.2.2.2.2.2.2.1,A5 k (Bf [A3 B1 74 q g d,Ab Ao p o n]),Ab Ao p o n]:=dw.take [0] [1,2,3,4,5,6,7,8,9,10,11] rfl (M:=[Ab Ar ch dv du]) rfl cj fz.size
    have kx:∀ b ∈ bd,ah.heap.size ≤ b:=fun b hb=>(KP cj (i:=0) rfl b hb).elim ((BS (f1) CV) b) fun h=>Ay kt h
    have ck:=f0.tk cj (BS (fun b hb hlt=>absurd hlt (AK.2 (f1 b hb))) CV)
    refine Ah (Ap ck (Ad 16 rfl f ck (AW rfl rfl rfl (Ad 17 rfl f ck (AW rfl rfl rfl (Av 18 rfl ?_))))))
    have dy:Sp (wE k) dx [A3 B1 74 ([aa,ab,ac,ad,ae,af,ag].flatten) g d,Ab Ar bd bu bc.1,Ab Ar dt ds [(y,z)],A5 k (Bf [A3 B1 74 q g d,Ab Ao p o n]),Ab Ao p o n]:=D5 (kw.sel [2,3,4,5,6,7,8,9,0,1,10,11] rfl)
    refine bB c fun dz ky c=>A7 rfl Tryz.call88 (Hf dx d g ([aa,ab,ac,ad,ae,af,ag].flatten) bc.1 bu bd bc.2 (dy.sel [0,1] rfl).base0 _ ky) rfl ?_
    rintro _ kz ⟨f3,rfl,k0,d0⟩
    refine ⟨_,rfl,?_⟩
    have k1:=dy.takeB [0,1] rfl (M:=[A3 B1 74 ([aa,ab,ac,ad,ae,af,ag].flatten) g d,Ab Ar bd bu bc.1]) rfl f2 k0 d0
    have k2:Sp (wE k) kz [A3 B1 74 f3 g dz.2,Ab Ar dt ds [(y,z)],A5 k (Bf [A3 B1 74 q g d,Ab Ao p o n]),Ab Ao p o n]:=dy.take [0,1] [2,3,4] rfl (M:=[A3 B1 74 ([aa,ab,ac,ad,ae,af,ag].flatten) g d,Ab Ar bd bu bc.1]) rfl d0 f2.size
    have f4:=ck.tk d0 (BS (Pz (fun b hb hlt=>(fun _ _ h=>At _ (At _ (At _ (At _ (At _ (At _ (At _ (h)))))))) b hlt hb) (Bu (fun b hb hlt=>(fun _ _ h=>At _ (At _ (At _ (At _ (At _ (At _ (Bi _ h))))))) b hlt hb) (Bu (fun b hb hlt=>(fun _ _ h=>At _ (At _ (At _ (At _ (At _ (Bi _ h)))))) b hlt hb) (Bu (fun b hb hlt=>(fun _ _ h=>At _ (At _ (At _ (At _ (Bi _ h))))) b hlt hb) (Bu (fun b hb hlt=>(fun _ _ h=>At _ (At _ (At _ (Bi _ h)))) b hlt hb) (Bu (fun b hb hlt=>(fun _ _ h=>At _ (At _ (Bi _ h))) b hlt hb) (Bu (fun b hb hlt=>(fun _ _ h=>At _ (Bi _ h)) b hlt hb) (Bu (fun b hb hlt=>(fun _ _ h=>Bi _ h) b hlt hb) Iz)))))))) (BS (fun b hb hlt=>absurd hlt (AK.2 (kx b hb))) CV))
    refine Ah (Ap f4 (Ad 19 rfl f f4 (AD rfl rfl (Ba ?_))))
    exact jx (aj (dz.2) (dz.1) f3 _ c k1 (k2.sel [2,0] rfl)) rfl
  ·refine Bb (vs:=[(.agg #[(iv y),(iv z)])]) (l:=[(y,z)]) CC Tryz.underlying26 rfl rfl rfl rfl rfl rfl (Bg ah) (Sep.nil _ _) fun d1 d2 k3 cl _ k4=>?_
   have f5:=tm a9 cl
   have d3:=t.join cl k4 a9.size
   have d4:=ak.ext cl
   have f6:=Ay (Nat.le_refl ah.heap.size) cl.size
   refine Ah (Ap d4 (Av 4 rfl (AU 1 Cp rfl d3 rfl rfl (Ah (Ap d4 (Av 5 rfl (bB c fun s3 k5 c=>(A7 rfl Tryz.call90 (IM k3 d.1 a0 (d3.own_ro (i:=2) rfl) _ k5) rfl ?_))))))))
   rintro _ k6 ⟨s4,k7,rfl,cm,f7⟩
   refine ⟨_,rfl,?_⟩
   have k8:=tm f5 cm
   have f8:∀ b ∈ k7,ah.heap.size ≤ b:=fun b hb=>Ay f6 ((f7.get (i:=0) rfl).2.1 b hb).1
   have f9:=d3.join cm f7 f5.size
   have ga:=d4.ext cm
   have gb:=Ay f6 cm.size
   refine Ah (Ap ga (Av 14 rfl (bB c fun d5 k9 c=>(AE (i:=0) (S:=(· < k6.heap.size)) CC Tryz.underlying26 rfl rfl rfl k8 f9 rfl (f9.own_ro (i:=1) rfl) k9 fun d6 cn la co gc d7=>?_))))
   have gd:=ga.wr' co.1 co.2.1 (fun b hlt hb=>absurd hlt (AK.2 (f8 b hb)))
   have ge:∀ b ∈ cn,ah.heap.size ≤ b:=fun b hb=>(co.2.2 b hb).elim (f8 b) fun h=>Ay gb h
   have lb:=Ay gb co.1
   refine Ah (Ap gd (Av 15 rfl (bB c fun be lc c=>(A7 rfl Tryz.call89 (JD la d5 d6 cn (d7.sel [0] rfl).base0 _ lc) rfl ?_))))
   rintro _ d8 ⟨bv,bf,rfl,ld,cp⟩
   refine ⟨_,rfl,?_⟩
   have gf:=d7.takeB [0] rfl (M:=[Ab Ar cn d6 d5]) rfl gc ld cp
   have le:Sp (wE k) d8 [Ab Ar bf bv be.1,Ab Ar d2 d1 [(y,z)],A9 g 74 [a0,a3,(iv d.2.2.1),a4,a5,a6,a7,a8,(iv d.2.2.2.2.2.2.2.2)],Ab Ar aa a0 d.1,Ab Ar ab a3 d.2.1,Ab BN ac a4 d.2.2.2.1,Ab A0 ad a5 d.2.2.2.2.1,Ab Cm ae a6 d.2.2.2.2.2.1,Ab Ao af a7 d.2.2.2.2.2.2.1,Ab Ao ag a8 d.2.2.2.2.2.2.2.1,A5 k (Bf [A3 B1 74 q g d,Ab Ao p o n]),Ab Ao p o n]:=d7.take [0] [1,2,3,4,5,6,7,8,9,10,11] rfl (M:=[Ab Ar cn d6 d5]) rfl cp gc.size
   have lf:∀ b ∈ bf,ah.heap.size ≤ b:=fun b hb=>(KP cp (i:=0) rfl b hb).elim ((BS (ge) CV) b) fun h=>Ay lb h
   have cq:=gd.tk cp (BS (fun b hb hlt=>absurd hlt (AK.2 (ge b hb))) CV)
   refine Ah (Ap cq (Ad 16 rfl f cq (AW rfl rfl rfl (Ad 17 rfl f cq (AW rfl rfl rfl (Av 18 rfl ?_))))))
   have d9:Sp (wE k) d8 [A3 B1 74 ([aa,ab,ac,ad,ae,af,ag].flatten) g d,Ab Ar bf bv be.1,Ab Ar d2 d1 [(y,z)],A5 k (Bf [A3 B1 74 q g d,Ab Ao p o n]),Ab Ao p o n]:=D5 (le.sel [2,3,4,5,6,7,8,9,0,1,10,11] rfl)
   refine bB c fun ea lg c=>A7 rfl Tryz.call88 (Hf d8 d g ([aa,ab,ac,ad,ae,af,ag].flatten) be.1 bv bf be.2 (d9.sel [0,1] rfl).base0 _ lg) rfl ?_
   rintro _ lh ⟨gg,rfl,li,eb⟩
   refine ⟨_,rfl,?_⟩
   have lj:=d9.takeB [0,1] rfl (M:=[A3 B1 74 ([aa,ab,ac,ad,ae,af,ag].flatten) g d,Ab Ar bf bv be.1]) rfl gf li eb
   have lk:Sp (wE k) lh [A3 B1 74 gg g ea.2,Ab Ar d2 d1 [(y,z)],A5 k (Bf [A3 B1 74 q g d,Ab Ao p o n]),Ab Ao p o n]:=d9.take [0,1] [2,3,4] rfl (M:=[A3 B1 74 ([aa,ab,ac,ad,ae,af,ag].flatten) g d,Ab Ar bf bv be.1]) rfl eb gf.size
   have gh:=cq.tk eb (BS (Pz (fun b hb hlt=>(fun _ _ h=>At _ (At _ (At _ (At _ (At _ (At _ (At _ (h)))))))) b hlt hb) (Bu (fun b hb hlt=>(fun _ _ h=>At _ (At _ (At _ (At _ (At _ (At _ (Bi _ h))))))) b hlt hb) (Bu (fun b hb hlt=>(fun _ _ h=>At _ (At _ (At _ (At _ (At _ (Bi _ h)))))) b hlt hb) (Bu (fun b hb hlt=>(fun _ _ h=>At _ (At _ (At _ (At _ (Bi _ h))))) b hlt hb) (Bu (fun b hb hlt=>(fun _ _ h=>At _ (At _ (At _ (Bi _ h)))) b hlt hb) (Bu (fun b hb hlt=>(fun _ _ h=>At _ (At _ (Bi _ h))) b hlt hb) (Bu (fun b hb hlt=>(fun _ _ h=>At _ (Bi _ h)) b hlt hb) (Bu (fun b hb hlt=>(fun _ _ h=>Bi _ h) b hlt hb) Iz)))))))) (BS (fun b hb hlt=>absurd hlt (AK.2 (lf b hb))) CV))
   refine Ah (Ap gh (Ad 19 rfl f gh (AD rfl rfl (Ba ?_))))
   exact jx (aj (ea.2) (ea.1) gg _ c lj (lk.sel [2,0] rfl)) rfl
 ·refine Ak fun _ ll=>?_
  refine AQ rfl rfl rfl (Aq 1 rfl (ll (A2 rfl c (fun _ c=>?_) (fun _ c=>?_))))
  ·obtain ⟨lm,bg,s5,bh,s6,bi,s7,bj,s8,bk,s9,bl,ta,bm,ln⟩:=Hi (hS.sel [1,0,2] rfl)
   refine AR B2 ((((((([g] ++ bg) ++ bh) ++ bi) ++ bj) ++ bk) ++ bl) ++ bm) hB ln fun cr _ gi s=>?_
   have ai:=KeepX.refl cr ((((((([g] ++ bg) ++ bh) ++ bi) ++ bj) ++ bk) ++ bl) ++ bm)
   refine Ax 0 rfl f ai (Ax 1 rfl f ai (Ad 2 rfl f ai (B6 rfl rfl (Ad 3 rfl f ai (C5 IZ rfl (Ax 5 rfl f ai (bB c fun lo lp c=>(Ad 6 rfl f ai (C8 (e:=Ao) (i:=9) Tryz.underlying36 rfl rfl rfl s rfl lp ?_)))))))))
   rintro tb _ rfl lq tc
   refine Ad 7 rfl f ai (BJ A4 rfl (fun w hw=>lq.keepS (fun b m=>(hw.blk b (((s.get (i:=9) rfl).2.1 b m).2) (fun hb=>(AP.1 hb).elim (fun hb=>(AP.1 hb).elim (fun hb=>(AP.1 hb).elim (fun hb=>(AP.1 hb).elim (fun hb=>(AP.1 hb).elim (fun hb=>(AP.1 hb).elim (fun hb=>(AP.1 hb).elim (s.disj (i:=9) (j:=0) rfl rfl rfl b m) (s.disj (i:=9) (j:=1) rfl rfl rfl b m)) (s.disj (i:=9) (j:=2) rfl rfl rfl b m)) (s.disj (i:=9) (j:=3) rfl rfl rfl b m)) (s.disj (i:=9) (j:=4) rfl rfl rfl b m)) (s.disj (i:=9) (j:=5) rfl rfl rfl b m)) (s.disj (i:=9) (j:=6) rfl rfl rfl b m)) (s.disj (i:=9) (j:=7) rfl rfl rfl b m)))) (fun _ h=>h)) rfl (Ax 8 rfl f ai (bB c fun cs lr c=>(Ad 9 rfl f ai (C8 (e:=Ao) (i:=9) Tryz.underlying36 rfl rfl rfl s rfl lr ?_)))))
   rintro td _ rfl ls te
   refine Ad 10 rfl f ai (BJ A4 rfl (fun w hw=>ls.keepS (fun b m=>(hw.blk b (((s.get (i:=9) rfl).2.1 b m).2) (fun hb=>(AP.1 hb).elim (fun hb=>(AP.1 hb).elim (fun hb=>(AP.1 hb).elim (fun hb=>(AP.1 hb).elim (fun hb=>(AP.1 hb).elim (fun hb=>(AP.1 hb).elim (fun hb=>(AP.1 hb).elim (s.disj (i:=9) (j:=0) rfl rfl rfl b m) (s.disj (i:=9) (j:=1) rfl rfl rfl b m)) (s.disj (i:=9) (j:=2) rfl rfl rfl b m)) (s.disj (i:=9) (j:=3) rfl rfl rfl b m)) (s.disj (i:=9) (j:=4) rfl rfl rfl b m)) (s.disj (i:=9) (j:=5) rfl rfl rfl b m)) (s.disj (i:=9) (j:=6) rfl rfl rfl b m)) (s.disj (i:=9) (j:=7) rfl rfl rfl b m)))) (fun _ h=>h)) rfl (Ax 11 rfl f ai (bB c fun ct lt c=>(Ad 12 rfl f ai (C8 (e:=Ao) (i:=9) Tryz.underlying36 rfl rfl rfl s rfl lt ?_)))))
   rintro tf _ rfl lu tg
   refine Ad 13 rfl f ai (BJ A4 rfl (fun w hw=>lu.keepS (fun b m=>(hw.blk b (((s.get (i:=9) rfl).2.1 b m).2) (fun hb=>(AP.1 hb).elim (fun hb=>(AP.1 hb).elim (fun hb=>(AP.1 hb).elim (fun hb=>(AP.1 hb).elim (fun hb=>(AP.1 hb).elim (fun hb=>(AP.1 hb).elim (fun hb=>(AP.1 hb).elim (s.disj (i:=9) (j:=0) rfl rfl rfl b m) (s.disj (i:=9) (j:=1) rfl rfl rfl b m)) (s.disj (i:=9) (j:=2) rfl rfl rfl b m)) (s.disj (i:=9) (j:=3) rfl rfl rfl b m)) (s.disj (i:=9) (j:=4) rfl rfl rfl b m)) (s.disj (i:=9) (j:=5) rfl rfl rfl b m)) (s.disj (i:=9) (j:=6) rfl rfl rfl b m)) (s.disj (i:=9) (j:=7) rfl rfl rfl b m)))) (fun _ h=>h)) rfl (Ad 14 rfl f ai (HW (zs:=[(iv 0),(iv 0)]) (out:=[(iv cs),(iv ct)]) (vs:=[(iv cs),(iv ct)]) (css:=[[(iv cs)],[(iv ct)]]) Bt LE rfl rfl rfl rfl rfl (Av 4 rfl (AU 0 Cp rfl s rfl rfl (Ah (Ap ai (Av 15 rfl (bB c fun bw lv c=>(A7 rfl Tryz.call91 (PD cr d.1 lm (s.own_ro (i:=1) rfl) lo (cs,ct) _ lv) rfl ?_))))))))))
   rintro _ gj ⟨cu,bx,rfl,ec,gk⟩
   refine ⟨_,rfl,?_⟩
   have gl:=tm gi ec
   have lw:∀ b ∈ bx,cr.heap.size ≤ b:=fun b hb=>Ay (Nat.le_refl cr.heap.size) ((gk.get (i:=0) rfl).2.1 b hb).1
   have lx:=s.join ec gk gi.size
   have cv:=ai.ext ec
   refine Ah (Ap cv (Ad 16 rfl f cv (AW rfl rfl rfl (Ad 17 rfl f cv (AW rfl rfl rfl (Av 18 rfl ?_))))))
   have ed:Sp (wE k) gj [A3 B1 74 ([bg,bh,bi,bj,bk,bl,bm].flatten) g d,Ab Ar bx cu bw.1,A5 k (Bf [A3 B1 74 q g d,Ab Ao p o n]),Ab Ao p o n]:=D5 (lx.sel [1,2,3,4,5,6,7,8,0,9,10] rfl)
   refine bB c fun ee ly c=>A7 rfl Tryz.call88 (Hf gj d g ([bg,bh,bi,bj,bk,bl,bm].flatten) bw.1 cu bx bw.2 (ed.sel [0,1] rfl).base0 _ ly) rfl ?_
   rintro _ lz ⟨gm,rfl,l0,ef⟩
   refine ⟨_,rfl,?_⟩
   have l1:=ed.takeB [0,1] rfl (M:=[A3 B1 74 ([bg,bh,bi,bj,bk,bl,bm].flatten) g d,Ab Ar bx cu bw.1]) rfl gl l0 ef
   have l2:Sp (wE k) lz [A3 B1 74 gm g ee.2,A5 k (Bf [A3 B1 74 q g d,Ab Ao p o n]),Ab Ao p o n]:=ed.take [0,1] [2,3] rfl (M:=[A3 B1 74 ([bg,bh,bi,bj,bk,bl,bm].flatten) g d,Ab Ar bx cu bw.1]) rfl ef gl.size
   have gn:=cv.tk ef (BS (Pz (fun b hb hlt=>(fun _ _ h=>At _ (At _ (At _ (At _ (At _ (At _ (At _ (h)))))))) b hlt hb) (Bu (fun b hb hlt=>(fun _ _ h=>At _ (At _ (At _ (At _ (At _ (At _ (Bi _ h))))))) b hlt hb) (Bu (fun b hb hlt=>(fun _ _ h=>At _ (At _ (At _ (At _ (At _ (Bi _ h)))))) b hlt hb) (Bu (fun b hb hlt=>(fun _ _ h=>At _ (At _ (At _ (At _ (Bi _ h))))) b hlt hb) (Bu (fun b hb hlt=>(fun _ _ h=>At _ (At _ (At _ (Bi _ h)))) b hlt hb) (Bu (fun b hb hlt=>(fun _ _ h=>At _ (At _ (Bi _ h))) b hlt hb) (Bu (fun b hb hlt=>(fun _ _ h=>At _ (Bi _ h)) b hlt hb) (Bu (fun b hb hlt=>(fun _ _ h=>Bi _ h) b hlt hb) Iz)))))))) (BS (fun b hb hlt=>absurd hlt (AK.2 (lw b hb))) CV))
   refine Ah (Ap gn (Ad 19 rfl f gn (AD rfl rfl (Ba ?_))))
   exact jx (aj (ee.2) (ee.1) gm _ c l1 (l2.sel [1,0] rfl)) rfl
  ·refine Ak fun _ l3=>?_
   refine AQ rfl rfl rfl (Aq 1 rfl (l3 (A2 rfl c (fun _ c=>?_) (fun _ c=>?_))))
   ·refine As ?_
    refine wp 2 rfl (BP rfl rfl (Bq IZ rfl ?_))
    obtain ⟨l4,th,ti,tj,tl,tn,to,tp,tq,tr,ts,tt,tu,tv,eg⟩:=Hi (hS.sel [1,0,2] rfl)
    refine AU 0 Cp rfl eg rfl rfl (bB c fun bz l5 c=>(En rfl Tryz.call92 hB eg (Rk k d.1 l4 (eg.own_ro (i:=1) rfl) _ l5) rfl fun cw cx go _ _ gp l6=>(wp 2 rfl ?_)))
    obtain ⟨eh,ei⟩:∃ F,Sp (wE k) go [A3 B1 74 F g d,Ab Ar cx cw bz.1,A5 k (Bf [A3 B1 74 q g d,Ab Ao p o n]),Ab Ao p o n]:=⟨_,D5 (l6.sel [1,2,3,4,5,6,7,8,0,9,10] rfl)⟩
    refine bB c fun ej l7 c=>A7 rfl Tryz.call88 (Hf go d g eh bz.1 cw cx bz.2 (ei.sel [0,1] rfl).base0 _ l7) rfl ?_
    rintro _ l8 ⟨gq,rfl,l9,gr⟩
    refine ⟨_,rfl,?_⟩
    have ma:=ei.takeB [0,1] rfl (M:=[A3 B1 74 eh g d,Ab Ar cx cw bz.1]) rfl gp l9 gr
    have mb:Sp (wE k) l8 [A3 B1 74 gq g ej.2,A5 k (Bf [A3 B1 74 q g d,Ab Ao p o n]),Ab Ao p o n]:=ei.take [0,1] [2,3] rfl (M:=[A3 B1 74 eh g d,Ab Ar cx cw bz.1]) rfl gr gp.size
    refine Aq 1 rfl ?_
    exact jx (aj (ej.2) (ej.1) gq _ c ma (mb.sel [1,0] rfl)) rfl
   ·refine Ak fun _ mc=>?_
    refine AQ rfl rfl rfl (Aq 1 rfl (mc (A2 rfl c (fun _ c=>?_) (fun _ c=>?_))))
    ·refine As ?_
     refine wp 2 rfl (BP rfl rfl (Bq IZ rfl ?_))
     obtain ⟨gs,tw,md,me,mf,tx,mg,ty,mh,tz,mi,t0,mj,t1,ek⟩:=Hi (hS.sel [1,0,2] rfl)
     refine AU 0 Cp rfl ek rfl rfl (bB c fun gt mk c=>(En rfl Tryz.call90 hB ek (IM k d.1 gs (ek.own_ro (i:=1) rfl) _ mk) rfl fun gu t2 t3 _ _ ml el=>(BP rfl rfl (Bq Uy rfl (BC (i:=1) (vs:=[gu]) (cs':=[gs,gu,(iv d.2.2.1),mf,mg,mh,mi,mj,(iv d.2.2.2.2.2.2.2.2)]) Cp rfl rfl (Cl (el.own_ro (i:=0) rfl).one) rfl ml el rfl rfl ⟨(el.own_ro (i:=0) rfl).one,trivial⟩ rfl fun mm _ mn mo=>(Ah ?_))))))
     obtain ⟨mp,mq⟩:∃ F,Sp (wE k) mm [A3 B1 74 F g (d.1,gt,d.2.2.1,d.2.2.2.1,d.2.2.2.2.1,d.2.2.2.2.2.1,d.2.2.2.2.2.2.1,d.2.2.2.2.2.2.2.1,d.2.2.2.2.2.2.2.2),Ab Ar me md d.2.1,A5 k (Bf [A3 B1 74 q g d,Ab Ao p o n]),Ab Ao p o n]:=⟨_,D5 (mo.sel [1,2,0,4,5,6,7,8,3,9,10] rfl)⟩
     exact jx (aj ((d.1,gt,d.2.2.1,d.2.2.2.1,d.2.2.2.2.1,d.2.2.2.2.2.1,d.2.2.2.2.2.2.1,d.2.2.2.2.2.2.2.1,d.2.2.2.2.2.2.2.2)) true mp _ c mn (mq.sel [2,0] rfl)) rfl
    ·refine Ak fun _ mr=>?_
     refine AQ rfl rfl rfl (Aq 1 rfl (mr (A2 rfl c (fun _ c=>?_) (fun _ c=>?_))))
     ·refine Ak fun _ ms=>?_
      refine wp 1 rfl (bB c fun mt mu c=>(HB (e:=Ao) (i:=2) Tryz.underlying36 rfl rfl rfl hS rfl mu ?_))
      rintro t4 _ rfl b1 t5
      refine BV A4 rfl b1 rfl (bB c fun gv mv c=>(Bs rfl Tryz.call77 hB hS (Ci k mt 1 64 _ mv) rfl fun t6 mw gw em=>?_))
      have b1:=b1.keepS (fun b hb=>mw.block b (((hS.get (i:=2) rfl).2.1 b hb).2)) (fun _ h=>h)
      refine Aq 1 rfl (ms (Al 1 rfl (A2 rfl c (fun _ c=>?_) (fun _ c=>?_))))
      ·refine As ?_
       refine wp 2 rfl (bB c fun gx mx c=>(HB (e:=Ao) (i:=2) Tryz.underlying36 rfl rfl rfl em rfl mx ?_))
       rintro t7 _ rfl en t8
       refine BV A4 rfl en rfl (BP rfl rfl (Bq Ux rfl ?_))
       obtain ⟨t9,ua,ub,uc,ud,ue,uf,ug,uh,ui,uj,uk,ul,um,b2⟩:=Hi (em.sel [1,0,2] rfl)
       refine Gq 0 A4 rfl rfl gw b2 rfl rfl rfl fun my gy mz m0=>?_
       have b1:=b1.keepS (fun b hb=>gy.2.1 b (((b2.get (i:=9) rfl).2.1 b hb).2) (b2.disj (i:=9) (j:=0) rfl rfl rfl b hb)) (fun _ h=>h)
       have en:=en.keepS (fun b hb=>gy.2.1 b (((b2.get (i:=9) rfl).2.1 b hb).2) (b2.disj (i:=9) (j:=0) rfl rfl rfl b hb)) (fun _ h=>h)
       refine Ah ?_
       obtain ⟨m1,m2⟩:∃ F,Sp (wE k) my [A3 B1 74 F g (d.1,d.2.1,gx,d.2.2.2.1,d.2.2.2.2.1,d.2.2.2.2.2.1,d.2.2.2.2.2.2.1,d.2.2.2.2.2.2.2.1,d.2.2.2.2.2.2.2.2),A5 k (Bf [A3 B1 74 q g d,Ab Ao p o n]),Ab Ao p o n]:=⟨_,D5 (m0.sel [0,1,2,3,4,5,6,7,8,9] rfl)⟩
       exact jx (aj ((d.1,d.2.1,gx,d.2.2.2.1,d.2.2.2.2.1,d.2.2.2.2.2.1,d.2.2.2.2.2.2.1,d.2.2.2.2.2.2.2.1,d.2.2.2.2.2.2.2.2)) gv m1 _ c mz (m2.sel [1,0] rfl)) rfl
      ·refine Au ?_
       exact jx (aj d gv q _ c gw (em.sel [0,1] rfl)) rfl
     ·refine Ak fun _ m3=>?_
      refine AQ rfl rfl rfl (Aq 1 rfl (m3 (A2 rfl c (fun _ c=>?_) (fun _ c=>?_))))
      ·refine Am fun m4 m5=>?_
       obtain ⟨m6,m7,c⟩:=Nd c
       have eo:∀ (u:(Ae4 × Ae4 × Int × Ae4 × Ae5 × Ae7 × (List Int) × (List Int) × Int)) (bn:Ae4) (ep:An) (bo:Ac) (gz:An) (b3:Ae) (_:m6 u bn = some r) (_:Bl (wE k) b3) (_:Sp (wE k) b3 [A5 k (Bf [A3 B1 74 q g d,Ab Ao p o n]),A3 B1 74 ep g u,Ab BN gz bo bn]),∀ a,St 174 [(0,(.pointer (some ⟨g,0,none⟩))),(8,bo)] a → m4 a b3:=by
        intro u bn ep bo gz b3 c m8 g0
        subst m7
        refine m5 (Ak fun _ m9=>(wp 1 rfl (bB c fun g1 na c=>(Bs rfl Tryz.call93 m8 g0 (Qw b3 bn bo (g0.own_ro (i:=2) rfl) _ na) rfl fun un _ g2 g3=>(Aq 1 rfl (m9 (Al 1 rfl (A2 rfl c (fun _ c=>?_) (fun _ c=>?_)))))))))
        ·refine As ?_
         refine wp 2 rfl (BP rfl rfl (Bq Uw rfl ?_))
         obtain ⟨nb,uo,nc,up,nd,ne,nf,uq,ng,ur,nh,us,ni,ut,eq⟩:=Hi (g3.sel [1,0,2] rfl)
         refine BC (i:=0) (vs:=[bo]) (cs':=[nb,nc,(iv u.2.2.1),bo,nf,ng,nh,ni,(iv u.2.2.2.2.2.2.2.2)]) R4 rfl rfl (Cl (eq.own_ro (i:=9) rfl).one) rfl g2 eq rfl rfl ⟨(eq.own_ro (i:=9) rfl).one,trivial⟩ rfl fun nj _ nk nl=>Ah ?_
         obtain ⟨nm,nn⟩:∃ F,Sp (wE k) nj [A3 B1 74 F g (u.1,u.2.1,u.2.2.1,bn,u.2.2.2.2.1,u.2.2.2.2.2.1,u.2.2.2.2.2.2.1,u.2.2.2.2.2.2.2.1,u.2.2.2.2.2.2.2.2),Ab BN ne nd u.2.2.2.1,A5 k (Bf [A3 B1 74 q g d,Ab Ao p o n])]:=⟨_,D5 (nl.sel [0,1,2,9,4,5,6,7,3,8] rfl)⟩
         exact jx (aj ((u.1,u.2.1,u.2.2.1,bn,u.2.2.2.2.1,u.2.2.2.2.2.1,u.2.2.2.2.2.2.1,u.2.2.2.2.2.2.2.1,u.2.2.2.2.2.2.2.2)) g1 nm _ c nk (nn.sel [2,0] rfl)) rfl
        ·refine Au ?_
         exact jx (aj u g1 ep _ c g2 (g3.sel [0,1] rfl)) rfl
       obtain ⟨uu,uv,uw,ux,uy,uz,u0,u1,u2,u3,u4,u5,u6,u7,no⟩:=Hi (hS.sel [1,0,2] rfl)
       refine AR B2 [] hB no fun aw _ cy a2=>?_
       have am:=KeepX.refl aw []
       refine Ax 1 rfl f am (Ad 2 rfl f am (B6 rfl rfl (Ad 3 rfl f am (C5 Uw rfl (Ad 4 rfl f am (CJ 0 R4 rfl a2 rfl (by simp) (Ax 6 rfl f am (bB c fun an np c=>(Ad 7 rfl f am (C8 (e:=Ao) (i:=9) Tryz.underlying36 rfl rfl rfl a2 rfl np ?_))))))))))
       rintro u8 _ rfl nq u9
       refine Ad 8 rfl f am (BJ A4 rfl (fun w hw=>nq.keepS (fun b m=>(hw.blk b (((a2.get (i:=9) rfl).2.1 b m).2) (by simp))) (fun _ h=>h)) rfl (Ax 9 rfl f am (bB c fun ao nr c=>(Ad 10 rfl f am (C8 (e:=Ao) (i:=9) Tryz.underlying36 rfl rfl rfl a2 rfl nr ?_)))))
       rintro va _ rfl ns vb
       refine Ad 11 rfl f am (BJ A4 rfl (fun w hw=>ns.keepS (fun b m=>(hw.blk b (((a2.get (i:=9) rfl).2.1 b m).2) (by simp))) (fun _ h=>h)) rfl (Ad 12 rfl f am (HW (zs:=[(iv 0),(iv 0)]) (out:=[(iv an),(iv ao)]) (vs:=[(iv an),(iv ao)]) (css:=[[(iv an)],[(iv ao)]]) GR VK rfl rfl rfl rfl rfl (Cz (is:=[0,13]) (by kernel_rfl) rfl (Bd.2 ⟨⟨_,rfl,?_⟩,Bd.2 ⟨⟨_,rfl,?_⟩,fun _ h=>by cases h⟩⟩)))))
       ·refine Bb (vs:=[]) (l:=[]) GM Tryz.underlying31 rfl rfl rfl rfl rfl rfl (Bg aw) (Sep.nil _ _) fun vc nt g4 cz _ g5=>?_
        have er:=tm cy cz
        have es:=a2.join cz g5 cy.size
        have c0:∀ b ∈ nt,aw.heap.size ≤ b:=fun b hb=>Ay (Nat.le_refl aw.heap.size) ((g5.1 _ (List.mem_cons_self ..)).2.1 b hb).1
        have et:=am.ext cz
        have g6:=Ay (Nat.le_refl aw.heap.size) cz.size
        refine Ah (Ap et (Cz (is:=[5,13]) (by kernel_rfl) rfl (Bd.2 ⟨⟨_,rfl,?_⟩,Bd.2 ⟨⟨_,rfl,?_⟩,fun _ h=>by cases h⟩⟩)))
        ·refine bB c fun vd nu c=>?_
         refine AE (i:=0) (S:=(· < g4.heap.size)) GM Tryz.underlying31 rfl rfl rfl er es rfl (es.own_ro (i:=4) rfl) nu fun ve nv nw eu g7 nx=>?_
         have g8:=et.wr' eu.1 eu.2.1 (fun b hlt hb=>absurd hlt (AK.2 (c0 b hb)))
         have ny:∀ b ∈ nv,aw.heap.size ≤ b:=fun b hb=>(eu.2.2 b hb).elim (c0 b) fun h=>Ay g6 h
         refine Ah (Ap g8 (Av 13 rfl (Bb (vs:=[(.agg #[(iv an),(iv ao)])]) (l:=[(an,ao)]) GM Tryz.underlying31 rfl rfl rfl rfl rfl rfl (Bg nw) (Sep.nil _ _) fun nz n0 n1 ev _ n2=>?_)))
         have n3:=tm g7 ev
         have g9:=nx.join ev n2 g7.size
         have ha:=g8.ext ev
         refine Ah (Ap ha (Av 14 rfl (bB c fun hc n4 c=>(AE (i:=1) (S:=(· < n1.heap.size)) GM Tryz.underlying31 rfl rfl rfl n3 g9 rfl (g9.own_ro (i:=0) rfl) n4 fun hd he n5 hf n6 n7=>?_))))
         have hg:=ha.wr' hf.1 hf.2.1 (fun b hlt hb=>absurd hlt (AK.2 (ny b hb)))
         refine Ah (Ap hg (Ad 15 rfl f hg (AD rfl rfl (Ba ?_))))
         obtain ⟨n8,n9⟩:∃ F,Sp (wE k) n5 [A3 B1 74 F g d,Ab BN n0 nz [(an,ao)],Ab BN he hd hc,A5 k (Bf [A3 B1 74 q g d,Ab Ao p o n]),Ab Ao p o n]:=⟨_,D5 (n7.sel [2,3,4,5,6,7,8,9,0,1,10,11] rfl)⟩
         exact jx (eo d hc n8 hd he _ c n6 (n9.sel [3,0,2] rfl)) rfl
        ·refine Bb (vs:=[(.agg #[(iv an),(iv ao)])]) (l:=[(an,ao)]) GM Tryz.underlying31 rfl rfl rfl rfl rfl rfl (Bg g4) (Sep.nil _ _) fun oa ob oc c1 _ od=>?_
         have oe:=tm er c1
         have hh:=es.join c1 od er.size
         have hi:=et.ext c1
         have og:=Ay g6 c1.size
         refine Ah (Ap hi (Av 5 rfl (bB c fun vf oh c=>(AE (i:=1) (S:=(· < oc.heap.size)) GM Tryz.underlying31 rfl rfl rfl oe hh rfl (hh.own_ro (i:=5) rfl) oh fun vg oi oj ew ok hj=>?_))))
         have hk:=hi.wr' ew.1 ew.2.1 (fun b hlt hb=>absurd hlt (AK.2 (c0 b hb)))
         have ol:∀ b ∈ oi,aw.heap.size ≤ b:=fun b hb=>(ew.2.2 b hb).elim (c0 b) fun h=>Ay og h
         refine Ah (Ap hk (Av 14 rfl (bB c fun hl om c=>(AE (i:=1) (S:=(· < oj.heap.size)) GM Tryz.underlying31 rfl rfl rfl ok hj rfl (hj.own_ro (i:=0) rfl) om fun hm hn on ho oo op=>?_))))
         have hp:=hk.wr' ho.1 ho.2.1 (fun b hlt hb=>absurd hlt (AK.2 (ol b hb)))
         refine Ah (Ap hp (Ad 15 rfl f hp (AD rfl rfl (Ba ?_))))
         obtain ⟨oq,os⟩:∃ F,Sp (wE k) on [A3 B1 74 F g d,Ab BN ob oa [(an,ao)],Ab BN hn hm hl,A5 k (Bf [A3 B1 74 q g d,Ab Ao p o n]),Ab Ao p o n]:=⟨_,D5 (op.sel [2,3,4,5,6,7,8,9,0,1,10,11] rfl)⟩
         exact jx (eo d hl oq hm hn _ c oo (os.sel [3,0,2] rfl)) rfl
       ·refine Bb (vs:=[(.agg #[(iv an),(iv ao)])]) (l:=[(an,ao)]) GM Tryz.underlying31 rfl rfl rfl rfl rfl rfl (Bg aw) (Sep.nil _ _) fun ot ou ov c2 _ ow=>?_
        have hq:=tm cy c2
        have ox:=a2.join c2 ow cy.size
        have hr:=am.ext c2
        have hs:=Ay (Nat.le_refl aw.heap.size) c2.size
        refine Ah (Ap hr (Av 0 rfl (Bb (vs:=[]) (l:=[]) GM Tryz.underlying31 rfl rfl rfl rfl rfl rfl (Bg ov) (Sep.nil _ _) fun vh oy oz c3 _ ht=>?_)))
        have o0:=tm hq c3
        have hu:=ox.join c3 ht hq.size
        have hv:∀ b ∈ oy,aw.heap.size ≤ b:=fun b hb=>Ay hs ((ht.1 _ (List.mem_cons_self ..)).2.1 b hb).1
        have hx:=hr.ext c3
        have o1:=Ay hs c3.size
        refine Ah (Ap hx (Av 5 rfl (bB c fun vi o2 c=>(AE (i:=0) (S:=(· < oz.heap.size)) GM Tryz.underlying31 rfl rfl rfl o0 hu rfl (hu.own_ro (i:=5) rfl) o2 fun vj o3 o4 ex o5 hy=>?_))))
        have hz:=hx.wr' ex.1 ex.2.1 (fun b hlt hb=>absurd hlt (AK.2 (hv b hb)))
        have o6:∀ b ∈ o3,aw.heap.size ≤ b:=fun b hb=>(ex.2.2 b hb).elim (hv b) fun h=>Ay o1 h
        refine Ah (Ap hz (Av 14 rfl (bB c fun h1 o7 c=>(AE (i:=0) (S:=(· < o4.heap.size)) GM Tryz.underlying31 rfl rfl rfl o5 hy rfl (hy.own_ro (i:=1) rfl) o7 fun h2 h3 o8 h4 o9 pa=>?_))))
        have h5:=hz.wr' h4.1 h4.2.1 (fun b hlt hb=>absurd hlt (AK.2 (o6 b hb)))
        refine Ah (Ap h5 (Ad 15 rfl f h5 (AD rfl rfl (Ba ?_))))
        obtain ⟨pb,pc⟩:∃ F,Sp (wE k) o8 [A3 B1 74 F g d,Ab BN h3 h2 h1,Ab BN ou ot [(an,ao)],A5 k (Bf [A3 B1 74 q g d,Ab Ao p o n]),Ab Ao p o n]:=⟨_,D5 (pa.sel [2,3,4,5,6,7,8,9,0,1,10,11] rfl)⟩
        exact jx (eo d h1 pb h2 h3 _ c o9 (pc.sel [3,0,1] rfl)) rfl
      ·refine Ak fun _ pd=>?_
       refine AQ rfl rfl rfl (Aq 1 rfl (pd (A2 rfl c (fun _ c=>?_) (fun _ c=>?_))))
       ·refine Am fun pe pf=>?_
        obtain ⟨pg,ph,c⟩:=jE3 c
        have ey:∀ (v:(Ae4 × Ae4 × Int × Ae4 × Ae5 × Ae7 × (List Int) × (List Int) × Int)) (b4:Ae5) (b5:Bool) (ez:An) (b6:Ac) (h6:An) (c4:Ae) (_:pg v b4 b5 = some r) (_:Bl (wE k) c4) (_:Sp (wE k) c4 [A5 k (Bf [A3 B1 74 q g d,Ab Ao p o n]),A3 B1 74 ez g v,Ab A0 h6 b6 b4]),∀ a,St 174 [(0,(.pointer (some ⟨g,0,none⟩))),(9,b6),(10,(.bool b5))] a → pe a c4:=by
         intro v b4 b5 ez b6 h6 c4 c h7 h8
         subst ph
         refine pf (Al 2 rfl (Al 1 rfl (A2 rfl c (fun _ c=>?_) (fun _ c=>?_))))
         ·refine As ?_
          refine wp 2 rfl (BP rfl rfl (Bq Uv rfl ?_))
          obtain ⟨pi,vk,pj,vl,pk,vm,pl,pm,pn,vn,po,vo,pp,vp,e0⟩:=Hi (h8.sel [1,0,2] rfl)
          refine BC (i:=0) (vs:=[b6]) (cs':=[pi,pj,(iv v.2.2.1),pk,b6,pn,po,pp,(iv v.2.2.2.2.2.2.2.2)]) R2 rfl rfl (Cl (e0.own_ro (i:=9) rfl).one) rfl h7 e0 rfl rfl ⟨(e0.own_ro (i:=9) rfl).one,trivial⟩ rfl fun pq _ pr ps=>Ah ?_
          obtain ⟨pt,pu⟩:∃ F,Sp (wE k) pq [A3 B1 74 F g (v.1,v.2.1,v.2.2.1,v.2.2.2.1,b4,v.2.2.2.2.2.1,v.2.2.2.2.2.2.1,v.2.2.2.2.2.2.2.1,v.2.2.2.2.2.2.2.2),Ab A0 pm pl v.2.2.2.2.1,A5 k (Bf [A3 B1 74 q g d,Ab Ao p o n])]:=⟨_,D5 (ps.sel [0,1,2,3,9,5,6,7,4,8] rfl)⟩
          exact jx (aj ((v.1,v.2.1,v.2.2.1,v.2.2.2.1,b4,v.2.2.2.2.2.1,v.2.2.2.2.2.2.1,v.2.2.2.2.2.2.2.1,v.2.2.2.2.2.2.2.2)) b5 pt _ c pr (pu.sel [2,0] rfl)) rfl
         ·refine Au ?_
          exact jx (aj v b5 ez _ c h7 (h8.sel [0,1] rfl)) rfl
        obtain ⟨vq,vr,vt,vu,vv,vw,vx,vy,vz,v0,v1,v2,v3,v4,pv⟩:=Hi (hS.sel [1,0,2] rfl)
        refine AR B2 [] hB pv fun ax _ c5 ay=>?_
        have x:=KeepX.refl ax []
        refine Ax 1 rfl f x (Ad 2 rfl f x (B6 rfl rfl (Ad 3 rfl f x (C5 Uv rfl (Ad 4 rfl f x (CJ 0 R2 rfl ay rfl (by simp) (Ax 6 rfl f x (bB c fun ap pw c=>(Ad 7 rfl f x (C8 (e:=Ao) (i:=9) Tryz.underlying36 rfl rfl rfl ay rfl pw ?_))))))))))
        rintro v5 _ rfl px v6
        refine Ad 8 rfl f x (BJ A4 rfl (fun w hw=>px.keepS (fun b m=>(hw.blk b (((ay.get (i:=9) rfl).2.1 b m).2) (by simp))) (fun _ h=>h)) rfl (Ax 9 rfl f x (bB c fun aq py c=>(Ad 10 rfl f x (C8 (e:=Ao) (i:=9) Tryz.underlying36 rfl rfl rfl ay rfl py ?_)))))
        rintro v7 _ rfl pz v8
        refine Ad 11 rfl f x (BJ A4 rfl (fun w hw=>pz.keepS (fun b m=>(hw.blk b (((ay.get (i:=9) rfl).2.1 b m).2) (by simp))) (fun _ h=>h)) rfl (Ax 12 rfl f x (bB c fun ar p0 c=>(Ad 13 rfl f x (C8 (e:=Ao) (i:=9) Tryz.underlying36 rfl rfl rfl ay rfl p0 ?_)))))
        rintro v9 _ rfl p1 wa
        refine Ad 14 rfl f x (BJ A4 rfl (fun w hw=>p1.keepS (fun b m=>(hw.blk b (((ay.get (i:=9) rfl).2.1 b m).2) (by simp))) (fun _ h=>h)) rfl (Ax 15 rfl f x (bB c fun au p2 c=>(Ad 16 rfl f x (C8 (e:=Ao) (i:=9) Tryz.underlying36 rfl rfl rfl ay rfl p2 ?_)))))
        rintro wb _ rfl p3 wc
        refine Ad 17 rfl f x (BJ A4 rfl (fun w hw=>p3.keepS (fun b m=>(hw.blk b (((ay.get (i:=9) rfl).2.1 b m).2) (by simp))) (fun _ h=>h)) rfl (Ad 18 rfl f x (HW (zs:=[(iv 0),(iv 0),(iv 0),(iv 0)]) (out:=[(iv ap),(iv aq),(iv ar),(iv au)]) (vs:=[(iv ap),(iv aq),(iv ar),(iv au)]) (css:=[[(iv ap)],[(iv aq)],[(iv ar)],[(iv au)]]) BD Zd rfl rfl rfl rfl rfl (Cz (is:=[0,19]) (by kernel_rfl) rfl (Bd.2 ⟨⟨_,rfl,?_⟩,Bd.2 ⟨⟨_,rfl,?_⟩,fun _ h=>by cases h⟩⟩)))))
        ·refine Bb (vs:=[]) (l:=[]) Ct Tryz.underlying72 rfl rfl rfl rfl rfl rfl (Bg ax) (Sep.nil _ _) fun wd p4 h9 c6 _ ia=>?_
         have e1:=tm c5 c6
         have e2:=ay.join c6 ia c5.size
         have c7:∀ b ∈ p4,ax.heap.size ≤ b:=fun b hb=>Ay (Nat.le_refl ax.heap.size) ((ia.1 _ (List.mem_cons_self ..)).2.1 b hb).1
         have e3:=x.ext c6
         have ib:=Ay (Nat.le_refl ax.heap.size) c6.size
         refine Ah (Ap e3 (Cz (is:=[5,19]) (by kernel_rfl) rfl (Bd.2 ⟨⟨_,rfl,?_⟩,Bd.2 ⟨⟨_,rfl,?_⟩,fun _ h=>by cases h⟩⟩)))
         ·refine bB c fun we p5 c=>?_
          refine AE (i:=0) (S:=(· < h9.heap.size)) Ct Tryz.underlying72 rfl rfl rfl e1 e2 rfl (e2.own_ro (i:=5) rfl) p5 fun wf p6 p7 e4 ic p8=>?_
          have ie:=e3.wr' e4.1 e4.2.1 (fun b hlt hb=>absurd hlt (AK.2 (c7 b hb)))
          have p9:∀ b ∈ p6,ax.heap.size ≤ b:=fun b hb=>(e4.2.2 b hb).elim (c7 b) fun h=>Ay ib h
          refine Ah (Ap ie (Av 19 rfl (Bb (vs:=[(.agg #[(iv ap),(iv aq),(iv ar),(iv au)])]) (l:=[(ap,aq,ar,au)]) Ct Tryz.underlying72 rfl rfl rfl rfl rfl rfl (Bg p7) (Sep.nil _ _) fun qa qb qc e5 _ qd=>?_)))
          have qe:=tm ic e5
          have ig:=p8.join e5 qd ic.size
          have ih:=ie.ext e5
          refine Ah (Ap ih (Av 20 rfl (bB c fun ii qf c=>(AE (i:=1) (S:=(· < qc.heap.size)) Ct Tryz.underlying72 rfl rfl rfl qe ig rfl (ig.own_ro (i:=0) rfl) qf fun ij qg qh ik qi il=>?_))))
          have im:=ih.wr' ik.1 ik.2.1 (fun b hlt hb=>absurd hlt (AK.2 (p9 b hb)))
          refine Ah (Ap im (Av 21 rfl (bB c fun e6 qj c=>(En rfl Tryz.call94 qi il (Nr qh ii ij (il.own_ro (i:=1) rfl) _ qj) rfl fun io ip qk ql _ qm qn=>?_))))
          have bp:=im.ext ql
          refine Ah (Ap bp (Ax 22 rfl f bp (Ad 23 rfl f bp (AW rfl rfl rfl (Ad 24 rfl f bp (AW rfl rfl rfl (Ad 25 rfl f bp (AD rfl rfl (Ad 26 rfl f bp (AD rfl rfl (Ba ?_)))))))))))
          obtain ⟨qo,qp⟩:∃ F,Sp (wE k) qk [A3 B1 74 F g d,Ab A0 ip io e6.1,Ab A0 qb qa [(ap,aq,ar,au)],Ab A0 qg ij ii,A5 k (Bf [A3 B1 74 q g d,Ab Ao p o n]),Ab Ao p o n]:=⟨_,D5 (qn.sel [3,4,5,6,7,8,9,10,0,1,2,11,12] rfl)⟩
          exact jx (ey d (e6.1) (e6.2) qo io ip _ c qm (qp.sel [4,0,1] rfl)) rfl
         ·refine Bb (vs:=[(.agg #[(iv ap),(iv aq),(iv ar),(iv au)])]) (l:=[(ap,aq,ar,au)]) Ct Tryz.underlying72 rfl rfl rfl rfl rfl rfl (Bg h9) (Sep.nil _ _) fun qq qr qs c8 _ qt=>?_
          have qu:=tm e1 c8
          have iq:=e2.join c8 qt e1.size
          have ir:=e3.ext c8
          have qv:=Ay ib c8.size
          refine Ah (Ap ir (Av 5 rfl (bB c fun wg qw c=>(AE (i:=1) (S:=(· < qs.heap.size)) Ct Tryz.underlying72 rfl rfl rfl qu iq rfl (iq.own_ro (i:=6) rfl) qw fun wh qx qy e7 qz it=>?_))))
          have iu:=ir.wr' e7.1 e7.2.1 (fun b hlt hb=>absurd hlt (AK.2 (c7 b hb)))
          have q0:∀ b ∈ qx,ax.heap.size ≤ b:=fun b hb=>(e7.2.2 b hb).elim (c7 b) fun h=>Ay qv h
          refine Ah (Ap iu (Av 20 rfl (bB c fun iw q1 c=>(AE (i:=1) (S:=(· < qy.heap.size)) Ct Tryz.underlying72 rfl rfl rfl qz it rfl (it.own_ro (i:=0) rfl) q1 fun ix q2 q3 iy q4 iz=>?_))))
          have i0:=iu.wr' iy.1 iy.2.1 (fun b hlt hb=>absurd hlt (AK.2 (q0 b hb)))
          refine Ah (Ap i0 (Av 21 rfl (bB c fun e8 q5 c=>(En rfl Tryz.call94 q4 iz (Nr q3 iw ix (iz.own_ro (i:=1) rfl) _ q5) rfl fun i1 i2 q6 q7 _ q8 q9=>?_))))
          have bq:=i0.ext q7
          refine Ah (Ap bq (Ax 22 rfl f bq (Ad 23 rfl f bq (AW rfl rfl rfl (Ad 24 rfl f bq (AW rfl rfl rfl (Ad 25 rfl f bq (AD rfl rfl (Ad 26 rfl f bq (AD rfl rfl (Ba ?_)))))))))))
          obtain ⟨ra,rb⟩:∃ F,Sp (wE k) q6 [A3 B1 74 F g d,Ab A0 i2 i1 e8.1,Ab A0 qr qq [(ap,aq,ar,au)],Ab A0 q2 ix iw,A5 k (Bf [A3 B1 74 q g d,Ab Ao p o n]),Ab Ao p o n]:=⟨_,D5 (q9.sel [3,4,5,6,7,8,9,10,0,1,2,11,12] rfl)⟩
          exact jx (ey d (e8.1) (e8.2) ra i1 i2 _ c q8 (rb.sel [4,0,1] rfl)) rfl
        ·refine Bb (vs:=[(.agg #[(iv ap),(iv aq),(iv ar),(iv au)])]) (l:=[(ap,aq,ar,au)]) Ct Tryz.underlying72 rfl rfl rfl rfl rfl rfl (Bg ax) (Sep.nil _ _) fun rc rd re c9 _ rf=>?_
         have i3:=tm c5 c9
         have rg:=ay.join c9 rf c5.size
         have i4:=x.ext c9
         have i5:=Ay (Nat.le_refl ax.heap.size) c9.size
         refine Ah (Ap i4 (Av 0 rfl (Bb (vs:=[]) (l:=[]) Ct Tryz.underlying72 rfl rfl rfl rfl rfl rfl (Bg re) (Sep.nil _ _) fun wi rh ri da _ i6=>?_)))
         have rj:=tm i3 da
         have i7:=rg.join da i6 i3.size
         have i8:∀ b ∈ rh,ax.heap.size ≤ b:=fun b hb=>Ay i5 ((i6.1 _ (List.mem_cons_self ..)).2.1 b hb).1
         have i9:=i4.ext da
         have rk:=Ay i5 da.size
         refine Ah (Ap i9 (Av 5 rfl (bB c fun wj rl c=>(AE (i:=0) (S:=(· < ri.heap.size)) Ct Tryz.underlying72 rfl rfl rfl rj i7 rfl (i7.own_ro (i:=6) rfl) rl fun wk rm rn e9 ro ja=>?_))))
         have jb:=i9.wr' e9.1 e9.2.1 (fun b hlt hb=>absurd hlt (AK.2 (i8 b hb)))
         have rp:∀ b ∈ rm,ax.heap.size ≤ b:=fun b hb=>(e9.2.2 b hb).elim (i8 b) fun h=>Ay rk h
         refine Ah (Ap jb (Av 20 rfl (bB c fun jc rq c=>(AE (i:=0) (S:=(· < rn.heap.size)) Ct Tryz.underlying72 rfl rfl rfl ro ja rfl (ja.own_ro (i:=1) rfl) rq fun jd rr rs je ru jf=>?_))))
         have jg:=jb.wr' je.1 je.2.1 (fun b hlt hb=>absurd hlt (AK.2 (rp b hb)))
         refine Ah (Ap jg (Av 21 rfl (bB c fun fa rv c=>(En rfl Tryz.call94 ru jf (Nr rs jc jd (jf.own_ro (i:=0) rfl) _ rv) rfl fun jh ji rx ry _ rz r0=>?_))))
         have br:=jg.ext ry
         refine Ah (Ap br (Ax 22 rfl f br (Ad 23 rfl f br (AW rfl rfl rfl (Ad 24 rfl f br (AW rfl rfl rfl (Ad 25 rfl f br (AD rfl rfl (Ad 26 rfl f br (AD rfl rfl (Ba ?_)))))))))))
         obtain ⟨r1,r2⟩:∃ F,Sp (wE k) rx [A3 B1 74 F g d,Ab A0 ji jh fa.1,Ab A0 rr jd jc,Ab A0 rd rc [(ap,aq,ar,au)],A5 k (Bf [A3 B1 74 q g d,Ab Ao p o n]),Ab Ao p o n]:=⟨_,D5 (r0.sel [3,4,5,6,7,8,9,10,0,1,2,11,12] rfl)⟩
         exact jx (ey d (fa.1) (fa.2) r1 jh ji _ c rz (r2.sel [4,0,1] rfl)) rfl
       ·refine Ak fun _ r3=>?_
        refine AQ rfl rfl rfl (Aq 1 rfl (r3 (A2 rfl c (fun _ c=>?_) (fun _ c=>?_))))
        ·refine Am fun _ r4=>?_
         obtain ⟨r5,wl,r6,wm,r7,wn,r8,wo,jj,r9,sa,wq,sb,wr,sc⟩:=Hi (hS.sel [1,0,2] rfl)
         refine AR B2 [] hB sc fun jk _ sd a1=>?_
         have al:=KeepX.refl jk []
         refine Ax 0 rfl f al (Ad 1 rfl f al (B6 rfl rfl (Ad 2 rfl f al (C5 Uu rfl (Ad 3 rfl f al (CJ 0 R3 rfl a1 rfl (by simp) (Ax 4 rfl f al (bB c fun db se c=>(Ad 5 rfl f al (C8 (e:=Ao) (i:=9) Tryz.underlying36 rfl rfl rfl a1 rfl se ?_))))))))))
         rintro ws _ rfl sf wt
         refine Ad 6 rfl f al (BJ A4 rfl (fun w hw=>sf.keepS (fun b m=>(hw.blk b (((a1.get (i:=9) rfl).2.1 b m).2) (by simp))) (fun _ h=>h)) rfl (Ax 7 rfl f al (bB c fun dc sg c=>(Ad 8 rfl f al (C8 (e:=Ao) (i:=9) Tryz.underlying36 rfl rfl rfl a1 rfl sg ?_)))))
         rintro wu _ rfl sh wv
         refine Ad 9 rfl f al (BJ A4 rfl (fun w hw=>sh.keepS (fun b m=>(hw.blk b (((a1.get (i:=9) rfl).2.1 b m).2) (by simp))) (fun _ h=>h)) rfl (Ax 10 rfl f al (bB c fun dd si c=>(Ad 11 rfl f al (C8 (e:=Ao) (i:=9) Tryz.underlying36 rfl rfl rfl a1 rfl si ?_)))))
         rintro ww _ rfl sj wx
         refine Ad 12 rfl f al (BJ A4 rfl (fun w hw=>sj.keepS (fun b m=>(hw.blk b (((a1.get (i:=9) rfl).2.1 b m).2) (by simp))) (fun _ h=>h)) rfl (Ad 13 rfl f al (HW (zs:=[(iv 0),(iv 0),(iv 0)]) (out:=[(iv db),(iv dc),(iv dd)]) (vs:=[(iv db),(iv dc),(iv dd)]) (css:=[[(iv db)],[(iv dc)],[(iv dd)]]) LC VJ rfl rfl rfl rfl rfl (Av 14 rfl (bB c fun b7 sk c=>(En rfl Tryz.call95 sd a1 (RK jk d.2.2.2.2.2.1 jj (a1.own_ro (i:=5) rfl) (db,dc,dd) _ sk) rfl fun fb sl sm sn _ jl de=>?_))))))
         have bs:=al.ext sn
         refine Ah (Ap bs (Ax 15 rfl f bs (Ad 16 rfl f bs (AW rfl rfl rfl (Ad 17 rfl f bs (AW rfl rfl rfl (Ad 18 rfl f bs (AD rfl rfl (Ad 19 rfl f bs (AD rfl rfl (Ba (r4 (Al 2 rfl (Al 1 rfl (A2 rfl c (fun _ c=>?_) (fun _ c=>?_))))))))))))))))
         ·refine As ?_
          refine wp 2 rfl (BP rfl rfl (Bq Uu rfl (BC (i:=1) (vs:=[fb]) (cs':=[r5,r6,(iv d.2.2.1),r7,r8,fb,sa,sb,(iv d.2.2.2.2.2.2.2.2)]) R3 rfl rfl (Cl (de.own_ro (i:=0) rfl).one) rfl jl de rfl rfl ⟨(de.own_ro (i:=0) rfl).one,trivial⟩ rfl fun so _ sp sq=>(Ah ?_))))
          obtain ⟨sr,ss⟩:∃ F,Sp (wE k) so [A3 B1 74 F g (d.1,d.2.1,d.2.2.1,d.2.2.2.1,d.2.2.2.2.1,b7.1,d.2.2.2.2.2.2.1,d.2.2.2.2.2.2.2.1,d.2.2.2.2.2.2.2.2),Ab Cm r9 jj d.2.2.2.2.2.1,A5 k (Bf [A3 B1 74 q g d,Ab Ao p o n]),Ab Ao p o n]:=⟨_,D5 (sq.sel [1,2,3,4,5,0,7,8,6,9,10] rfl)⟩
          exact jx (aj ((d.1,d.2.1,d.2.2.1,d.2.2.2.1,d.2.2.2.2.1,b7.1,d.2.2.2.2.2.2.1,d.2.2.2.2.2.2.2.1,d.2.2.2.2.2.2.2.2)) (b7.2) sr _ c sp (ss.sel [2,0] rfl)) rfl
         ·refine Au ?_
          obtain ⟨st,su⟩:∃ F,Sp (wE k) sm [A3 B1 74 F g d,Ab Cm sl fb b7.1,A5 k (Bf [A3 B1 74 q g d,Ab Ao p o n]),Ab Ao p o n]:=⟨_,D5 (de.sel [1,2,3,4,5,6,7,8,0,9,10] rfl)⟩
          exact jx (aj d (b7.2) st _ c jl (su.sel [2,0] rfl)) rfl
        ·refine Au ?_
         exact jx (aj d true q _ c hB (hS.sel [0,1] rfl)) rfl
theorem VA (b:Ae) (c:Bool) (r:(List Aj)) (a:Jh c = some r) :
  A1 78 [(.bool c)] b fun e w'=>e = .returned (.string (B5 r)) ∧ Bl b w':=by
 refine cm Tryz.func78 Tryz.ntmps78 rfl fun Q d h f _=>?_
 unfold Jh at a
 refine Al 1 rfl (Am fun _ g=>(Al 2 rfl (A2 rfl a (fun _ a=>?_) (fun _ a=>?_))))
 ·refine Al 1 rfl ?_
  refine Aw (rt d rfl rfl (by cases a; exact ⟨rfl,f⟩))
 ·refine Au (g ?_)
  refine Al 1 rfl (Aw (rt d rfl rfl (by cases a; exact ⟨rfl,f⟩)))
theorem Qx (f:Ae) (g:Ae4) (j:Ac) (o:RO Ar f j g) (h:Ae4) (k:Ac) (p:RO Ar f k h) (r:Bool) (b:Ji g h = some r) :
  A1 192 [j,k] f fun e w'=>e = .returned (.bool r) ∧ Bl f w':=by
 refine cm Tryz.func192 Tryz.ntmps192 rfl fun Q v hP q w=>?_
 unfold Ji at b
 refine Al 1 rfl (Am fun x y=>?_)
 obtain ⟨z,aa,b⟩:=Ch b
 have l:∀ (m:Bool) (i:Ae) (_:z m = some r) (_:Bl f i) (_:Sp f i []),∀ a,St 18 [(4,(.bool m))] a → x a i:=by
  intro m i b ab ai
  subst aa
  refine y (Aw (rt v rfl rfl (by cases b; exact ⟨rfl,ab⟩)))
 refine As (wp 1 rfl (bB b fun u9 ad b=>(Bs rfl Tryz.call132 q w (Jn f g j (o.ro q) _ ad) rfl fun ae _ n s=>(wp 1 rfl ?_))))
 rcases bE u9 with d | d
 ·replace b:=B9 d b
  refine wn rfl d (wp 1 rfl (wn rfl d (bB b fun af ag b=>(Bs rfl Tryz.call132 n s (Jn ae h k (p.ro n) _ ag) rfl fun aj _ t u=>(AA rfl rfl d rfl (wp 1 rfl ?_))))))
  rcases bE af with c | c
  ·replace b:=B9 c b
   refine wn rfl c (wp 1 rfl (wn rfl c (BQ o Tryz.underlying26 rfl (wn rfl c (wp 1 rfl (wn rfl c (BQ p Tryz.underlying26 rfl (wn rfl c (wp 1 rfl (AA rfl rfl c rfl (Aq 1 rfl ?_)))))))))))
   exact jx (l (((List.length g:Int) == (List.length h:Int))) _ b t (u.sel [] rfl)) rfl
  ·replace b:=Cf c b
   refine wo rfl c (wo rfl c (wo rfl c (wo rfl c (wo rfl c (A6 rfl rfl c rfl (Aq 1 rfl ?_))))))
   exact jx (l false _ b t (u.sel [] rfl)) rfl
 ·replace b:=Cf d b
  refine wo rfl d (wo rfl d (A6 rfl rfl d rfl (wp 1 rfl (wo rfl rfl (wo rfl rfl (wo rfl rfl (wo rfl rfl (wo rfl rfl (A6 rfl rfl rfl rfl (Aq 1 rfl ?_))))))))))
  exact jx (l false _ b n (s.sel [] rfl)) rfl
theorem PC (d:Ae) (g:Ae4) (h:Ac) (q:RO Ar d h g) (i:Ae4) (j:Ac) (s:RO Ar d j i) (k:Int) (r:Bool) (b:I3 g i k = some r) :
  A1 139 [h,j,(iv k)] d fun e w'=>e = .returned (.bool r) ∧ Bl d w':=by
 refine cm Tryz.func139 Tryz.ntmps139 rfl fun Q t hP l u=>?_
 unfold I3 at b
 refine Al 1 rfl (Am fun v w=>?_)
 obtain ⟨x,y,b⟩:=Ch b
 have n:∀ (m:Bool) (f:Ae) (_:x m = some r) (_:Bl d f) (_:Sp d f []),∀ a,St 14 [(6,(.bool m))] a → v a f:=by
  intro m f b z ai
  subst y
  refine w (Aw (rt t rfl rfl (by cases b; exact ⟨rfl,z⟩)))
 refine As (wp 2 rfl (bB b fun u9 ab b=>(Bs rfl Tryz.call192 l u (Qx d g h (q.ro l) i j (s.ro l) _ ab) rfl fun ac _ o p=>(wp 1 rfl ?_))))
 rcases bE u9 with c | c
 ·replace b:=B9 c b
  refine wn rfl c (wp 1 rfl (wn rfl c (bB b fun ad ae b=>(Bs rfl Tryz.call77 o p (Ci ac k 1 64 _ ae) rfl fun aj _ af ag=>(AA rfl rfl c rfl (Aq 1 rfl ?_))))))
  exact jx (n ad _ b af (ag.sel [] rfl)) rfl
 ·replace b:=Cf c b
  refine wo rfl c (wo rfl c (A6 rfl rfl c rfl (Aq 1 rfl ?_)))
  exact jx (n false _ b o (p.sel [] rfl)) rfl
theorem KN (d:Ae) (b:(Int × Int)) (c:(Int × Int)) (r:Int) (f:GX b c = some r) :
  A1 194 [(.agg #[(iv b.1),(iv b.2)]),(.agg #[(iv c.1),(iv c.2)])] d fun e w'=>e = .returned (iv r) ∧ Bl d w':=by
 refine cm Tryz.func194 Tryz.ntmps194 rfl fun Q g o h i=>?_
 unfold GX at f
 refine Ak fun _ j=>CM rfl h i fun p q _ k l=>CM rfl k l fun s t _ m a=>Aq 1 rfl (j (Ak fun _ n=>(Bq CL rfl (AU 1 A4 rfl a rfl rfl (Bq CL rfl (AU 0 A4 rfl a rfl rfl (wp 1 rfl (Bq CL rfl (AU 1 A4 rfl a rfl rfl (Bq CL rfl (AU 0 A4 rfl a rfl rfl (wp 2 rfl (Bq CK rfl (AU 1 A4 rfl a rfl rfl (Bq CK rfl (AU 0 A4 rfl a rfl rfl (wp 1 rfl (Bq CK rfl (AU 1 A4 rfl a rfl rfl (Bq CK rfl (AU 0 A4 rfl a rfl rfl (Aq 4 rfl (n (Aw (rt g rfl rfl (by cases f; exact ⟨rfl,m⟩))))))))))))))))))))))))))
theorem UN (c:Ae) (g:Ae4) (t:Ac) (ae:RO Ar c t g) (d:Ae4) (n:Ac) (af:RO Ar c n d) (r:Ae9) (b:JP g d = some r) :
  A1 141 [t,n] c fun e w'=>∃ (q0:Ac) (G0:An),e = .returned q0 ∧ Bl c w' ∧ Sp c w' [Ab Cn G0 q0 r]:=by
 refine cm Tryz.func141 Tryz.ntmps141 rfl fun Q hQ hP hB hS=>?_
 unfold JP at b
 refine Al 1 rfl (Al 1 rfl (Am fun _ ar=>(Ak fun _ au=>(wp 1 rfl (BQ ae Tryz.underlying26 rfl (Aq 1 rfl (au (Az (AN (fun m a x=>∃ (h:Ae9) (f:Int) (j:Ac) (u:An),St 36 [(1,n),(5,j),(11,t),(12,(iv (List.length g:Int))),(13,(iv f))] a ∧ Bl c x ∧ Sp c x [Ab Cn u j h] ∧ E0 g d m h f = some r) FU ?_ ?_)))))))))
 ·have av:=hS.push0 (r:=Ab Cn [] (.slice none 0 0) []) rfl fun _=>.inl ⟨rfl,rfl,rfl⟩
  exact fun a ha=>⟨[],0,(.slice none 0 0),[],ha.sb rfl,hB,(av.sel [0] rfl),b⟩
 ·rintro o a x ⟨h,f,j,u,ha,y,ah,b⟩ b8 aw
  refine BB ?_ ha
  cases o with
  | zero=>exact Be b
  | succ o =>
   obtain ⟨ai,aj⟩:∃ k,k = E0 g d o:=⟨_,rfl⟩
   rw [E0,← aj] at b
   refine Al 1 rfl (Am fun _ ax=>(A2 rfl b (fun _ b=>?_) (fun _ b=>?_)))
   ·refine Au (ax ?_)
    refine Am fun _ ay=>Az (Ak fun _ az=>(bB b fun p a0 b=>(BM (e:=Ar) Tryz.underlying26 rfl rfl rfl ae a0 ?_)))
    rintro b9 _ rfl a1
    refine BV Bt rfl (a1.ro y) rfl (Ep Bt rfl y ah fun ak ca _ a2 a3=>(Gq 0 Bt rfl rfl a2 a3 rfl rfl rfl fun cb _ a4 a5=>(Ah (az (Al 1 rfl (Am fun _ a6=>(Ak fun _ a7=>(wp 1 rfl (BQ af Tryz.underlying26 rfl (Aq 1 rfl (a7 (Az (AN (fun m a z=>∃ (v:(List Int)) (w:Int) (q:Ac) (aa:An),St 36 [(1,n),(5,j),(7,(.pointer (some ⟨ak,0,none⟩))),(8,q),(11,t),(12,(iv (List.length g:Int))),(13,(iv f)),(17,n),(18,(iv (List.length d:Int))),(19,(iv w))] a ∧ Bl c z ∧ Sp c z [Ab Cn u j h,A9 ak 79 [(iv p.1),(iv p.2)],Ab Ao aa q v] ∧ Fl d p h ai f m v w = some r) FU ?_ ?_)))))))))))))
    ·have a8:=a5.push0 (r:=Ab Ao [] (.slice none 0 0) []) rfl fun _=>.inl ⟨rfl,rfl,rfl⟩
     exact fun a ha=>⟨[],0,(.slice none 0 0),[],ha.sb rfl,a4,(a8.sel [2,1,0] rfl),b⟩
    ·rintro s a z ⟨v,w,q,aa,ha,ab,ac,b⟩ cc a9
     refine BB ?_ ha
     cases s with
     | zero=>exact Be b
     | succ s =>
      obtain ⟨cd,al⟩:∃ k,k = Fl d p h ai f s:=⟨_,rfl⟩
      rw [Fl,← al] at b
      refine Al 1 rfl (Am fun _ ba=>(A2 rfl b (fun _ b=>?_) (fun _ b=>?_)))
      ·refine Au (ba ?_)
       refine Am fun _ bb=>Az (Ak fun _ bc=>(bB b fun bd be b=>(BM (e:=Ar) Tryz.underlying26 rfl rfl rfl af be ?_)))
       rintro ce _ rfl bf
       refine BV Bt rfl (bf.ro ab) rfl (Ep Bt rfl ab ac fun cf cg _ bg bh=>(Gq 0 Bt rfl rfl bg bh rfl rfl rfl fun bi _ bj ad=>(Ah (bc (As (wp 1 rfl (AU 2 Bt rfl ad rfl rfl (AU 0 Bt rfl ad rfl rfl (bB b fun u64 bk b=>(Bs rfl Tryz.call194 bj ad (KN bi p bd _ bk) rfl fun ch _ bl bm=>(Bb (vs:=[(iv u64)]) (l:=[u64]) Ca Tryz.underlying36 rfl rfl rfl rfl rfl rfl bl bm fun ci cj bn _ bo am=>(bB b fun bp bq b=>(AE (i:=4) (S:=(· < bn.heap.size)) Ca Tryz.underlying36 rfl rfl rfl bo am rfl (am.own_ro (i:=0) rfl) bq fun br bs ck _ bt bu=>(Aq 1 rfl (bb (As (Aq 2 rfl ?_)))))))))))))))))
       rw [al] at b
       exact fun a ha=>a9 a _ s (AB s) ⟨bp,(Ag (w + 1)),br,bs,ha.sb rfl,bt,(bu.sel [2,3,4] rfl),b⟩
      ·refine Bc (a6 ?_)
       refine As (wp 2 rfl ?_)
       have bv:=ac.sel [2,0,1] rfl
       have bw:=bv.head (r':=Qi Cn aa [q] v) (rfl) fun _ h0=>⟨_,rfl,h0⟩
       refine NE (e:=Cn) (vs:=[q]) Tryz.underlying155 rfl rfl (Cl (ac.own_ro (i:=2) rfl).one) rfl ab bw fun cl cn co _ _ bz b0=>bB b fun b1 b2 b=>Lk (e:=Cn) Tryz.underlying155 rfl rfl rfl bz (b0.sel [1,0,2] rfl) b2 fun b3 b4 cp _ b5 b6=>Aq 1 rfl (ay (As (Aq 2 rfl ?_)))
       rw [aj] at b
       exact fun a ha=>aw a _ o (AB o) ⟨b1,(Ag (f + 1)),b3,b4,ha.sb rfl,b5,(b6.sel [0] rfl),b⟩
   ·refine Bc (ar ?_)
    refine Al 2 rfl (Aw (rt hQ rfl rfl (by cases b; exact ⟨j,u,rfl,y,ah.sel [0] rfl⟩)))
theorem GI (b:Ae) (c:Int) (d:Int) (r:Int) (a:EU c d = some r) :
  A1 225 [(iv c),(iv d)] b fun e w'=>e = .returned (iv r) ∧ Bl b w':=by
 refine cm Tryz.func225 Tryz.ntmps225 rfl fun Q f i g _=>?_
 unfold EU at a
 refine Al 1 rfl (Am fun _ h=>(Al 3 rfl (A2 rfl a (fun _ a=>?_) (fun _ a=>?_))))
 ·refine Al 2 rfl ?_
  refine Aw (rt f rfl rfl (by cases a; exact ⟨rfl,g⟩))
 ·refine Au (h ?_)
  refine Al 2 rfl (Aw (rt f rfl rfl (by cases a; exact ⟨rfl,g⟩)))
theorem UD (g:Ae) (j:Ae9) (u:Ac) (a6:RO Cn g u j) (r:(List Int)) (b:JJ j = some r) :
  A1 193 [u] g fun e w'=>∃ (q0:Ac) (G0:An),e = .returned q0 ∧ Bl g w' ∧ Sp g w' [Ab Ao G0 q0 r]:=by
 refine cm Tryz.func193 Tryz.ntmps193 rfl fun Q hQ d hB hS=>?_
 unfold JJ at b
 refine Al 1 rfl (Ak fun _ b2=>(wp 1 rfl (BQ a6 Tryz.underlying155 rfl (Aq 1 rfl (b2 (Ak fun _ b3=>(wp 1 rfl (DX Tryz.underlying3 Tryz.underlying117 rfl rfl ?_))))))))
 have h4:=Hr b
 replace b:=B9 h4 b
 refine JE h4 rfl rfl rfl (bB b fun u5 b5 b=>(ND (e:=Ao) Tryz.underlying36 rfl rfl b5 hB hS fun v6 F7 w8 _ b8 b9=>(Aq 1 rfl (b3 (Am fun _ ca=>(Al 1 rfl (Az (AN (fun m a aq=>∃ (s:(List Int)) (f:Int) (t:Ac) (v:An),St 76 [(0,u),(3,(iv (List.length j:Int))),(4,t),(5,(iv f))] a ∧ Bl g aq ∧ Sp g aq [Ab Ao v t s] ∧ Fe j m s f = some r) FU ?_ ?_))))))))
 ·exact fun a ha=>⟨u5,1,v6,F7,ha.sb rfl,b8,(b9.sel [0] rfl),b⟩
 ·rintro w a aq ⟨s,f,t,v,ha,a8,a9,b⟩ d4 cb
  refine BB ?_ ha
  cases w with
  | zero=>exact Be b
  | succ w =>
   obtain ⟨ad,ba⟩:∃ k,k = Fe j w:=⟨_,rfl⟩
   rw [Fe,← ba] at b
   refine Am fun _ cc=>Ak fun _ cd=>wp 2 rfl (DX Tryz.underlying3 Tryz.underlying117 rfl rfl (JE h4 rfl rfl rfl (Aq 1 rfl (cd (A2 rfl b (fun _ b=>?_) (fun _ b=>?_))))))
   ·refine Au (cc ?_)
    refine Am fun _ ce=>Az (Al 1 rfl (Am fun _ cf=>(Al 1 rfl (Az (AN (fun m a ar=>∃ (ae:Int) (x:Int),St 76 [(0,u),(3,(iv (List.length j:Int))),(4,t),(5,(iv f)),(6,(iv ae)),(7,(iv x))] a ∧ Bl g ar ∧ Sp g ar [Ab Ao v t s] ∧ Ez j f s ad m ae x = some r) FU ?_ ?_)))))
    ·exact fun a ha=>⟨0,0,ha.sb rfl,a8,(a9.sel [0] rfl),b⟩
    ·rintro y a ar ⟨ae,x,ha,bb,au,b⟩ d5 cg
     refine BB ?_ ha
     cases y with
     | zero=>exact Be b
     | succ y =>
      obtain ⟨d6,bc⟩:∃ k,k = Ez j f s ad y:=⟨_,rfl⟩
      rw [Ez,← bc] at b
      refine Am fun _ ch=>Al 3 rfl (A2 rfl b (fun _ b=>?_) (fun _ b=>?_))
      ·refine Au (ch ?_)
       refine Am fun _ ci=>Az (As (wp 3 rfl (DX Tryz.underlying3 Tryz.underlying117 rfl rfl ?_)))
       have bd:=Hr b
       replace b:=B9 bd b
       refine Gp bd rfl rfl rfl (I7 rfl rfl rfl (Aq 2 rfl (ci (As (Aq 3 rfl ?_)))))
       rw [bc] at b
       exact fun a ha=>cg a _ y (AB y) ⟨(Ag (ae + (B3 .i64 (Br .i64 f (Bh x)) 1))),(Ag (x + 1)),ha.sb rfl,bb,(au.sel [0] rfl),b⟩
      ·refine Bc (cf ?_)
       refine Ak fun _ cj=>wp 2 rfl (bB b fun d7 be b=>(Cj (e:=Ao) (i:=0) Tryz.underlying36 rfl rfl rfl au rfl be ?_))
       rintro d8 _ rfl d9 ck
       refine BO (i:=0) (o:=0) (vs:=[(iv 1000000000)]) (u':=1000000000) Ca A4 rfl rfl rfl rfl ck be bb au rfl rfl ⟨rfl,trivial⟩ rfl fun ea _ bf cl=>Ah (cj (Ak fun _ cn=>(wp 4 rfl (bB b fun af co b=>(BM (e:=Cn) Tryz.underlying155 rfl rfl rfl a6 co ?_)))))
       rintro eb _ ⟨bg,rfl,bh⟩ cp
       refine BV EQ rfl (cp.ro bf) rfl (BQ bh Tryz.underlying36 rfl (Aq 1 rfl (cn (Az (AN (fun m a av=>∃ (n:(List Int)) (z:Int) (p:Ac) (l:An),St 76 [(0,u),(3,(iv (List.length j:Int))),(4,p),(5,(iv f)),(43,bg),(44,(iv (List.length af:Int))),(45,(iv z))] a ∧ Bl g av ∧ Sp g av [Ab Ao l p n] ∧ D2 af f ad m n z = some r) FU ?_ ?_)))))
       ·exact fun a ha=>⟨(BE s f 1000000000),0,t,v,ha.sb rfl,bf,(cl.sel [0] rfl),b⟩
       ·rintro aa a av ⟨n,z,p,l,ha,ag,aw,b⟩ ec cq
        refine BB ?_ ha
        cases aa with
        | zero=>exact Be b
        | succ aa =>
         obtain ⟨ed,bi⟩:∃ k,k = D2 af f ad aa:=⟨_,rfl⟩
         rw [D2,← bi] at b
         refine Al 1 rfl (Am fun _ cr=>(A2 rfl b (fun _ b=>?_) (fun _ b=>?_)))
         ·refine Au (cr ?_)
          refine Am fun cs ct=>?_
          obtain ⟨cu,cv,b⟩:=Ch b
          have ab:∀ (ah:(List Int)) (ai:Ac) (ax:An) (aj:Ae) (_:cu ah = some r) (_:Bl g aj) (_:Sp g aj [Ab Ao ax ai ah]),∀ a,St 76 [(0,u),(3,(iv (List.length j:Int))),(4,ai),(5,(iv f)),(43,bg),(44,(iv (List.length af:Int))),(45,(iv z))] a → cs a aj:=by
           intro ah ai ax aj b cw cx
           subst cv
           refine ct (As (Aq 2 rfl ?_))
           rw [bi] at b
           exact fun a ha=>cq a _ aa (AB aa) ⟨ah,(Ag (z + 1)),ai,ax,ha.sb rfl,cw,(cx.sel [0] rfl),b⟩
          refine Az (Ak fun _ cy=>(wp 1 rfl (bB b fun ak cz b=>(BM (e:=Ao) Tryz.underlying36 rfl rfl rfl bh cz ?_))))
          rintro ee _ rfl c0
          refine BV A4 rfl (c0.ro ag) rfl (Aq 2 rfl (cy (Ak fun _ c1=>(wp 2 rfl (DX Tryz.underlying3 Tryz.underlying117 rfl rfl ?_)))))
          have al:=Hr b
          replace b:=B9 al b
          refine Gp al rfl rfl rfl (I7 rfl rfl rfl (Aq 1 rfl (c1 (A2 rfl b (fun _ b=>?_) (fun _ b=>?_)))))
          ·refine AR B2 l ag aw fun ac _ am q=>?_
           have c:=KeepX.refl ac l
           refine Ax 0 rfl d c (Ax 1 rfl d c (Ax 2 rfl d c (Ax 3 rfl d c (bB b fun an c2 b=>(Ad 4 rfl d c (Bv (e:=Ao) (i:=0) Tryz.underlying36 rfl rfl rfl q rfl c2 ?_))))))
           rintro ef _ rfl ao eg
           refine Ax 6 rfl d c (Ax 7 rfl d c (Ax 8 rfl d c (Ax 9 rfl d c (Ad 10 rfl d c (PQ Tryz.underlying3 Tryz.underlying117 rfl rfl (Cz (is:=[5,11]) (by kernel_rfl) rfl (Bd.2 ⟨⟨_,rfl,?_⟩,Bd.2 ⟨⟨_,rfl,?_⟩,fun _ h=>by cases h⟩⟩)))))))
           ·refine BV A4 rfl ao rfl ?_
            refine Ah (Ap c (Av 11 rfl (JE al rfl rfl rfl (Ah (Ap c (Av 12 rfl (QB rfl rfl rfl (Ah (Ap c (bB b fun c3 c4 b=>(Ad 13 rfl d c (Bv (e:=Ao) (i:=0) Tryz.underlying36 rfl rfl rfl q rfl c4 ?_))))))))))))
            rintro eh _ rfl c5 ei
            refine Av 14 rfl (BV A4 rfl c5 rfl (Ah (Ap c (Ad 15 rfl d c (EA rfl rfl rfl (Av 16 rfl (bB b fun ay c6 b=>(Bs rfl Tryz.call225 am q (GI ac an (Ag (ak + c3)) _ c6) rfl fun ej c7 c8 bj=>?_))))))))
            have az:=c.ext c7
            refine Ah (Ap az (Av 17 rfl (bB b fun ek bk b=>(Cj (e:=Ao) (i:=0) Tryz.underlying36 rfl rfl rfl bj rfl bk ?_))))
            rintro el _ rfl em c9
            refine Ah (Ap az (Av 18 rfl (BO (i:=0) (o:=0) (vs:=[(iv ay)]) (u':=ay) Ca A4 rfl rfl rfl rfl c9 bk c8 bj rfl rfl ⟨rfl,trivial⟩ rfl fun en bl da db=>?_)))
            have dc:=az.wr' bl.1 bl.2.1 (fun _ _ h=>h)
            refine Ah (Ap dc (Ba ?_))
            exact jx (ab ((BE n f ay)) p l _ b da (db.sel [0] rfl)) rfl
           ·refine JE al rfl rfl rfl ?_
            refine Ah (Ap c (Cz (is:=[5,12]) (by kernel_rfl) rfl (Bd.2 ⟨⟨_,rfl,?_⟩,Bd.2 ⟨⟨_,rfl,?_⟩,fun _ h=>by cases h⟩⟩)))
            ·refine BV A4 rfl ao rfl ?_
             refine Ah (Ap c (Av 12 rfl (QB rfl rfl rfl (Ah (Ap c (bB b fun dd de b=>(Ad 13 rfl d c (Bv (e:=Ao) (i:=0) Tryz.underlying36 rfl rfl rfl q rfl de ?_))))))))
             rintro eo _ rfl df ep
             refine Av 14 rfl (BV A4 rfl df rfl (Ah (Ap c (Ad 15 rfl d c (EA rfl rfl rfl (Av 16 rfl (bB b fun a0 dg b=>(Bs rfl Tryz.call225 am q (GI ac an (Ag (ak + dd)) _ dg) rfl fun eq dh di bm=>?_))))))))
             have a1:=c.ext dh
             refine Ah (Ap a1 (Av 17 rfl (bB b fun er bn b=>(Cj (e:=Ao) (i:=0) Tryz.underlying36 rfl rfl rfl bm rfl bn ?_))))
             rintro es _ rfl et dj
             refine Ah (Ap a1 (Av 18 rfl (BO (i:=0) (o:=0) (vs:=[(iv a0)]) (u':=a0) Ca A4 rfl rfl rfl rfl dj bn di bm rfl rfl ⟨rfl,trivial⟩ rfl fun eu bo dk dl=>?_)))
             have dm:=a1.wr' bo.1 bo.2.1 (fun _ _ h=>h)
             refine Ah (Ap dm (Ba ?_))
             exact jx (ab ((BE n f a0)) p l _ b dk (dl.sel [0] rfl)) rfl
            ·refine QB rfl rfl rfl ?_
             refine Ah (Ap c (bB b fun bp dn b=>(Ad 13 rfl d c (Bv (e:=Ao) (i:=0) Tryz.underlying36 rfl rfl rfl q rfl dn ?_))))
             rintro ev _ rfl bq ew
             refine Cz (is:=[5,14]) (by kernel_rfl) rfl (Bd.2 ⟨⟨_,rfl,?_⟩,Bd.2 ⟨⟨_,rfl,?_⟩,fun _ h=>by cases h⟩⟩)
             ·refine BV A4 rfl ao rfl ?_
              refine Ah (Ap c (Av 14 rfl (BV A4 rfl bq rfl (Ah (Ap c (Ad 15 rfl d c (EA rfl rfl rfl (Av 16 rfl (bB b fun a2 dp b=>(Bs rfl Tryz.call225 am q (GI ac an (Ag (ak + bp)) _ dp) rfl fun ex dq dr br=>?_))))))))))
              have a3:=c.ext dq
              refine Ah (Ap a3 (Av 17 rfl (bB b fun ey bs b=>(Cj (e:=Ao) (i:=0) Tryz.underlying36 rfl rfl rfl br rfl bs ?_))))
              rintro ez _ rfl e0 ds
              refine Ah (Ap a3 (Av 18 rfl (BO (i:=0) (o:=0) (vs:=[(iv a2)]) (u':=a2) Ca A4 rfl rfl rfl rfl ds bs dr br rfl rfl ⟨rfl,trivial⟩ rfl fun e1 bt dt du=>?_)))
              have dv:=a3.wr' bt.1 bt.2.1 (fun _ _ h=>h)
              refine Ah (Ap dv (Ba ?_))
              exact jx (ab ((BE n f a2)) p l _ b dt (du.sel [0] rfl)) rfl
             ·refine BV A4 rfl bq rfl ?_
              refine Ah (Ap c (Ad 15 rfl d c (EA rfl rfl rfl (Av 5 rfl (BV A4 rfl ao rfl (Ah (Ap c (Av 16 rfl (bB b fun a4 dw b=>(Bs rfl Tryz.call225 am q (GI ac an (Ag (ak + bp)) _ dw) rfl fun e2 dx dy bu=>?_))))))))))
              have a5:=c.ext dx
              refine Ah (Ap a5 (Av 17 rfl (bB b fun e3 bv b=>(Cj (e:=Ao) (i:=0) Tryz.underlying36 rfl rfl rfl bu rfl bv ?_))))
              rintro e4 _ rfl e5 dz
              refine Ah (Ap a5 (Av 18 rfl (BO (i:=0) (o:=0) (vs:=[(iv a4)]) (u':=a4) Ca A4 rfl rfl rfl rfl dz bv dy bu rfl rfl ⟨rfl,trivial⟩ rfl fun e6 bw d0 d1=>?_)))
              have d2:=a5.wr' bw.1 bw.2.1 (fun _ _ h=>h)
              refine Ah (Ap d2 (Ba ?_))
              exact jx (ab ((BE n f a4)) p l _ b d0 (d1.sel [0] rfl)) rfl
          ·refine Au ?_
           exact jx (ab n p l _ b ag (aw.sel [0] rfl)) rfl
         ·refine Bc (ce ?_)
          refine As (Aq 3 rfl ?_)
          rw [ba] at b
          exact fun a ha=>cb a _ w (AB w) ⟨n,(Ag (f + 1)),p,l,ha.sb rfl,ag,(aw.sel [0] rfl),b⟩
   ·refine Bc (ca ?_)
    refine Al 2 rfl (Aw (rt hQ rfl rfl (by cases b; exact ⟨t,v,rfl,a8,a9.sel [0] rfl⟩)))
theorem UE (h:Ae) (p:Ae9) (x:Ac) (ah:RO Cn h x p) (r:Afa) (d:JK p = some r) :
  A1 140 [x] h fun e w'=>∃ (q0:Ac) (G0:An),e = .returned (.tuple #[q0,(iv r.2)]) ∧ Bl h w' ∧ Sp h w' [Ab Ao G0 q0 r.1]:=by
 refine cm Tryz.func140 Tryz.ntmps140 rfl fun Q hQ b hB hS=>?_
 unfold JK at d
 refine Al 2 rfl (Ak fun _ bb=>(wp 1 rfl (bB d fun j bc d=>(En rfl Tryz.call193 hB hS (UD h p x (ah.ro hB) _ bc) rfl fun v F5 w6 _ _ bd aw=>(Aq 1 rfl (bb (Ak fun _ be=>(wp 1 rfl (BQ (aw.own_ro (i:=0) rfl) Tryz.underlying36 rfl (Aq 2 rfl (be (Al 1 rfl (Am fun _ bf=>(Ak fun _ bg=>(wp 1 rfl (BQ ah Tryz.underlying155 rfl (Aq 1 rfl (bg (Az (AN (fun m a ai=>∃ (n:Int) (w:(List Int)) (q:Int) (o:Ac) (y:An),St 76 [(4,v),(5,(iv n)),(6,o),(17,x),(18,(iv (List.length p:Int))),(19,(iv q))] a ∧ Bl h ai ∧ Sp h ai [Ab Ao F5 v j,Ab Ao y o w] ∧ DW p j m n w q = some r) FU ?_ ?_))))))))))))))))))))
 ·have bh:=aw.push0 (r:=Ab Ao [] (.slice none 0 0) []) rfl fun _=>.inl ⟨rfl,rfl,rfl⟩
  exact fun a ha=>⟨(Ag ((List.length j:Int) - 1)),[],0,(.slice none 0 0),[],ha.sb rfl,bd,(bh.sel [1,0] rfl),d⟩
 ·rintro z a ai ⟨n,w,q,o,y,ha,aj,ax,d⟩ cu bi
  refine BB ?_ ha
  cases z with
  | zero=>exact Be d
  | succ z =>
   obtain ⟨ay,az⟩:∃ k,k = DW p j z:=⟨_,rfl⟩
   rw [DW,← az] at d
   refine Al 1 rfl (Am fun _ bj=>(A2 rfl d (fun _ d=>?_) (fun _ d=>?_)))
   ·refine Au (bj ?_)
    refine Am fun _ bk=>Az (Ak fun _ bl=>(bB d fun aa bm d=>(BM (e:=Cn) Tryz.underlying155 rfl rfl rfl ah bm ?_)))
    rintro cv _ ⟨ak,rfl,a0⟩ bn
    refine BV EQ rfl (bn.ro aj) rfl (Aq 1 rfl (bl (Al 1 rfl (Am fun _ bo=>(Ak fun _ bp=>(wp 1 rfl (BQ a0 Tryz.underlying36 rfl (Aq 1 rfl (bp (Az (AN (fun m a al=>∃ (s:Int) (t:Int),St 76 [(4,v),(5,(iv n)),(6,o),(9,(iv s)),(17,x),(18,(iv (List.length p:Int))),(19,(iv q)),(23,ak),(24,(iv (List.length aa:Int))),(25,(iv t))] a ∧ Bl h al ∧ Sp h al [Ab Ao F5 v j,Ab Ao y o w] ∧ Ff aa n j w ay q m s t = some r) FU ?_ ?_)))))))))))
    ·exact fun a ha=>⟨(-1),0,ha.sb rfl,aj,(ax.sel [0,1] rfl),d⟩
    ·rintro ab a al ⟨s,t,ha,am,a1,d⟩ cw bq
     refine BB ?_ ha
     cases ab with
     | zero=>exact Be d
     | succ ab =>
      obtain ⟨cx,a2⟩:∃ k,k = Ff aa n j w ay q ab:=⟨_,rfl⟩
      rw [Ff,← a2] at d
      refine Al 1 rfl (Am fun _ br=>(A2 rfl d (fun _ d=>?_) (fun _ d=>?_)))
      ·refine Au (br ?_)
       refine Am fun bs bt=>?_
       obtain ⟨bu,bv,d⟩:=Ch d
       have a3:∀ (ae:Int) (af:Ae) (_:bu ae = some r) (_:Bl h af) (_:Sp h af [Ab Ao F5 v j,Ab Ao y o w]),∀ a,St 76 [(4,v),(5,(iv n)),(6,o),(9,(iv ae)),(17,x),(18,(iv (List.length p:Int))),(19,(iv q)),(23,ak),(24,(iv (List.length aa:Int))),(25,(iv t))] a → bs a af:=by
        intro ae af d bw bx
        subst bv
        refine bt (As (Aq 2 rfl ?_))
        rw [a2] at d
        exact fun a ha=>bq a _ ab (AB ab) ⟨ae,(Ag (t + 1)),ha.sb rfl,bw,(bx.sel [0,1] rfl),d⟩
       refine Az (Ak fun _ bz=>(wp 1 rfl (bB d fun b0 b1 d=>(BM (e:=Ao) Tryz.underlying36 rfl rfl rfl a0 b1 ?_))))
       rintro cy _ rfl b2
       refine BV A4 rfl (b2.ro am) rfl (Aq 2 rfl (bz (Am fun b3 b4=>?_)))
       obtain ⟨b5,b6,d⟩:=Ch d
       have an:∀ (ao:Bool) (ag:Ae) (_:b5 ao = some r) (_:Bl h ag) (_:Sp h ag [Ab Ao F5 v j,Ab Ao y o w]),∀ a,St 76 [(4,v),(5,(iv n)),(6,o),(9,(iv s)),(10,(iv t)),(17,x),(18,(iv (List.length p:Int))),(19,(iv q)),(23,ak),(24,(iv (List.length aa:Int))),(25,(iv t)),(56,(.bool ao))] a → b3 a ag:=by
        intro ao ag d a4 a5
        subst b6
        refine b4 (A2 rfl d (fun _ d=>?_) (fun _ d=>?_))
        ·refine As ?_
         refine Aq 2 rfl ?_
         exact jx (a3 t _ d a4 (a5.sel [0,1] rfl)) rfl
        ·refine Au ?_
         exact jx (a3 s _ d a4 (a5.sel [0,1] rfl)) rfl
       refine AR B2 [] am a1 fun b7 _ ap ac=>?_
       have c:=KeepX.refl b7 []
       refine Ax 0 rfl b c (Ad 1 rfl b c (Mf rfl rfl rfl (Ax 2 rfl b c ?_)))
       rcases bE (decide (s < 0)) with g | g
       ·replace d:=B9 g d
        refine BF 3 rfl b g c (Da rfl rfl (BF 4 rfl b g c (Da rfl rfl (BF 5 rfl b g c (PQ Tryz.underlying3 Tryz.underlying117 rfl rfl (Av 6 rfl (wn rfl g ?_)))))))
        have aq:=Hr d
        replace d:=B9 aq d
        refine Gp aq rfl rfl rfl (Ah (Ap c (Av 7 rfl (wn rfl g (I7 rfl rfl rfl (Ah (Ap c (BF 8 rfl b g c (Pv rfl rfl rfl (Ad 9 rfl b c (Es rfl rfl g rfl (Ax 10 rfl b c ?_))))))))))))
        rcases bE ((B3 .i64 (Br .i64 n (Bh t)) 1) == 1) with f | f
        ·replace d:=B9 f d
         refine BF 11 rfl b f c (Da rfl rfl (BF 12 rfl b f c (Da rfl rfl (BF 13 rfl b f c (Da rfl rfl (BF 14 rfl b f c (Da rfl rfl (BF 15 rfl b f c (PQ Tryz.underlying3 Tryz.underlying117 rfl rfl (BF 21 rfl b f c (Da rfl rfl (BF 22 rfl b f c (Da rfl rfl (bB d fun b8 b9 d=>BF 23 rfl b f c (Bv (e:=Ao) (i:=0) Tryz.underlying36 rfl rfl rfl ac rfl b9 ?_)))))))))))))))
         rintro cz _ rfl ca c0
         refine BF 24 rfl b f c (BJ A4 rfl (ca.kx0) rfl (Av 16 rfl (wn rfl f (JE aq rfl rfl rfl (Ah (Ap c (Av 17 rfl (wn rfl f (QB rfl rfl rfl (Ah (Ap c (bB d fun cb cc d=>(BF 18 rfl b f c (Bv (e:=Ao) (i:=0) Tryz.underlying36 rfl rfl rfl ac rfl cc ?_))))))))))))))
         rintro c1 _ rfl cd c2
         refine BF 19 rfl b f c (BJ A4 rfl (cd.kx0) rfl (BF 20 rfl b f c (EA rfl rfl rfl (BF 25 rfl b f c (Pv rfl rfl rfl (Ad 26 rfl b c (Es rfl rfl f rfl (Ba ?_))))))))
         exact jx (an (((Ag (b0 + cb)) == b8)) _ d ap (ac.sel [0,1] rfl)) rfl
        ·replace d:=Cf f d
         refine AZ 11 rfl b f c (AZ 12 rfl b f c (AZ 13 rfl b f c (AZ 14 rfl b f c (AZ 15 rfl b f c (AZ 16 rfl b f c (AZ 17 rfl b f c (AZ 18 rfl b f c (AZ 19 rfl b f c (AZ 20 rfl b f c (AZ 21 rfl b f c (AZ 22 rfl b f c (AZ 23 rfl b f c (AZ 24 rfl b f c (AZ 25 rfl b f c (Ad 26 rfl b c (Ga rfl rfl f rfl (Ba ?_)))))))))))))))))
         exact jx (an false _ d ap (ac.sel [0,1] rfl)) rfl
       ·replace d:=Cf g d
        refine AZ 3 rfl b g c (AZ 4 rfl b g c (AZ 5 rfl b g c (AZ 6 rfl b g c (AZ 7 rfl b g c (AZ 8 rfl b g c (Ad 9 rfl b c (Ga rfl rfl g rfl (Ax 10 rfl b c (AZ 11 rfl b rfl c (AZ 12 rfl b rfl c (AZ 13 rfl b rfl c (AZ 14 rfl b rfl c (AZ 15 rfl b rfl c (AZ 16 rfl b rfl c (AZ 17 rfl b rfl c (AZ 18 rfl b rfl c (AZ 19 rfl b rfl c (AZ 20 rfl b rfl c (AZ 21 rfl b rfl c (AZ 22 rfl b rfl c (AZ 23 rfl b rfl c (AZ 24 rfl b rfl c (AZ 25 rfl b rfl c (Ad 26 rfl b c (Ga rfl rfl rfl rfl (Ba ?_))))))))))))))))))))))))))
        exact jx (an false _ d ap (ac.sel [0,1] rfl)) rfl
      ·refine Bc (bo ?_)
       refine Ak fun _ ce=>wp 2 rfl (Bb (vs:=[(iv s)]) (l:=[s]) Ca Tryz.underlying36 rfl rfl rfl rfl rfl rfl am a1 fun c3 c4 cf _ cg a6=>(bB d fun ch ci d=>(AE (i:=2) (S:=(· < cf.heap.size)) Ca Tryz.underlying36 rfl rfl rfl cg a6 rfl (a6.own_ro (i:=0) rfl) ci fun cj ck c5 _ cl cn=>(Aq 1 rfl (ce (As (wp 2 rfl (DX Tryz.underlying3 Tryz.underlying117 rfl rfl ?_))))))))
       have a7:=Hr d
       replace d:=B9 a7 d
       refine JE a7 rfl rfl rfl (QB rfl rfl rfl (Aq 1 rfl (bk (As (Aq 2 rfl ?_)))))
       rw [az] at d
       exact fun a ha=>bi a _ z (AB z) ⟨(Sq .i64 n (KD .i64 1 (Bh s))),ch,(Ag (q + 1)),cj,ck,ha.sb rfl,cl,(cn.sel [1,2] rfl),d⟩
   ·refine Bc (bf ?_)
    refine Am fun _ co=>AR B2 [] aj ax fun cp _ cq ar=>?_
    have u:=KeepX.refl cp []
    refine Ax 0 rfl b u (Ax 1 rfl b u (Ax 2 rfl b u (Ad 3 rfl b u (LU (e:=Ao) (l:=j) Tryz.underlying36 rfl rfl (ar.own_ro (i:=0) rfl) (Ad 4 rfl b u (GS rfl rfl rfl (bB d fun c6 cr d=>(Ad 5 rfl b u (Bv (e:=Ao) (i:=0) Tryz.underlying36 rfl rfl rfl ar rfl cr ?_)))))))))
    rintro c7 _ rfl cs c8
    refine Ad 6 rfl b u (BJ A4 rfl (cs.kx0) rfl (Ad 7 rfl b u (AD rfl rfl (Ad 8 rfl b u (AD rfl rfl (Ba (co (Aw (rt hQ rfl rfl (by cases d; exact ⟨o,y,rfl,cq,ar.sel [1] rfl⟩))))))))))
theorem Oq (a:Ae) (c:(List Int)) (d:Ac) (h:RO Ao a d c) (r:(List Int)) (b:IE c = some r) :
  A1 52 [d] a fun e w'=>∃ (f:Ac) (j:An),e = .returned f ∧ Bl a w' ∧ Sp a w' [Ab Ao j f r]:=by
 refine cm Tryz.func52 Tryz.ntmps52 rfl fun Q k x m n=>?_
 unfold IE at b
 refine Al 1 rfl (Ak fun _ o=>(Bb (vs:=[]) (l:=[]) Ca Tryz.underlying36 rfl rfl rfl rfl rfl rfl m n fun y z p _ g q=>(wp 1 rfl (bB b fun u9 s b=>(AE (i:=0) (S:=(· < p.heap.size)) Ca Tryz.underlying36 rfl rfl rfl g q rfl (h.ro g) s fun t u ab _ v w=>(Aq 1 rfl (o (Aw (rt k rfl rfl (by cases b; exact ⟨t,u,rfl,v,w.sel [0] rfl⟩))))))))))
theorem Ns (h:Ae) (j:Ae4) (k:Ac) (x:RO Ar h k j) (l:Ae4) (m:Ac) (y:RO Ar h m l) (a:Int) (n:(List Int)) (o:Ac) (z:RO Ao h o n) (r:(Ae4 × Ae4 × Int × (List Int))) (b:Ib j l a n = some r) :
  A1 142 [k,m,(iv a),o] h fun e w'=>∃ (p:Ac) (G0:An) (q:Ac) (G1:An) (s:Ac) (G2:An),e = .returned (.agg #[p,q,(iv r.2.2.1),s]) ∧ Bl h w' ∧ Sp h w' [Ab Ar G0 p r.1,Ab Ar G1 q r.2.1,Ab Ao G2 s r.2.2.2]:=by
 refine cm Tryz.func142 Tryz.ntmps142 rfl fun Q hQ hP hB hS=>?_
 unfold Ib at b
 refine Ak fun _ ag=>Ep Bp rfl hB hS fun b2 w3 _ t ai=>Ah (ag (Ak fun _ aj=>(wp 1 rfl (bB b fun u8 ak b=>(En rfl Tryz.call90 t ai (IM w3 j k (x.ro t) _ ak) rfl fun c al am _ _ u an=>(wp 1 rfl (bB b fun a0 ao b=>(En rfl Tryz.call90 u an (IM am l m (y.ro u) _ ao) rfl fun d ap aq _ _ v ar=>(wp 2 rfl (bB b fun a1 au b=>(En rfl Tryz.call52 v ar (Oq aq n o (z.ro v) _ au) rfl fun f av a2 _ _ aw g=>(DY (zs:=[(.slice none 0 0),(.slice none 0 0),(iv 0),(.slice none 0 0)]) (out:=[c,d,(iv a),f]) (vs:=[c,d,(iv a),f]) (css:=[[c],[d],[(iv a)],[f]]) Bp Pw rfl rfl (by simp only [List.map_cons,List.map_nil,Cl ((g.own_ro (i:=2) rfl).one),Cl ((g.own_ro (i:=1) rfl).one),Cl ((g.own_ro (i:=0) rfl).one)] <;> rfl) rfl rfl (BC (i:=3) (vs:=[c,d,(iv a),f]) (cs':=[c,d,(iv a),f]) Bp rfl rfl rfl rfl aw g rfl rfl ⟨(g.own_ro (i:=2) rfl).one,(g.own_ro (i:=1) rfl).one,rfl,(g.own_ro (i:=0) rfl).one,trivial⟩ rfl fun a3 _ ax w=>(Ah (aj (Aw ?_))))))))))))))))
 obtain rfl:=Option.some.inj b
 exact J9 (vs:=[(.agg #[c,d,(iv a),f])]) hQ rfl ⟨Hh (i:=3) Bp rfl w rfl rfl rfl,trivial⟩ ⟨c,al,d,ap,f,av,rfl,ax,w.sel [2,1,0] rfl⟩
theorem LA (b:Ae) (c:Ae4) (d:Ac) (p:RO Ar b d c) (f:Ae4) (g:Ac) (q:RO Ar b g f) (h:Int) (r:((Ae4 × Ae4 × Int × (List Int)) × Bool)) (a:Gu c f h = some r) :
  A1 96 [d,g,(iv h)] b fun e w'=>∃ (u:Ac) (G0:An) (v:Ac) (G1:An) (w:Ac) (G2:An),e = .returned (.tuple #[(.agg #[u,v,(iv r.1.2.2.1),w]),(.bool r.2)]) ∧ Bl b w' ∧ Sp b w' [Ab Ar G0 u r.1.1,Ab Ar G1 v r.1.2.1,Ab Ao G2 w r.1.2.2.2]:=by
 refine cm Tryz.func96 Tryz.ntmps96 rfl fun Q x hP hB hS=>?_
 unfold Gu at a
 refine Ak fun _ aj=>Ep Bp rfl hB hS fun b2 w3 _ s al=>Aq 1 rfl (aj (Am fun _ am=>(Ak fun _ an=>(wp 3 rfl (bB a fun u9 ao a=>(Bs rfl Tryz.call139 s al (PC w3 c d (p.ro s) f g (q.ro s) h _ ao) rfl fun ap _ j y=>(Aq 1 rfl (an (A2 rfl a (fun _ a=>?_) (fun _ a=>?_))))))))))
 ·refine Ak fun _ aq=>?_
  refine DY (zs:=[(.slice none 0 0),(.slice none 0 0),(iv 0),(.slice none 0 0)]) (out:=[(.slice none 0 0),(.slice none 0 0),(iv 0),(.slice none 0 0)]) (vs:=[]) (css:=[]) Bp Pw rfl rfl rfl rfl rfl (Gq 0 Bp rfl rfl j y rfl rfl rfl fun bi _ ar z=>(Aq 1 rfl (aq (Aw ?_))))
  have au:=z.push0 (r:=Ab Ar [] (.slice none 0 0) []) rfl fun _=>.inl ⟨rfl,rfl,rfl⟩
  have av:=au.push0 (r:=Ab Ar [] (.slice none 0 0) []) rfl fun _=>.inl ⟨rfl,rfl,rfl⟩
  have aw:=av.push0 (r:=Ab Ao [] (.slice none 0 0) []) rfl fun _=>.inl ⟨rfl,rfl,rfl⟩
  obtain rfl:=Option.some.inj a
  exact J9 (vs:=[(.agg #[(.slice none 0 0),(.slice none 0 0),(iv 0),(.slice none 0 0)]),(.bool false)]) x rfl ⟨Hh (i:=0) Bp rfl z rfl rfl rfl,Ki rfl,trivial⟩ ⟨(.slice none 0 0),[],(.slice none 0 0),[],(.slice none 0 0),[],rfl,ar,aw.sel [2,1,0] rfl⟩
 ·refine Au (am ?_)
  refine Ak fun _ ax=>wp 2 rfl (bB a fun ay az a=>(En rfl Tryz.call141 j y (UN ap c d (p.ro j) f g (q.ro j) _ az) rfl fun a0 bj a1 _ _ a2 aa=>(bB a fun a3 a4 a=>(En rfl Tryz.call140 a2 aa (UE a1 ay a0 (aa.own_ro (i:=0) rfl) _ a4) rfl fun a5 bk a6 _ _ k ab=>(Aq 5 rfl (ax (Ak fun _ a7=>(wp 4 rfl (bB a fun t a8 a=>(A7 rfl Tryz.call142 (Ns a6 c d (p.ro k) f g (q.ro k) h a3.1 a5 (ab.own_ro (i:=0) rfl) _ a8) rfl ?_))))))))))
  rintro _ bl ⟨l,a9,m,ba,n,bb,rfl,ac,bc⟩
  refine ⟨_,rfl,?_⟩
  have bd:=tm k ac
  have o:=ab.join ac bc k.size
  refine BC (i:=5) (vs:=[l,m,(iv t.2.2.1),n]) (cs':=[l,m,(iv t.2.2.1),n]) Bp rfl rfl rfl rfl bd o rfl rfl ⟨(o.own_ro (i:=0) rfl).one,(o.own_ro (i:=1) rfl).one,rfl,(o.own_ro (i:=2) rfl).one,trivial⟩ rfl fun bm _ be ad=>Aq 1 rfl (a7 (Aw ?_))
  obtain rfl:=Option.some.inj a
  exact J9 (vs:=[(.agg #[l,m,(iv t.2.2.1),n]),(.bool true)]) x rfl ⟨Hh (i:=5) Bp rfl ad rfl rfl rfl,Ki rfl,trivial⟩ ⟨l,a9,m,ba,n,bb,rfl,be,ad.sel [0,1,2] rfl⟩
theorem Xf (c:Ae) (d:(List Int)) (j:Ac) (n:RO Ao c j d) (f:Int) (r:Bool) (b:Lc d f = some r) :
  A1 226 [j,(iv f)] c fun e w'=>e = .returned (.bool r) ∧ Bl c w':=by
 refine cm Tryz.func226 Tryz.ntmps226 rfl fun Q o hP q s=>?_
 unfold Lc at b
 refine Al 1 rfl (Am fun _ t=>(Ak fun _ u=>(wp 1 rfl (BQ n Tryz.underlying36 rfl (Aq 1 rfl (u (Az (AN (fun m a l=>∃ (h:Int),St 17 [(1,(iv f)),(7,j),(8,(iv (List.length d:Int))),(9,(iv h))] a ∧ Bl c l ∧ Sp c l [] ∧ Gf d f m h = some r) FU ?_ ?_))))))))
 ·exact fun a ha=>⟨0,ha.sb rfl,q,(s.sel [] rfl),b⟩
 ·rintro g a l ⟨h,ha,i,v,b⟩ ad w
  refine BB ?_ ha
  cases g with
  | zero=>exact Be b
  | succ g =>
   obtain ⟨ae,p⟩:∃ k,k = Gf d f g:=⟨_,rfl⟩
   rw [Gf,← p] at b
   refine Al 1 rfl (Am fun _ x=>(A2 rfl b (fun _ b=>?_) (fun _ b=>?_)))
   ·refine Au (x ?_)
    refine Am fun _ y=>Az (Ak fun _ z=>(bB b fun af aa b=>(BM (e:=Ao) Tryz.underlying36 rfl rfl rfl n aa ?_)))
    rintro ag _ rfl ab
    refine BV A4 rfl (ab.ro i) rfl (Aq 1 rfl (z (Al 3 rfl (A2 rfl b (fun _ b=>?_) (fun _ b=>?_)))))
    ·refine Al 1 rfl ?_
     refine Aw (rt o rfl rfl (by cases b; exact ⟨rfl,i⟩))
    ·refine Au (y ?_)
     refine As (Aq 2 rfl ?_)
     rw [p] at b
     exact fun a ha=>w a _ g (AB g) ⟨(Ag (h + 1)),ha.sb rfl,i,(v.sel [] rfl),b⟩
   ·refine Bc (t ?_)
    refine Al 1 rfl (Aw (rt o rfl rfl (by cases b; exact ⟨rfl,i⟩)))
end Go.Proofs.YtellehgihceicaaGreatDoor
