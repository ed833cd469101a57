/-
  THE WALKS of functions of this seat, by program (gen.py, prune.py).
-/
import Derived.Test.YtellehgihceicaaGreatDoorBld
set_option linter.unusedVariables false
set_option linter.unusedSimpArgs false
set_option maxRecDepth 100000
set_option maxHeartbeats 1600000
namespace Go.Proofs.YtellehgihceicaaGreatDoor
open Go Go.RowKit
theorem U6 (b:Ae)  (r:(Ae1 × Ae1 × Int × Ae1 × Ae2 × Ae4 × (List Int) × (List Int) × Int)) (h:Lf  = some r) :
  A1 63 [] b fun e w'=>∃ (j:Nat) (m:Al),e = .returned (.pointer (some ⟨j,0,none⟩)) ∧ Bl b w' ∧ Sp b w' [A2 B3 74 m j r]:=by
 refine cm Tryz.func63 Tryz.ntmps63 rfl fun Q n hP o p=>?_
 unfold Lf at h
 refine An 1 rfl (Ak fun _ q=>(DV (zs:=[(iv 0),(iv 0)]) (out:=[(iv 0),(iv 0)]) (vs:=[]) (css:=[]) Bs L4 rfl rfl rfl rfl rfl (Bc (vs:=[(.agg #[(iv 0),(iv 0)])]) (l:=[(0,0)]) CD Tryz.underlying26 rfl rfl rfl rfl rfl rfl o p fun c F4 w5 _ s t=>(DV (zs:=[(iv 0),(iv 0)]) (out:=[(iv 0),(iv 0)]) (vs:=[]) (css:=[]) Bs L4 rfl rfl rfl rfl rfl (Bc (vs:=[(.agg #[(iv 0),(iv 0)])]) (l:=[(0,0)]) CD Tryz.underlying26 rfl rfl rfl rfl rfl rfl s t fun d ak al _ u v=>(DV (zs:=[(iv 0),(iv 0)]) (out:=[(iv 4),(iv 120)]) (vs:=[(iv 4),(iv 120)]) (css:=[[(iv 4)],[(iv 120)]]) GL VG rfl rfl rfl rfl rfl (Bc (vs:=[(.agg #[(iv 4),(iv 120)])]) (l:=[(4,120)]) GH Tryz.underlying31 rfl rfl rfl rfl rfl rfl u v fun f am an _ w x=>(DV (zs:=[(iv 0),(iv 0),(iv 0)]) (out:=[(iv (-1)),(iv 0),(iv 0)]) (vs:=[(iv (-1))]) (css:=[[(iv (-1))]]) L2 VF rfl rfl rfl rfl rfl (Bc (vs:=[(.agg #[(iv (-1)),(iv 0),(iv 0)])]) (l:=[((-1),0,0)]) GG Tryz.underlying41 rfl rfl rfl rfl rfl rfl w x fun g ao ap _ y a=>(DV (zs:=[(.slice none 0 0),(.slice none 0 0),(iv 0),(.slice none 0 0),(.slice none 0 0),(.slice none 0 0),(.slice none 0 0),(.slice none 0 0),(iv 0)]) (out:=[c,d,(iv 8),f,(.slice none 0 0),g,(.slice none 0 0),(.slice none 0 0),(iv 0)]) (vs:=[c,d,(iv 8),f,g]) (css:=[[c],[d],[(iv 8)],[f],[g]]) Adx Ad0 rfl rfl (by simp only [List.map_cons,List.map_nil,Ce ((a.own_ro (i:=3) rfl).one),Ce ((a.own_ro (i:=2) rfl).one),Ce ((a.own_ro (i:=1) rfl).one),Ce ((a.own_ro (i:=0) rfl).one)] <;> rfl) rfl rfl (CK rfl y a fun k z _ aa ab=>(Aq 1 rfl (q (Ay ?_))))))))))))))
 have ac:=ab.push0 (r:=Ab Az [] (.slice none 0 0) []) rfl fun _=>.inl ⟨rfl,rfl,rfl⟩
 have ad:=ac.push0 (r:=Ab Ar [] (.slice none 0 0) []) rfl fun _=>.inl ⟨rfl,rfl,rfl⟩
 have ae:=ad.push0 (r:=Ab Ar [] (.slice none 0 0) []) rfl fun _=>.inl ⟨rfl,rfl,rfl⟩
 obtain ⟨af,ag⟩:∃ F,Sp b z [A2 B3 74 F k ([(0,0)],[(0,0)],8,[(4,120)],[],[((-1),0,0)],[],[],0)]:=⟨_,DC (ae.sel [3,7,6,5,2,4,1,0] rfl)⟩
 refine rt n rfl rfl (by cases h; exact ⟨k,af,rfl,aa,ag.sel [0] rfl⟩)
theorem P3 (c:Ae) (d:(List Ai)) (f:Int) (r:(List (List Ai))) (b:FM d f = some r) :
  A1 73 [(.string (B1 d)),(.int .u8 f)] c fun e w'=>∃ (z:Ac) (G0:Al),e = .returned z ∧ Bl c w' ∧ Sp c w' [Ab Cy G0 z r]:=by
 refine cm Tryz.func73 Tryz.ntmps73 rfl fun Q hQ hP hB hS=>?_
 unfold FM at b
 refine An 1 rfl (An 1 rfl (An 1 rfl (Ap fun _ ak=>(An 1 rfl (A0 (AU (fun m a u=>∃ (j:(List (List Ai))) (n:Int) (g:Int) (o:Ac) (v:Al),St 34 [(0,(.string (B1 d))),(1,(.int .u8 f)),(5,o),(6,(iv n)),(7,(iv g))] a ∧ Bl c u ∧ Sp c u [Ab Cy v o j] ∧ EZ d f m j n g = some r) FU ?_ ?_))))))
 ·have al:=hS.push0 (r:=Ab Cy [] (.slice none 0 0) []) rfl fun _=>.inl ⟨rfl,rfl,rfl⟩
  exact fun a ha=>⟨[],0,0,(.slice none 0 0),[],ha.sb rfl,hB,(al.sel [0] rfl),b⟩
 ·rintro h a u ⟨j,n,g,o,v,ha,w,x,b⟩ bj am
  refine BE ?_ ha
  cases h with
  | zero=>exact Bg b
  | succ h =>
   obtain ⟨bk,aa⟩:∃ k,k = EZ d f h:=⟨_,rfl⟩
   rw [EZ,← aa] at b
   refine Ap fun _ an=>Ak fun _ ao=>wp 2 rfl (D4 Tryz.underlying9 rfl rfl (Aq 1 rfl (ao (A3 rfl b (fun _ b=>?_) (fun _ b=>?_)))))
   ·refine Au (an ?_)
    refine Ap fun ap aq=>?_
    obtain ⟨ar,au,b⟩:=Nn b
    have ab:∀ (p:(List (List Ai))) (q:Int) (s:Ac) (y:Al) (t:Ae) (_:ar p q = some r) (_:Bl c t) (_:Sp c t [Ab Cy y s p]),∀ a,St 34 [(0,(.string (B1 d))),(1,(.int .u8 f)),(5,s),(6,(iv q)),(7,(iv g))] a → ap a t:=by
     intro p q s y t b av aw
     subst au
     refine aq (As (Aq 3 rfl ?_))
     rw [aa] at b
     exact fun a ha=>am a _ h (AB h) ⟨p,q,(Ag (g + 1)),s,y,ha.sb rfl,av,(aw.sel [0] rfl),b⟩
    refine A0 (Ak fun _ ax=>(wp 2 rfl (bB b fun bl ay b=>(EN Tryz.underlying9 rfl rfl rfl ay (Aq 2 rfl (ax (A3 rfl b (fun _ b=>?_) (fun _ b=>?_))))))))
    ·refine Ak fun _ az=>?_
     refine wp 4 rfl (bB b fun ac a0 b=>(Kt Tryz.underlying9 rfl rfl a0 (.inr ⟨_,_,rfl,rfl⟩) (.inr ⟨_,_,rfl,rfl⟩) (Bc (vs:=[(.string (B1 ac))]) (l:=[ac]) I6 Tryz.underlying61 rfl rfl rfl rfl rfl rfl w x fun bm bn a1 _ a2 ad=>(bB b fun a3 a4 b=>(AF (i:=1) (S:=(· < a1.heap.size)) I6 Tryz.underlying61 rfl rfl rfl a2 ad rfl (ad.own_ro (i:=0) rfl) a4 fun a5 a6 bo _ a7 a8=>(Aq 1 rfl (az (As (Aq 3 rfl ?_)))))))))
     exact jx (ab a3 ((Ag (g + 1))) a5 a6 _ b a7 (a8.sel [1] rfl)) rfl
    ·refine Au ?_
     exact jx (ab j n o v _ b w (x.sel [0] rfl)) rfl
   ·refine Bd (ak ?_)
    refine Ak fun _ a9=>wp 3 rfl (bB b fun ae ba b=>(Kt Tryz.underlying9 rfl rfl ba (.inr ⟨_,_,rfl,rfl⟩) (.inl ⟨rfl,rfl⟩) (Bc (vs:=[(.string (B1 ae))]) (l:=[ae]) I6 Tryz.underlying61 rfl rfl rfl rfl rfl rfl w x fun bp bq bb _ bc af=>(bB b fun br bd b=>(AF (i:=1) (S:=(· < bb.heap.size)) I6 Tryz.underlying61 rfl rfl rfl bc af rfl (af.own_ro (i:=0) rfl) bd fun be bf bs _ bg bh=>(Aq 1 rfl (a9 (Ay (rt hQ rfl rfl (by cases b; exact ⟨be,bf,rfl,bg,bh.sel [1] rfl⟩))))))))))
theorem U7 (j:Ae) (h:(List Ai)) (r:((List (List Ai)) × Bool)) (c:JH h = some r) :
  A1 59 [(.string (B1 h))] j fun e w'=>∃ (s:Ac) (G0:Al),e = .returned (.tuple #[s,(.bool r.2)]) ∧ Bl j w' ∧ Sp j w' [Ab Cy G0 s r.1]:=by
 refine cm Tryz.func59 Tryz.ntmps59 rfl fun Q l hP m n=>?_
 unfold JH at c
 refine An 2 rfl (Ap fun _ ac=>(Ap fun K3 ae=>?_))
 obtain ⟨k8,ag,c⟩:=Cj c
 have o:∀ (p:Bool) (k:Ae) (_:k8 p = some r) (_:Bl j k) (_:Sp j k []),∀ a,St 31 [(0,(.string (B1 h))),(19,(.bool p))] a → K3 a k:=by
  intro p k c t u
  subst ag
  refine ae (A3 rfl c (fun _ c=>?_) (fun _ c=>?_))
  ·refine An 2 rfl ?_
   refine Ay ?_
   have ah:=u.push0 (r:=Ab Cy [] (.slice none 0 0) []) rfl fun _=>.inl ⟨rfl,rfl,rfl⟩
   refine rt l rfl rfl (by cases c; exact ⟨(.slice none 0 0),[],rfl,t,ah.sel [0] rfl⟩)
  ·refine Au (ac ?_)
   refine Ak fun _ ai=>wp 1 rfl (bB c fun v aj c=>(E6 rfl Tryz.call73 t u (P3 k h 10 _ aj) rfl fun az a0 a1 _ _ w g=>(Aq 1 rfl (ai (Ak fun _ ak=>(wp 2 rfl (BX (g.own_ro (i:=0) rfl) Tryz.underlying61 rfl (wp 1 rfl (bB c fun x q c=>(Nv (e:=Cy) Tryz.underlying61 rfl rfl (g.ok (i:=0) rfl:ownS Cy _ _ _ _).rd q (.inl ⟨rfl,rfl⟩) (.inr ⟨_,_,rfl,rfl⟩) fun y al am=>?_))))))))))
   have an:=al.mono fun b hb=>((g.get (i:=0) rfl).2.1 b hb).2
   refine Aq 1 rfl (ak (Ap fun _ ao=>(Ak fun _ ap=>(wp 1 rfl (BX an Tryz.underlying61 rfl (Aq 1 rfl (ap (A3 rfl c (fun _ c=>?_) (fun _ c=>?_)))))))))
   ·refine An 2 rfl ?_
    refine Ay ?_
    have aq:=g.push0 (r:=Ab Cy [] (.slice none 0 0) []) rfl fun _=>.inl ⟨rfl,rfl,rfl⟩
    refine rt l rfl rfl (by cases c; exact ⟨(.slice none 0 0),[],rfl,w,aq.sel [0] rfl⟩)
   ·refine Au (ao ?_)
    refine An 3 rfl (Ay ?_)
    obtain ⟨z,aa,ar,au⟩:=XG (g.ok (i:=0) rfl:ownS Cy _ _ _ _) (g.get (i:=0) rfl).1 am (VE q).1
    rw [show List.take ((Ag ((List.length v:Int) - 1)):Int).toNat v = x from (VE q).2.symm] at aa
    have av:=(g.sel [0] rfl).shrink (r':=Ab Cy z y x) ar au fun _ hk=>aa.keep hk
    refine rt l rfl rfl (by cases c; exact ⟨y,z,rfl,w,av.sel [0] rfl⟩)
 refine As (wp 1 rfl (D4 Tryz.underlying9 rfl rfl (wp 2 rfl ?_)))
 rcases bE (decide (2000 < (List.length h:Int))) with f | f
 ·replace c:=BA f c
  refine wo rfl f (wo rfl f (wo rfl f (Dn rfl rfl rfl (Dn rfl rfl rfl (Dn rfl rfl rfl (Dn rfl rfl rfl (Dn rfl rfl rfl (Dn rfl rfl rfl (wo rfl f (AA rfl rfl f rfl (Ah ?_)))))))))))
  exact jx (o true _ c m (n.sel [] rfl)) rfl
 ·replace c:=Cf f c
  refine wn rfl f (wp 1 rfl (wn rfl f (UO rfl rfl rfl (wn rfl f (wp 1 rfl ?_)))))
  rcases bE (h != []) with d | d
  ·replace c:=BA d c
   refine wn rfl d (wp 1 rfl (wn rfl d (wp 1 rfl (wn rfl d (D4 Tryz.underlying9 rfl rfl (wn rfl d (wp 1 rfl (wn rfl d (bB c fun aw ax c=>(EN Tryz.underlying9 rfl rfl rfl ax (wn rfl d (wp 1 rfl (wn rfl f (AA rfl rfl d rfl (A9 rfl rfl f rfl (Ah ?_))))))))))))))))
   exact jx (o (((UInt8.toNat aw:Int) != 10)) _ c m (n.sel [] rfl)) rfl
  ·replace c:=Cf d c
   refine wo rfl d (wo rfl d (wo rfl d (wo rfl d (wo rfl d (wo rfl d (wn rfl f (A9 rfl rfl d rfl (A9 rfl rfl f rfl (Ah ?_)))))))))
   exact jx (o false _ c m (n.sel [] rfl)) rfl
theorem U8 (d:Ae) (c:(List Ai)) (r:Int) (b:G8 c = some r) :
  A1 75 [(.string (B1 c))] d fun e w'=>e = .returned (iv r) ∧ Bl d w':=by
 refine cm Tryz.func75 Tryz.ntmps75 rfl fun Q g hP k l=>?_
 unfold G8 at b
 refine An 1 rfl (Ap fun _ ac=>(An 1 rfl (A0 (Ap fun K4 ae=>?_))))
 obtain ⟨k9,ag,b⟩:=Cj b
 have m:∀ (u:Bool) (n:Ae) (_:k9 u = some r) (_:Bl d n) (_:Sp d n []),∀ a,St 26 [(3,(.string (B1 c))),(4,(.bool u))] a → K4 a n:=by
  intro u n b f h
  subst ag
  refine ae (A3 rfl b (fun _ b=>?_) (fun _ b=>?_))
  ·refine An 1 rfl ?_
   refine Ay (rt g rfl rfl (by cases b; exact ⟨rfl,f⟩))
  ·refine Ap fun ah ai=>?_
   obtain ⟨aj,ak,b⟩:=Cj b
   have i:∀ (v:Bool) (o:Ae) (_:aj v = some r) (_:Bl d o) (_:Sp d o []),∀ a,St 26 [(3,(.string (B1 c))),(9,(.bool v))] a → ah a o:=by
    intro v o b j p
    subst ak
    refine ai (A3 rfl b (fun _ b=>?_) (fun _ b=>?_))
    ·refine An 1 rfl ?_
     refine Ay (rt g rfl rfl (by cases b; exact ⟨rfl,j⟩))
    ·refine Ap fun al am=>?_
     obtain ⟨an,ao,b⟩:=Cj b
     have q:∀ (w:Bool) (s:Ae) (_:an w = some r) (_:Bl d s) (_:Sp d s []),∀ a,St 26 [(3,(.string (B1 c))),(16,(.bool w))] a → al a s:=by
      intro w s b x aa
      subst ao
      refine am (A3 rfl b (fun _ b=>?_) (fun _ b=>?_))
      ·refine An 1 rfl ?_
       refine Ay (rt g rfl rfl (by cases b; exact ⟨rfl,x⟩))
      ·refine Ap fun ap aq=>?_
       obtain ⟨ar,au,b⟩:=Cj b
       have ab:∀ (y:Bool) (t:Ae) (_:ar y = some r) (_:Bl d t) (_:Sp d t []),∀ a,St 26 [(3,(.string (B1 c))),(21,(.bool y))] a → ap a t:=by
        intro y t b z a9
        subst au
        refine aq (A3 rfl b (fun _ b=>?_) (fun _ b=>?_))
        ·refine An 1 rfl ?_
         refine Ay (rt g rfl rfl (by cases b; exact ⟨rfl,z⟩))
        ·refine Ak fun _ av=>?_
         refine AP rfl rfl rfl (Aq 1 rfl (av (A3 rfl b (fun _ b=>?_) (fun _ b=>?_))))
         ·refine An 1 rfl ?_
          refine Ay (rt g rfl rfl (by cases b; exact ⟨rfl,z⟩))
         ·refine Au (ac ?_)
          refine An 1 rfl (Ay (rt g rfl rfl (by cases b; exact ⟨rfl,z⟩)))
       refine Ak fun _ aw=>AP rfl rfl rfl (Aq 1 rfl (aw (A3 rfl b (fun _ b=>?_) (fun _ b=>?_))))
       ·refine Au ?_
        exact jx (ab ((c == [112,108,97,99,101])) _ b x (aa.sel [] rfl)) rfl
       ·refine As ?_
        refine AP rfl rfl rfl (Aq 1 rfl ?_)
        exact jx (ab ((c == [118,101,114,115,105,111,110])) _ b x (aa.sel [] rfl)) rfl
     refine Ak fun _ ax=>AP rfl rfl rfl (Aq 1 rfl (ax (A3 rfl b (fun _ b=>?_) (fun _ b=>?_))))
     ·refine Au ?_
      exact jx (q ((c == [115,112,111,116])) _ b j (p.sel [] rfl)) rfl
     ·refine Ak fun _ ay=>?_
      refine AP rfl rfl rfl (Aq 1 rfl (ay (A3 rfl b (fun _ b=>?_) (fun _ b=>?_))))
      ·refine Au ?_
       exact jx (q ((c == [115,111,117,110,100])) _ b j (p.sel [] rfl)) rfl
      ·refine Ak fun _ az=>?_
       refine AP rfl rfl rfl (Aq 1 rfl (az (A3 rfl b (fun _ b=>?_) (fun _ b=>?_))))
       ·refine Au ?_
        exact jx (q ((c == [109,101,97,115,117,114,101])) _ b j (p.sel [] rfl)) rfl
       ·refine As ?_
        refine AP rfl rfl rfl (Aq 1 rfl ?_)
        exact jx (q ((c == [119,104,111])) _ b j (p.sel [] rfl)) rfl
   refine Ak fun _ a0=>AP rfl rfl rfl (Aq 1 rfl (a0 (A3 rfl b (fun _ b=>?_) (fun _ b=>?_))))
   ·refine Au ?_
    exact jx (i ((c == [99,111,117,110,116,115])) _ b f (h.sel [] rfl)) rfl
   ·refine Ak fun _ a1=>?_
    refine AP rfl rfl rfl (Aq 1 rfl (a1 (A3 rfl b (fun _ b=>?_) (fun _ b=>?_))))
    ·refine Au ?_
     exact jx (i ((c == [99,108,111,115,101])) _ b f (h.sel [] rfl)) rfl
    ·refine Ak fun _ a2=>?_
     refine AP rfl rfl rfl (Aq 1 rfl (a2 (A3 rfl b (fun _ b=>?_) (fun _ b=>?_))))
     ·refine Au ?_
      exact jx (i ((c == [107,105,110,100])) _ b f (h.sel [] rfl)) rfl
     ·refine Ak fun _ a3=>?_
      refine AP rfl rfl rfl (Aq 1 rfl (a3 (A3 rfl b (fun _ b=>?_) (fun _ b=>?_))))
      ·refine Au ?_
       exact jx (i ((c == [116,101,120,116])) _ b f (h.sel [] rfl)) rfl
      ·refine Ak fun _ a4=>?_
       refine AP rfl rfl rfl (Aq 1 rfl (a4 (A3 rfl b (fun _ b=>?_) (fun _ b=>?_))))
       ·refine Au ?_
        exact jx (i ((c == [116,105,109,101])) _ b f (h.sel [] rfl)) rfl
       ·refine As ?_
        refine AP rfl rfl rfl (Aq 1 rfl ?_)
        exact jx (i ((c == [115,116,97,116,101])) _ b f (h.sel [] rfl)) rfl
 refine Ak fun _ a5=>AP rfl rfl rfl (Aq 1 rfl (a5 (A3 rfl b (fun _ b=>?_) (fun _ b=>?_))))
 ·refine Au ?_
  exact jx (m ((c == [109,105,114,114,111,114])) _ b k (l.sel [] rfl)) rfl
 ·refine Ak fun _ a6=>?_
  refine AP rfl rfl rfl (Aq 1 rfl (a6 (A3 rfl b (fun _ b=>?_) (fun _ b=>?_))))
  ·refine Au ?_
   exact jx (m ((c == [107,101,101,112])) _ b k (l.sel [] rfl)) rfl
  ·refine Ak fun _ a7=>?_
   refine AP rfl rfl rfl (Aq 1 rfl (a7 (A3 rfl b (fun _ b=>?_) (fun _ b=>?_))))
   ·refine Au ?_
    exact jx (m ((c == [115,117,109])) _ b k (l.sel [] rfl)) rfl
   ·refine As ?_
    refine AP rfl rfl rfl (Aq 1 rfl ?_)
    exact jx (m ((c == [108,101,97,115,116])) _ b k (l.sel [] rfl)) rfl
theorem Cd (d:Ae) (f:Int) (h:Int) (i:Int) (r:Bool) (b:BO f h i = some r) :
  A1 77 [(iv f),(iv h),(iv i)] d fun e w'=>e = .returned (.bool r) ∧ Bl d w':=by
 refine cm Tryz.func77 Tryz.ntmps77 rfl fun Q n u k l=>?_
 unfold BO at b
 refine An 1 rfl (Ap fun o p=>?_)
 obtain ⟨q,s,b⟩:=Cj b
 have m:∀ (j:Bool) (g:Ae) (_:q j = some r) (_:Bl d g) (_:Sp d g []),∀ a,St 15 [(6,(.bool j))] a → o a g:=by
  intro j g b t v
  subst s
  refine p (Ay (rt n rfl rfl (by cases b; exact ⟨rfl,t⟩)))
 refine As (wp 4 rfl ?_)
 rcases bE (decide (h ≤ f)) with c | c
 ·replace b:=BA c b
  refine wn rfl c (wp 1 rfl (wn rfl c (wp 1 rfl (wn rfl c (wp 1 rfl (AA rfl rfl c rfl (Aq 1 rfl ?_)))))))
  exact jx (m ((decide (f ≤ i))) _ b k (l.sel [] rfl)) rfl
 ·replace b:=Cf c b
  refine wo rfl c (wo rfl c (wo rfl c (A9 rfl rfl c rfl (Aq 1 rfl ?_))))
  exact jx (m false _ b k (l.sel [] rfl)) rfl
theorem V5 (g:Ae) (h:(List Ai)) (r:Int) (b:Kl h = some r) :
  A1 76 [(.string (B1 h))] g fun e w'=>e = .returned (iv r) ∧ Bl g w':=by
 refine cm Tryz.func76 Tryz.ntmps76 rfl fun Q p hP hB hS=>?_
 unfold Kl at b
 refine An 1 rfl (Ap fun _ af=>(Ap fun K3 ah=>?_))
 obtain ⟨k8,aj,b⟩:=Cj b
 have q:∀ (s:Bool) (n:Ae) (_:k8 s = some r) (_:Bl g n) (_:Sp g n []),∀ a,St 44 [(0,(.string (B1 h))),(18,(.bool s))] a → K3 a n:=by
  intro s n b y ak
  subst aj
  refine ah (A3 rfl b (fun _ b=>?_) (fun _ b=>?_))
  ·refine An 1 rfl ?_
   refine Ay (rt p rfl rfl (by cases b; exact ⟨rfl,y⟩))
  ·refine Au (af ?_)
   refine An 1 rfl (Ap fun _ al=>(An 1 rfl (A0 (AU (fun m a t=>∃ (i:Int) (j:Int),St 44 [(0,(.string (B1 h))),(3,(iv i)),(4,(iv j))] a ∧ Bl g t ∧ Sp g t [] ∧ FD h m i j = some r) FU ?_ ?_))))
   ·exact fun a ha=>⟨0,0,ha.sb rfl,y,(ak.sel [] rfl),b⟩
   ·rintro l a t ⟨i,j,ha,u,z,b⟩ a9 am
    refine BE ?_ ha
    cases l with
    | zero=>exact Bg b
    | succ l =>
     obtain ⟨ba,aa⟩:∃ k,k = FD h l:=⟨_,rfl⟩
     rw [FD,← aa] at b
     refine Ap fun _ an=>Ak fun _ ao=>wp 2 rfl (D4 Tryz.underlying9 rfl rfl (Aq 1 rfl (ao (A3 rfl b (fun _ b=>?_) (fun _ b=>?_)))))
     ·refine Au (an ?_)
      refine Ap fun _ ap=>A0 (Ap fun _ aq=>(Ap fun ar au=>?_))
      obtain ⟨av,aw,b⟩:=Cj b
      have ab:∀ (v:Bool) (o:Ae) (_:av v = some r) (_:Bl g o) (_:Sp g o []),∀ a,St 44 [(0,(.string (B1 h))),(3,(iv i)),(4,(iv j)),(34,(.bool v))] a → ar a o:=by
       intro v o b ac ax
       subst aw
       refine au (A3 rfl b (fun _ b=>?_) (fun _ b=>?_))
       ·refine An 1 rfl ?_
        refine Ay (rt p rfl rfl (by cases b; exact ⟨rfl,ac⟩))
       ·refine Au (aq ?_)
        refine As (wp 4 rfl (bB b fun ay az b=>(EN Tryz.underlying9 rfl rfl rfl az (wp 1 rfl (DU Tryz.underlying5 Tryz.underlying3 rfl rfl (Aq 2 rfl (ap (As (Aq 3 rfl ?_)))))))))
        rw [aa] at b
        exact fun a ha=>am a _ l (AB l) ⟨(Ag ((Ag (10 * i)) + (Ag (Mv ((UInt8.toNat ay:Int) - 48))))),(Ag (j + 1)),ha.sb rfl,ac,(ax.sel [] rfl),b⟩
      refine As (wp 2 rfl (bB b fun a0 a1 b=>(EN Tryz.underlying9 rfl rfl rfl a1 (wp 2 rfl ?_))))
      rcases bE (decide ((UInt8.toNat a0:Int) < 48)) with d | d
      ·replace b:=BA d b
       refine wo rfl d (wo rfl d (wo rfl d (wo rfl d (AA rfl rfl d rfl (Ah ?_)))))
       exact jx (ab true _ b u (z.sel [] rfl)) rfl
      ·replace b:=Cf d b
       refine wn rfl d (wp 1 rfl (wn rfl d (wp 1 rfl (wn rfl d (bB b fun a2 a3 b=>(EN Tryz.underlying9 rfl rfl rfl a3 (wn rfl d (wp 1 rfl (A9 rfl rfl d rfl (Ah ?_))))))))))
       exact jx (ab ((decide (57 < (UInt8.toNat a2:Int)))) _ b u (z.sel [] rfl)) rfl
     ·refine Bd (al ?_)
      refine An 2 rfl (Ay (rt p rfl rfl (by cases b; exact ⟨rfl,u⟩)))
 refine As (wp 1 rfl (D4 Tryz.underlying9 rfl rfl (bB b fun a4 a5 b=>(Bu rfl Tryz.call77 hB hS (Cd g (List.length h:Int) 1 6 _ a5) rfl fun bb _ w x=>(wp 2 rfl ?_)))))
 rcases bE (!a4) with c | c
 ·replace b:=BA c b
  refine wo rfl c (wo rfl c (wo rfl c (wo rfl c (Dn rfl rfl rfl (Dn rfl rfl rfl (Dn rfl rfl rfl (wo rfl c (AA rfl rfl c rfl (Ah ?_)))))))))
  exact jx (q true _ b w (x.sel [] rfl)) rfl
 ·replace b:=Cf c b
  refine wn rfl c (wp 1 rfl (wn rfl c (bB b fun a6 a7 b=>(EN Tryz.underlying9 rfl rfl rfl a7 (wn rfl c (wp 1 rfl (wn rfl c (wp 1 rfl ?_))))))))
  rcases bE ((UInt8.toNat a6:Int) == 48) with f | f
  ·replace b:=BA f b
   refine wn rfl f (wp 1 rfl (wn rfl f (D4 Tryz.underlying9 rfl rfl (wn rfl f (wp 1 rfl (wn rfl c (AA rfl rfl f rfl (A9 rfl rfl c rfl (Ah ?_)))))))))
   exact jx (q ((decide (1 < (List.length h:Int)))) _ b w (x.sel [] rfl)) rfl
  ·replace b:=Cf f b
   refine wo rfl f (wo rfl f (wo rfl f (wn rfl c (A9 rfl rfl f rfl (A9 rfl rfl c rfl (Ah ?_))))))
   exact jx (q false _ b w (x.sel [] rfl)) rfl
theorem IG (a:Ae) (c:Ae1) (d:Ac) (h:RO Ao a d c) (r:Ae1) (b:Gl c = some r) :
  A1 90 [d] a fun e w'=>∃ (f:Ac) (j:Al),e = .returned f ∧ Bl a w' ∧ Sp a w' [Ab Ao j f r]:=by
 refine cm Tryz.func90 Tryz.ntmps90 rfl fun Q k x m n=>?_
 unfold Gl at b
 refine An 1 rfl (Ak fun _ o=>(Bc (vs:=[]) (l:=[]) CD Tryz.underlying26 rfl rfl rfl rfl rfl rfl m n fun y z p _ g q=>(wp 1 rfl (bB b fun u9 s b=>(AF (i:=0) (S:=(· < p.heap.size)) CD Tryz.underlying26 rfl rfl rfl g q rfl (h.ro g) s fun t u ab _ v w=>(Aq 1 rfl (o (Ay (rt k rfl rfl (by cases b; exact ⟨t,u,rfl,v,w.sel [0] rfl⟩))))))))))
theorem Nh (f:Ae) (d:(Int × Int)) (r:Bool) (b:HV d = some r) :
  A1 190 [(.agg #[(iv d.1),(iv d.2)])] f fun e w'=>e = .returned (.bool r) ∧ Bl f w':=by
 refine cm Tryz.func190 Tryz.ntmps190 rfl fun Q m hP n o=>?_
 unfold HV at b
 refine Ak fun _ p=>CK rfl n o fun b2 q _ s j=>Aq 1 rfl (p (Ap fun t u=>?_))
 obtain ⟨v,w,b⟩:=Cj b
 have k:∀ (h:Bool) (g:Ae) (_:v h = some r) (_:Bl f g) (_:Sp f g []),∀ a,St 11 [(2,(.bool h))] a → t a g:=by
  intro h g b x ah
  subst w
  refine u (Ay (rt m rfl rfl (by cases b; exact ⟨rfl,x⟩)))
 refine As (Bp CJ rfl (AO 0 A4 rfl j rfl rfl (bB b fun y z b=>(Bu rfl Tryz.call77 s j (Cd q d.1 0 1280 _ z) rfl fun aa _ l i=>(wp 1 rfl ?_)))))
 rcases bE y with c | c
 ·replace b:=BA c b
  refine wn rfl c (Bp CI rfl (wn rfl c (AO 0 A4 rfl i rfl rfl (wn rfl c (bB b fun ab ac b=>(Bu rfl Tryz.call77 l i (Cd aa d.2 0 672 _ ac) rfl fun ai _ ad ae=>(AA rfl rfl c rfl (Aq 1 rfl ?_))))))))
  exact jx (k ab _ b ad (ae.sel [] rfl)) rfl
 ·replace b:=Cf c b
  refine wo rfl c (wo rfl c (wo rfl c (A9 rfl rfl c rfl (Aq 1 rfl ?_))))
  exact jx (k false _ b l (i.sel [] rfl)) rfl
theorem Ji (c:Ae) (d:Ae1) (g:Ac) (l:RO Ao c g d) (r:Bool) (b:FJ d = some r) :
  A1 132 [g] c fun e w'=>e = .returned (.bool r) ∧ Bl c w':=by
 refine cm Tryz.func132 Tryz.ntmps132 rfl fun Q p hP hB hS=>?_
 unfold FJ at b
 refine An 1 rfl (Ap fun _ ah=>(Ak fun _ ai=>(wp 1 rfl (BX l Tryz.underlying26 rfl (Aq 1 rfl (ai (A0 (AU (fun m a n=>∃ (f:Int),St 33 [(0,g),(7,g),(8,(iv (List.length d:Int))),(9,(iv f))] a ∧ Bl c n ∧ Sp c n [] ∧ El d m f = some r) FU ?_ ?_))))))))
 ·exact fun a ha=>⟨0,ha.sb rfl,hB,(hS.sel [] rfl),b⟩
 ·rintro i a n ⟨f,ha,q,aj,b⟩ bi ak
  refine BE ?_ ha
  cases i with
  | zero=>exact Bg b
  | succ i =>
   obtain ⟨w,x⟩:∃ k,k = El d i:=⟨_,rfl⟩
   rw [El,← x] at b
   refine An 1 rfl (Ap fun _ al=>(A3 rfl b (fun _ b=>?_) (fun _ b=>?_)))
   ·refine Au (al ?_)
    refine Ap fun _ am=>A0 (Ak fun _ an=>(wp 1 rfl (bB b fun h ao b=>(BP (e:=Ao) Tryz.underlying26 rfl rfl rfl l ao ?_))))
    rintro bj _ rfl ap
    refine BZ Bs rfl (ap.ro q) rfl (Ei Bs rfl q aj fun y bk _ aq ar=>(wp 1 rfl (Gj 0 Bs rfl rfl aq ar rfl rfl rfl fun au _ av z=>(Ah (an (Ap fun _ aw=>(Ak fun _ ax=>(AO 0 Bs rfl z rfl rfl (bB b fun bl ay b=>(Bu rfl Tryz.call190 av z (Nh au h _ ay) rfl fun bm _ aa az=>(Aq 1 rfl (ax (A3 rfl b (fun _ b=>?_) (fun _ b=>?_))))))))))))))
    ·refine An 1 rfl ?_
     refine Ay (rt p rfl rfl (by cases b; exact ⟨rfl,aa⟩))
    ·refine Au (aw ?_)
     refine Ak fun _ a0=>wp 2 rfl (bB b fun s a1 b=>(PB (e:=Ao) Tryz.underlying26 rfl rfl l a1 (.inl ⟨rfl,rfl⟩) (.inr ⟨_,_,rfl,rfl⟩) fun a2 ab=>(BX ab Tryz.underlying26 rfl (Aq 1 rfl (a0 (A0 (AU (fun m a t=>∃ (o:Int),St 33 [(0,g),(4,(.pointer (some ⟨y,0,none⟩))),(7,g),(8,(iv (List.length d:Int))),(9,(iv f)),(19,a2),(20,(iv (List.length s:Int))),(21,(iv o))] a ∧ Bl c t ∧ Sp c t [A5 y 79 [(iv h.1),(iv h.2)]] ∧ FE s h w f m o = some r) FU ?_ ?_)))))))
     ·exact fun a ha=>⟨0,ha.sb rfl,aa,(az.sel [0] rfl),b⟩
     ·rintro j a t ⟨o,ha,u,ac,b⟩ bn a3
      refine BE ?_ ha
      cases j with
      | zero=>exact Bg b
      | succ j =>
       obtain ⟨bo,ad⟩:∃ k,k = FE s h w f j:=⟨_,rfl⟩
       rw [FE,← ad] at b
       refine An 1 rfl (Ap fun _ a4=>(A3 rfl b (fun _ b=>?_) (fun _ b=>?_)))
       ·refine Au (a4 ?_)
        refine Ap fun _ a5=>A0 (Ak fun _ a6=>(bB b fun a7 a8 b=>(BP (e:=Ao) Tryz.underlying26 rfl rfl rfl ab a8 ?_)))
        rintro bp _ rfl a9
        refine BZ Bs rfl (a9.ro u) rfl (Ei Bs rfl u ac fun bq br _ ba bb=>(Gj 0 Bs rfl rfl ba bb rfl rfl rfl fun bs _ ae v=>(Ah (a6 (Ak fun _ bc=>(AO 1 Bs rfl v rfl rfl (AO 0 Bs rfl v rfl rfl (Acd Tryz.eqGuardType79 (Abd h a7) rfl rfl rfl (Ah (bc (A3 rfl b (fun _ b=>?_) (fun _ b=>?_))))))))))))
        ·refine An 1 rfl ?_
         refine Ay (rt p rfl rfl (by cases b; exact ⟨rfl,ae⟩))
        ·refine Au (a5 ?_)
         refine As (Aq 2 rfl ?_)
         rw [ad] at b
         exact fun a ha=>a3 a _ j (AB j) ⟨(Ag (o + 1)),ha.sb rfl,ae,(v.sel [1] rfl),b⟩
       ·refine Bd (am ?_)
        refine As (Aq 2 rfl ?_)
        rw [x] at b
        exact fun a ha=>ak a _ i (AB i) ⟨(Ag (f + 1)),ha.sb rfl,u,(ac.sel [] rfl),b⟩
   ·refine Bd (ah ?_)
    refine Ak fun _ bd=>wp 1 rfl (BX l Tryz.underlying26 rfl (bB b fun bt be b=>(A7 rfl Tryz.call77 (Cd n (List.length d:Int) 1 12 _ be) rfl ?_)))
    rintro _ bu ⟨rfl,bf⟩
    refine ⟨_,rfl,?_⟩
    have bg:=tm q bf
    refine Aq 1 rfl (bd (Ay (rt p rfl rfl (by cases b; exact ⟨rfl,bg⟩))))
theorem GY (c:Ae) (b:(Ae1 × Ae1 × Int × Ae1 × Ae2 × Ae4 × (List Int) × (List Int) × Int)) (d:Nat) (j:Al) (g:Ae1) (h:Ac) (k:Al) (m:Bool) (u:Sep 0 c [A2 B3 74 j d b,Ab Ao k h g]) (r:(Bool × (Ae1 × Ae1 × Int × Ae1 × Ae2 × Ae4 × (List Int) × (List Int) × Int))) (f:EF b g m = some r) :
  A1 88 [(.pointer (some ⟨d,0,none⟩)),h,(.bool m)] c fun e w'=>∃ (H_0:Al),e = .returned (.bool r.1) ∧ Below 0 (wE c) w' ∧ Sep 0 w' [A6 c (Be [A2 B3 74 j d b,Ab Ao k h g]),A2 B3 74 H_0 d r.2]:=by
 refine G4 Tryz.func88 rfl Tryz.ntmps88 rfl rfl fun Q v hP=>?_
 have q:Bl (wE c) c:=Ej c
 have s:Sp (wE c) c [A6 c (Be [A2 B3 74 j d b,Ab Ao k h g]),A2 B3 74 j d b,Ab Ao k h g]:=u.rest
 unfold EF at f
 refine An 1 rfl (Ap fun w x=>?_)
 obtain ⟨y,z,f⟩:=Cj f
 have t:∀ (n:(Ae1 × Ae1 × Int × Ae1 × Ae2 × Ae4 × (List Int) × (List Int) × Int)) (o:Al) (l:Ae) (_:y n = some r) (_:Bl (wE c) l) (_:Sp (wE c) l [A6 c (Be [A2 B3 74 j d b,Ab Ao k h g]),A2 B3 74 o d n]),∀ a,St 13 [(2,(.bool m))] a → w a l:=by
  intro n o l f aa ab
  subst z
  refine x (An 2 rfl (Ay (rt v rfl rfl (by cases f; exact ⟨o,rfl,aa,ab.sel [0,1] rfl⟩))))
 refine An 1 rfl (A3 rfl f (fun _ f=>?_) (fun _ f=>?_))
 ·refine As ?_
  refine wp 2 rfl (BC rfl rfl (Bp IU rfl ?_))
  obtain ⟨ac,ad,ae,aq,af,ar,ag,au,ah,av,ai,aw,aj,ax,p⟩:=Hs (s.sel [1,0,2] rfl)
  refine B9 (i:=0) (vs:=[h]) (cs':=[h,ae,(iv b.2.2.1),af,ag,ah,ai,aj,(iv b.2.2.2.2.2.2.2.2)]) Cm rfl rfl (Ce (p.own_ro (i:=9) rfl).one) rfl q p rfl rfl ⟨(p.own_ro (i:=9) rfl).one,trivial⟩ rfl fun ak _ al am=>Ah ?_
  obtain ⟨an,ao⟩:∃ F,Sp (wE c) ak [A2 B3 74 F d (g,b.2.1,b.2.2.1,b.2.2.2.1,b.2.2.2.2.1,b.2.2.2.2.2.1,b.2.2.2.2.2.2.1,b.2.2.2.2.2.2.2.1,b.2.2.2.2.2.2.2.2),Ab Ao ad ac b.1,A6 c (Be [A2 B3 74 j d b,Ab Ao k h g])]:=⟨_,DC (am.sel [0,9,2,3,4,5,6,7,1,8] rfl)⟩
  exact jx (t ((g,b.2.1,b.2.2.1,b.2.2.2.1,b.2.2.2.2.1,b.2.2.2.2.2.1,b.2.2.2.2.2.2.1,b.2.2.2.2.2.2.2.1,b.2.2.2.2.2.2.2.2)) an _ f al (ao.sel [2,0] rfl)) rfl
 ·refine Au ?_
  exact jx (t b j _ f q (s.sel [0,1] rfl)) rfl
theorem Xh (d:Ae) (f:Ae1) (h:Ac) (k:RO Ao d h f) (i:Int) (r:Bool) (b:Mp f i = some r) :
  A1 133 [h,(iv i)] d fun e w'=>e = .returned (.bool r) ∧ Bl d w':=by
 refine cm Tryz.func133 Tryz.ntmps133 rfl fun Q p hP l q=>?_
 unfold Mp at b
 refine An 1 rfl (Ap fun s t=>?_)
 obtain ⟨u,v,b⟩:=Cj b
 have m:∀ (j:Bool) (g:Ae) (_:u j = some r) (_:Bl d g) (_:Sp d g []),∀ a,St 14 [(4,(.bool j))] a → s a g:=by
  intro j g b w af
  subst v
  refine t (Ay (rt p rfl rfl (by cases b; exact ⟨rfl,w⟩)))
 refine As (wp 1 rfl (bB b fun x y b=>(Bu rfl Tryz.call132 l q (Ji d f h (k.ro l) _ y) rfl fun z _ n o=>(wp 1 rfl ?_))))
 rcases bE x with c | c
 ·replace b:=BA c b
  refine wn rfl c (wp 1 rfl (wn rfl c (wp 1 rfl (wn rfl c (BX k Tryz.underlying26 rfl (wn rfl c (wp 1 rfl (wn rfl c (bB b fun aa ab b=>(Bu rfl Tryz.call77 n o (Cd z i 0 (Ag ((List.length f:Int) - 1)) _ ab) rfl fun ag _ ac ad=>(AA rfl rfl c rfl (Aq 1 rfl ?_))))))))))))
  exact jx (m aa _ b ac (ad.sel [] rfl)) rfl
 ·replace b:=Cf c b
  refine wo rfl c (wo rfl c (wo rfl c (wo rfl c (wo rfl c (A9 rfl rfl c rfl (Aq 1 rfl ?_))))))
  exact jx (m false _ b n (o.sel [] rfl)) rfl
theorem J7 (a:Ae) (d:Ae1) (c:Ac) (f:Al) (m:Sep 0 a [Ab Ao f c d]) (r:(Ae1 × Bool)) (b:Hb d = some r) :
  A1 89 [c] a fun e w'=>∃ (g:Ac) (n:Al),e = .returned (.tuple #[g,(.bool r.2)]) ∧ Below 0 (wE a) w' ∧ Sep 0 w' [A6 a (Be [Ab Ao f c d]),Ab Ao n g r.1]:=by
 refine G4 Tryz.func89 rfl Tryz.ntmps89 rfl rfl fun Q h u=>?_
 have o:Bl (wE a) a:=Ej a
 have j:Sp (wE a) a [A6 a (Be [Ab Ao f c d]),Ab Ao f c d]:=m.rest
 unfold Hb at b
 refine An 2 rfl (Ap fun _ p=>(Ak fun _ q=>(wp 1 rfl (bB b fun v s b=>(Bu rfl Tryz.call132 o j (Ji a d c (j.own_ro (i:=1) rfl) _ s) rfl fun w _ k l=>(Aq 1 rfl (q (A3 rfl b (fun _ b=>?_) (fun _ b=>?_)))))))))
 ·refine An 2 rfl ?_
  refine Ay ?_
  have t:=l.push0 (r:=Ab Ao [] (.slice none 0 0) []) rfl fun _=>.inl ⟨rfl,rfl,rfl⟩
  refine rt h rfl rfl (by cases b; exact ⟨(.slice none 0 0),[],rfl,k,t.sel [1,0] rfl⟩)
 ·refine Au (p ?_)
  refine An 3 rfl (Ay (rt h rfl rfl (by cases b; exact ⟨c,f,rfl,k,l.sel [0,1] rfl⟩)))
theorem P5 (d:Ae) (f:Ae1) (g:Ac) (p:RO Ao d g f) (c:Int) (b:(Int × Int)) (r:(Ae1 × Bool)) (a:GB f c b = some r) :
  A1 91 [g,(iv c),(.agg #[(iv b.1),(iv b.2)])] d fun e w'=>∃ (q:Ac) (G0:Al),e = .returned (.tuple #[q,(.bool r.2)]) ∧ Bl d w' ∧ Sp d w' [Ab Ao G0 q r.1]:=by
 refine cm Tryz.func91 Tryz.ntmps91 rfl fun Q s hP hB hS=>?_
 unfold GB at a
 refine Ak fun _ ad=>CK rfl hB hS fun b2 w3 _ t ag=>Aq 2 rfl (ad (Ap fun _ ah=>(Ak fun _ ai=>(wp 2 rfl (bB a fun u9 aj a=>(Bu rfl Tryz.call133 t ag (Xh w3 f g (p.ro t) c _ aj) rfl fun ak _ h u=>(Aq 1 rfl (ai (A3 rfl a (fun _ a=>?_) (fun _ a=>?_))))))))))
 ·refine An 2 rfl ?_
  refine Ay ?_
  have al:=u.push0 (r:=Ab Ao [] (.slice none 0 0) []) rfl fun _=>.inl ⟨rfl,rfl,rfl⟩
  refine rt s rfl rfl (by cases a; exact ⟨(.slice none 0 0),[],rfl,h,al.sel [0] rfl⟩)
 ·refine Au (ah ?_)
  refine Ak fun _ am=>wp 1 rfl (bB a fun j an a=>(E6 rfl Tryz.call90 h u (IG ak f g (p.ro h) _ an) rfl fun k l a3 _ _ ao m=>(Aq 1 rfl (am (Ak fun _ ap=>(wp 2 rfl (AO 1 Bs rfl m rfl rfl (bB a fun a4 v a=>(Cw (e:=Ao) (i:=0) Tryz.underlying26 rfl rfl rfl m rfl v ?_)))))))))
  rintro a5 _ rfl a6 aq
  refine BT (i:=0) (o:=0) (vs:=[(iv b.1),(iv b.2)]) (u':=b) CD Bs rfl rfl rfl rfl aq v ao m rfl rfl ⟨rfl,rfl,trivial⟩ rfl fun ar _ w n=>Ah (ap (Ak fun _ au=>(wp 1 rfl (bB a fun av aw a=>(A7 rfl Tryz.call89 (J7 ar (BG j c b) k l (n.sel [0] rfl).base0 _ aw) rfl ?_)))))
  rintro _ ax ⟨x,y,rfl,ay,z⟩
  refine ⟨_,rfl,?_⟩
  have az:=n.takeB [0] rfl (M:=[Ab Ao l k (BG j c b)]) rfl w ay z
  have a0:Sp d ax [Ab Ao y x av.1,A5 b2 79 [(iv b.1),(iv b.2)]]:=n.take [0] [1] rfl (M:=[Ab Ao l k (BG j c b)]) rfl z w.size
  refine Aq 4 rfl (au (Ay (rt s rfl rfl (by cases a; exact ⟨x,y,rfl,az,a0.sel [0] rfl⟩))))
theorem T8 (c:Ae) (a:(Int × Int)) (r:(Int × Int)) (d:KE a = some r) :
  A1 134 [(.agg #[(iv a.1),(iv a.2)])] c fun e w'=>e = .returned (.agg #[(iv r.1),(iv r.2)]) ∧ Bl c w':=by
 refine cm Tryz.func134 Tryz.ntmps134 rfl fun Q f q g h=>?_
 unfold KE at d
 refine Ak fun _ j=>CK rfl g h fun s t _ k l=>Ei Bs rfl k l fun u v _ m b=>Ah (j (Ak fun _ n=>(Bp CJ rfl (AO 1 A4 rfl b rfl rfl (wp 1 rfl (Bp CI rfl (AO 1 A4 rfl b rfl rfl (DV (zs:=[(iv 0),(iv 0)]) (out:=[(iv (Ag (1280 - a.1))),(iv a.2)]) (vs:=[(iv (Ag (1280 - a.1))),(iv a.2)]) (css:=[[(iv (Ag (1280 - a.1)))],[(iv a.2)]]) Bs L4 rfl rfl rfl rfl rfl (Gj 0 Bs rfl rfl m b rfl rfl rfl fun w _ o p=>(Ah (n (Ay ?_))))))))))))
 obtain rfl:=Option.some.inj d
 exact IM (vs:=[(.agg #[(iv (Ag (1280 - a.1))),(iv a.2)])]) f rfl ⟨Ha (i:=0) Bs rfl p rfl rfl rfl,trivial⟩ ⟨rfl,o⟩
theorem Rf (c:Ae) (d:Ae1) (g:Ac) (n:RO Ao c g d) (r:(Ae1 × Bool)) (b:HD d = some r) :
  A1 92 [g] c fun e w'=>∃ (u:Ac) (G0:Al),e = .returned (.tuple #[u,(.bool r.2)]) ∧ Bl c w' ∧ Sp c w' [Ab Ao G0 u r.1]:=by
 refine cm Tryz.func92 Tryz.ntmps92 rfl fun Q v hP w hS=>?_
 unfold HD at b
 refine An 2 rfl (Ap fun _ af=>(Ak fun _ ag=>(wp 1 rfl (bB b fun u4 ah b=>(Bu rfl Tryz.call132 w hS (Ji c d g (n.ro w) _ ah) rfl fun w5 _ x y=>(Aq 1 rfl (ag (A3 rfl b (fun _ b=>?_) (fun _ b=>?_)))))))))
 ·refine An 2 rfl ?_
  refine Ay ?_
  have ai:=y.push0 (r:=Ab Ao [] (.slice none 0 0) []) rfl fun _=>.inl ⟨rfl,rfl,rfl⟩
  refine rt v rfl rfl (by cases b; exact ⟨(.slice none 0 0),[],rfl,x,ai.sel [0] rfl⟩)
 ·refine Au (af ?_)
  refine An 1 rfl (Ap fun _ aj=>(Ak fun _ ak=>(wp 1 rfl (BX n Tryz.underlying26 rfl (Aq 1 rfl (ak (A0 (AU (fun m a o=>∃ (p:Ae1) (h:Int) (j:Ac) (q:Al),St 23 [(4,j),(10,g),(11,(iv (List.length d:Int))),(12,(iv h))] a ∧ Bl c o ∧ Sp c o [Ab Ao q j p] ∧ DK d m p h = some r) FU ?_ ?_))))))))
  ·have al:=y.push0 (r:=Ab Ao [] (.slice none 0 0) []) rfl fun _=>.inl ⟨rfl,rfl,rfl⟩
   exact fun a ha=>⟨[],0,(.slice none 0 0),[],ha.sb rfl,x,(al.sel [0] rfl),b⟩
  ·rintro f a o ⟨p,h,j,q,ha,s,z,b⟩ bd am
   refine BE ?_ ha
   cases f with
   | zero=>exact Bg b
   | succ f =>
    obtain ⟨be,aa⟩:∃ k,k = DK d f:=⟨_,rfl⟩
    rw [DK,← aa] at b
    refine An 1 rfl (Ap fun _ an=>(A3 rfl b (fun _ b=>?_) (fun _ b=>?_)))
    ·refine Au (an ?_)
     refine Ap fun _ ao=>A0 (Ak fun _ ap=>(bB b fun aq ar b=>(BP (e:=Ao) Tryz.underlying26 rfl rfl rfl n ar ?_)))
     rintro bf _ rfl au
     refine BZ Bs rfl (au.ro s) rfl (Ei Bs rfl s z fun bg bh _ av aw=>(Gj 0 Bs rfl rfl av aw rfl rfl rfl fun ax _ ay ab=>(Ah (ap (As (wp 1 rfl (AO 0 Bs rfl ab rfl rfl (bB b fun t az b=>(Bu rfl Tryz.call134 ay ab (T8 ax aq _ az) rfl fun bi _ a0 a1=>(Bc (vs:=[(.agg #[(iv t.1),(iv t.2)])]) (l:=[t]) CD Tryz.underlying26 rfl rfl rfl rfl rfl rfl a0 a1 fun bj bk a2 _ a3 ac=>(bB b fun a4 a5 b=>(AF (i:=2) (S:=(· < a2.heap.size)) CD Tryz.underlying26 rfl rfl rfl a3 ac rfl (ac.own_ro (i:=0) rfl) a5 fun a6 a7 bl _ a8 a9=>(Aq 1 rfl (ao (As (Aq 2 rfl ?_))))))))))))))))
     rw [aa] at b
     exact fun a ha=>am a _ f (AB f) ⟨a4,(Ag (h + 1)),a6,a7,ha.sb rfl,a8,(a9.sel [2] rfl),b⟩
    ·refine Bd (aj ?_)
     refine An 3 rfl (Ay (rt v rfl rfl (by cases b; exact ⟨j,q,rfl,s,z.sel [0] rfl⟩)))
theorem S5 (f:Ae) (d:(Int × Int)) (r:Bool) (b:I8 d = some r) :
  A1 135 [(.agg #[(iv d.1),(iv d.2)])] f fun e w'=>e = .returned (.bool r) ∧ Bl f w':=by
 refine cm Tryz.func135 Tryz.ntmps135 rfl fun Q m hP n o=>?_
 unfold I8 at b
 refine Ak fun _ p=>CK rfl n o fun b2 q _ s j=>Aq 1 rfl (p (Ap fun t u=>?_))
 obtain ⟨v,w,b⟩:=Cj b
 have k:∀ (h:Bool) (g:Ae) (_:v h = some r) (_:Bl f g) (_:Sp f g []),∀ a,St 11 [(2,(.bool h))] a → t a g:=by
  intro h g b x ah
  subst w
  refine u (Ay (rt m rfl rfl (by cases b; exact ⟨rfl,x⟩)))
 refine As (Bp Kx rfl (AO 0 A4 rfl j rfl rfl (bB b fun y z b=>(Bu rfl Tryz.call77 s j (Cd q d.1 1 12 _ z) rfl fun aa _ l i=>(wp 1 rfl ?_)))))
 rcases bE y with c | c
 ·replace b:=BA c b
  refine wn rfl c (Bp NE rfl (wn rfl c (AO 0 A4 rfl i rfl rfl (wn rfl c (bB b fun ab ac b=>(Bu rfl Tryz.call77 l i (Cd aa d.2 40 220 _ ac) rfl fun ai _ ad ae=>(AA rfl rfl c rfl (Aq 1 rfl ?_))))))))
  exact jx (k ab _ b ad (ae.sel [] rfl)) rfl
 ·replace b:=Cf c b
  refine wo rfl c (wo rfl c (wo rfl c (A9 rfl rfl c rfl (Aq 1 rfl ?_))))
  exact jx (k false _ b l (i.sel [] rfl)) rfl
theorem Qp (d:Ae) (c:Ae1) (g:Ac) (j:RO BN d g c) (r:Bool) (b:Jb c = some r) :
  A1 93 [g] d fun e w'=>e = .returned (.bool r) ∧ Bl d w':=by
 refine cm Tryz.func93 Tryz.ntmps93 rfl fun Q n hP s t=>?_
 unfold Jb at b
 refine An 1 rfl (Ap fun _ u=>(Ak fun _ v=>(wp 1 rfl (BX j Tryz.underlying31 rfl (Aq 1 rfl (v (A0 (AU (fun m a h=>∃ (i:Int),St 18 [(0,g),(5,g),(6,(iv (List.length c:Int))),(7,(iv i))] a ∧ Bl d h ∧ Sp d h [] ∧ FC c m i = some r) FU ?_ ?_))))))))
 ·exact fun a ha=>⟨0,ha.sb rfl,s,(t.sel [] rfl),b⟩
 ·rintro f a h ⟨i,ha,l,w,b⟩ aq x
  refine BE ?_ ha
  cases f with
  | zero=>exact Bg b
  | succ f =>
   obtain ⟨ar,o⟩:∃ k,k = FC c f:=⟨_,rfl⟩
   rw [FC,← o] at b
   refine An 1 rfl (Ap fun _ y=>(A3 rfl b (fun _ b=>?_) (fun _ b=>?_)))
   ·refine Au (y ?_)
    refine Ap fun _ z=>A0 (Ak fun _ aa=>(bB b fun ab ac b=>(BP (e:=BN) Tryz.underlying31 rfl rfl rfl j ac ?_)))
    rintro au _ rfl ad
    refine BZ GL rfl (ad.ro l) rfl (Ei GL rfl l w fun av aw _ ae af=>(Gj 0 GL rfl rfl ae af rfl rfl rfl fun ag _ ah p=>(Ah (aa (Ak fun _ ai=>(AO 0 GL rfl p rfl rfl (bB b fun ax aj b=>(Bu rfl Tryz.call135 ah p (S5 ag ab _ aj) rfl fun ay _ q ak=>(Aq 1 rfl (ai (A3 rfl b (fun _ b=>?_) (fun _ b=>?_))))))))))))
    ·refine An 1 rfl ?_
     refine Ay (rt n rfl rfl (by cases b; exact ⟨rfl,q⟩))
    ·refine Au (z ?_)
     refine As (Aq 2 rfl ?_)
     rw [o] at b
     exact fun a ha=>x a _ f (AB f) ⟨(Ag (i + 1)),ha.sb rfl,q,(ak.sel [] rfl),b⟩
   ·refine Bd (u ?_)
    refine Ak fun _ al=>wp 1 rfl (BX j Tryz.underlying31 rfl (bB b fun az am b=>(A7 rfl Tryz.call77 (Cd h (List.length c:Int) 1 40 _ am) rfl ?_)))
    rintro _ a0 ⟨rfl,an⟩
    refine ⟨_,rfl,?_⟩
    have ao:=tm l an
    refine Aq 1 rfl (al (Ay (rt n rfl rfl (by cases b; exact ⟨rfl,ao⟩))))
theorem OD (i:Ae) (g:(Int × Int × Int × Int)) (h:(Int × Int × Int × Int)) (r:Bool) (c:HQ g h = some r) :
  A1 136 [(.agg #[(iv g.1),(iv g.2.1),(iv g.2.2.1),(iv g.2.2.2)]),(.agg #[(iv h.1),(iv h.2.1),(iv h.2.2.1),(iv h.2.2.2)])] i fun e w'=>e = .returned (.bool r) ∧ Bl i w':=by
 refine cm Tryz.func136 Tryz.ntmps136 rfl fun Q n z o p=>?_
 unfold HQ at c
 refine Ak fun _ q=>CK rfl o p fun b2 w3 _ s t=>CK rfl s t fun b7 w8 _ k f=>Aq 1 rfl (q (Ap fun u v=>?_))
 obtain ⟨w,x,c⟩:=Cj c
 have l:∀ (m:Bool) (j:Ae) (_:w m = some r) (_:Bl i j) (_:Sp i j []),∀ a,St 24 [(4,(.bool m))] a → u a j:=by
  intro m j c y ae
  subst x
  refine v (Ay (rt n rfl rfl (by cases c; exact ⟨rfl,y⟩)))
 refine As (Bp DB rfl (AO 1 A4 rfl f rfl rfl (Bp DB rfl (AO 0 A4 rfl f rfl rfl (wp 2 rfl ?_)))))
 rcases bE (decide (g.2.2.1 < h.2.2.1)) with b | b
 ·replace c:=BA b c
  refine wo rfl b (wo rfl b (wo rfl b (wo rfl b (wo rfl b (wo rfl b (Dn rfl rfl rfl (Dn rfl rfl rfl (Dn rfl rfl rfl (Dn rfl rfl rfl (Dn rfl rfl rfl (wo rfl b (AA rfl rfl b rfl (Aq 1 rfl ?_)))))))))))))
  exact jx (l true _ c k (f.sel [] rfl)) rfl
 ·replace c:=Cf b c
  refine wn rfl b (Bp DB rfl (wn rfl b (AO 1 A4 rfl f rfl rfl (wn rfl b (Bp DB rfl (wn rfl b (AO 0 A4 rfl f rfl rfl (wn rfl b (wp 1 rfl (wn rfl b (wp 1 rfl ?_)))))))))))
  rcases bE (g.2.2.1 == h.2.2.1) with d | d
  ·replace c:=BA d c
   refine wn rfl d (Bp HT rfl (wn rfl d (AO 1 A4 rfl f rfl rfl (wn rfl d (Bp HT rfl (wn rfl d (AO 0 A4 rfl f rfl rfl (wn rfl d (wp 1 rfl (wn rfl b (AA rfl rfl d rfl (A9 rfl rfl b rfl (Aq 1 rfl ?_)))))))))))))
   exact jx (l ((decide (g.2.1 < h.2.1))) _ c k (f.sel [] rfl)) rfl
  ·replace c:=Cf d c
   refine wo rfl d (wo rfl d (wo rfl d (wo rfl d (wo rfl d (wn rfl b (A9 rfl rfl d rfl (A9 rfl rfl b rfl (Aq 1 rfl ?_))))))))
   exact jx (l false _ c k (f.sel [] rfl)) rfl
theorem Re (b:Ae) (c:Int) (r:Bool) (a:Ju c = some r) :
  A1 191 [(iv c)] b fun e w'=>e = .returned (.bool r) ∧ Bl b w':=by
 refine cm Tryz.func191 Tryz.ntmps191 rfl fun Q d k f _=>?_
 unfold Ju at a
 refine An 1 rfl (Ak fun _ g=>(wp 1 rfl (bB a fun l h a=>(A7 rfl Tryz.call77 (Cd b c 1 12 _ h) rfl ?_))))
 rintro _ m ⟨rfl,i⟩
 refine ⟨_,rfl,?_⟩
 have j:=tm f i
 refine Aq 1 rfl (g (Ay (rt d rfl rfl (by cases a; exact ⟨rfl,j⟩))))
theorem Qr (b:Ae) (c:Int) (r:Bool) (a:Jf c = some r) :
  A1 156 [(iv c)] b fun e w'=>e = .returned (.bool r) ∧ Bl b w':=by
 refine cm Tryz.func156 Tryz.ntmps156 rfl fun Q d k f _=>?_
 unfold Jf at a
 refine An 1 rfl (Ak fun _ g=>(wp 1 rfl (bB a fun l h a=>(A7 rfl Tryz.call77 (Cd b c 1 9 _ h) rfl ?_))))
 rintro _ m ⟨rfl,i⟩
 refine ⟨_,rfl,?_⟩
 have j:=tm f i
 refine Aq 1 rfl (g (Ay (rt d rfl rfl (by cases a; exact ⟨rfl,j⟩))))
theorem Qs (t:Ae) (x:Ae2) (w:Ac) (ab:RO Az t w x) (r:Bool) (c:Jg x = some r) :
  A1 137 [w] t fun e w'=>e = .returned (.bool r) ∧ Bl t w':=by
 refine cm Tryz.func137 Tryz.ntmps137 rfl fun Q hQ b hB hS=>?_
 unfold Jg at c
 refine An 1 rfl (Ap fun _ bg=>(Ak fun _ bh=>(wp 1 rfl (BX ab Tryz.underlying72 rfl (Aq 1 rfl (bh (A0 (AU (fun m a w4=>∃ (u:Int),St 85 [(0,w),(7,w),(8,(iv (List.length x:Int))),(9,(iv u))] a ∧ Bl t w4 ∧ Sp t w4 [] ∧ Du x m u = some r) FU ?_ ?_))))))))
 ·exact fun a ha=>⟨0,ha.sb rfl,hB,(hS.sel [] rfl),c⟩
 ·rintro ac a w4 ⟨u,ha,am,bi,c⟩ c5 bj
  refine BE ?_ ha
  cases ac with
  | zero=>exact Bg c
  | succ ac =>
   obtain ⟨ay,az⟩:∃ k,k = Du x ac:=⟨_,rfl⟩
   rw [Du,← az] at c
   refine An 1 rfl (Ap fun _ bk=>(A3 rfl c (fun _ c=>?_) (fun _ c=>?_)))
   ·refine Au (bk ?_)
    refine Ap fun _ bl=>A0 (Ak fun _ bm=>(wp 1 rfl (bB c fun i bn c=>(BP (e:=Az) Tryz.underlying72 rfl rfl rfl ab bn ?_))))
    rintro c6 _ rfl bo
    refine BZ BD rfl (bo.ro am) rfl (Ei BD rfl am bi fun z c7 _ bp bq=>(wp 1 rfl (Gj 0 BD rfl rfl bp bq rfl rfl rfl fun c8 _ br bs=>(Ah (bm (Ap fun _ bt=>(Ap fun bu bv=>?_)))))))
    obtain ⟨bw,bx,c⟩:=Cj c
    have aa:∀ (an:Bool) (af:Ae) (_:bw an = some r) (_:Bl t af) (_:Sp t af [A5 z 125 [(iv i.1),(iv i.2.1),(iv i.2.2.1),(iv i.2.2.2)]]),∀ a,St 85 [(0,w),(3,(iv u)),(4,(.pointer (some ⟨z,0,none⟩))),(7,w),(8,(iv (List.length x:Int))),(9,(iv u)),(52,(.bool an))] a → bu a af:=by
     intro an af c a0 bz
     subst bx
     refine bv (A3 rfl c (fun _ c=>?_) (fun _ c=>?_))
     ·refine An 1 rfl ?_
      refine Ay (rt hQ rfl rfl (by cases c; exact ⟨rfl,a0⟩))
     ·refine Au (bt ?_)
      refine Ak fun _ b0=>wp 2 rfl (bB c fun ag b1 c=>(PB (e:=Az) Tryz.underlying72 rfl rfl ab b1 (.inl ⟨rfl,rfl⟩) (.inr ⟨_,_,rfl,rfl⟩) fun a1 a2=>(BX a2 Tryz.underlying72 rfl (Aq 1 rfl (b0 (A0 (AU (fun m a ao=>∃ (ad:Int),St 85 [(0,w),(4,(.pointer (some ⟨z,0,none⟩))),(7,w),(8,(iv (List.length x:Int))),(9,(iv u)),(55,a1),(56,(iv (List.length ag:Int))),(57,(iv ad))] a ∧ Bl t ao ∧ Sp t ao [A5 z 125 [(iv i.1),(iv i.2.1),(iv i.2.2.1),(iv i.2.2.2)]] ∧ EH ag i ay u m ad = some r) FU ?_ ?_)))))))
      ·exact fun a ha=>⟨0,ha.sb rfl,a0,(bz.sel [0] rfl),c⟩
      ·rintro ae a ao ⟨ad,ha,ap,a3,c⟩ c9 b2
       refine BE ?_ ha
       cases ae with
       | zero=>exact Bg c
       | succ ae =>
        obtain ⟨da,a4⟩:∃ k,k = EH ag i ay u ae:=⟨_,rfl⟩
        rw [EH,← a4] at c
        refine An 1 rfl (Ap fun _ b3=>(A3 rfl c (fun _ c=>?_) (fun _ c=>?_)))
        ·refine Au (b3 ?_)
         refine Ap fun _ b4=>A0 (Ak fun _ b5=>(bB c fun ah b6 c=>(BP (e:=Az) Tryz.underlying72 rfl rfl rfl a2 b6 ?_)))
         rintro db _ rfl b7
         refine BZ BD rfl (b7.ro ap) rfl (Ei BD rfl ap a3 fun dc dd _ b8 b9=>(Gj 0 BD rfl rfl b8 b9 rfl rfl rfl fun de _ aq v=>(Ah (b5 (Ap fun ca cb=>?_)))))
         obtain ⟨cc,cd,c⟩:=Cj c
         have ar:∀ (au:Bool) (ai:Ae) (_:cc au = some r) (_:Bl t ai) (_:Sp t ai [A5 z 125 [(iv i.1),(iv i.2.1),(iv i.2.2.1),(iv i.2.2.2)]]),∀ a,St 85 [(0,w),(4,(.pointer (some ⟨z,0,none⟩))),(7,w),(8,(iv (List.length x:Int))),(9,(iv u)),(55,a1),(56,(iv (List.length ag:Int))),(57,(iv ad)),(79,(.bool au))] a → ca a ai:=by
          intro au ai c a5 ce
          subst cd
          refine cb (A3 rfl c (fun _ c=>?_) (fun _ c=>?_))
          ·refine An 1 rfl ?_
           refine Ay (rt hQ rfl rfl (by cases c; exact ⟨rfl,a5⟩))
          ·refine Au (b4 ?_)
           refine As (Aq 2 rfl ?_)
           rw [a4] at c
           exact fun a ha=>b2 a _ ae (AB ae) ⟨(Ag (ad + 1)),ha.sb rfl,a5,(ce.sel [0] rfl),c⟩
         refine As (Bp HT rfl (AO 0 A4 rfl v rfl rfl (Bp HT rfl (AO 1 A4 rfl v rfl rfl (wp 2 rfl ?_)))))
         rcases bE (ah.2.1 == i.2.1) with n | n
         ·replace c:=BA n c
          refine wo rfl n (wo rfl n (wo rfl n (wo rfl n (wo rfl n (AA rfl rfl n rfl (wp 1 rfl (wn rfl rfl (Bp GP rfl (wn rfl rfl (AO 0 A4 rfl v rfl rfl (wn rfl rfl (Bp DB rfl (wn rfl rfl (AO 1 A4 rfl v rfl rfl (wn rfl rfl (wp 1 rfl (AA rfl rfl rfl rfl (Ah ?_))))))))))))))))))
          exact jx (ar ((decide (i.2.2.1 < ah.2.2.2))) _ c aq (v.sel [1] rfl)) rfl
         ·replace c:=Cf n c
          refine wn rfl n (Bp J4 rfl (wn rfl n (AO 0 A4 rfl v rfl rfl (wn rfl n (Bp J4 rfl (wn rfl n (AO 1 A4 rfl v rfl rfl (wn rfl n (wp 1 rfl (A9 rfl rfl n rfl (wp 1 rfl ?_)))))))))))
          rcases bE (ah.1 == i.1) with o | o
          ·replace c:=BA o c
           refine wn rfl o (Bp GP rfl (wn rfl o (AO 0 A4 rfl v rfl rfl (wn rfl o (Bp DB rfl (wn rfl o (AO 1 A4 rfl v rfl rfl (wn rfl o (wp 1 rfl (AA rfl rfl o rfl (Ah ?_)))))))))))
           exact jx (ar ((decide (i.2.2.1 < ah.2.2.2))) _ c aq (v.sel [1] rfl)) rfl
          ·replace c:=Cf o c
           refine wo rfl o (wo rfl o (wo rfl o (wo rfl o (wo rfl o (A9 rfl rfl o rfl (Ah ?_))))))
           exact jx (ar false _ c aq (v.sel [1] rfl)) rfl
        ·refine Bd (bl ?_)
         refine As (Aq 2 rfl ?_)
         rw [az] at c
         exact fun a ha=>bj a _ ac (AB ac) ⟨(Ag (u + 1)),ha.sb rfl,ap,(a3.sel [] rfl),c⟩
    refine AQ B4 [] br bs fun a6 _ a7 y=>?_
    have av:=KeepX.refl a6 []
    refine Ad 0 rfl b av (C9 J4 rfl (Ad 1 rfl b av (CQ 0 A4 rfl y rfl (by simp) (Av 2 rfl (bB c fun cf cg c=>(Bu rfl Tryz.call191 a7 y (Re a6 i.1 _ cg) rfl fun ch ci a8 a9=>?_))))))
    have d:=av.ext ci
    refine Ah (Am d (Ad 3 rfl b d (KM rfl rfl (Ax 4 rfl b d ?_))))
    rcases bE (!cf) with q | q
    ·replace c:=BA q c
     refine AZ 5 rfl b q d (AZ 6 rfl b q d (AZ 7 rfl b q d (AZ 8 rfl b q d (Ad 9 rfl b d (Ep rfl rfl q rfl (Ax 10 rfl b d (AZ 11 rfl b rfl d (AZ 12 rfl b rfl d (AZ 13 rfl b rfl d (AZ 14 rfl b rfl d (Ad 15 rfl b d (Ep rfl rfl rfl rfl (Ax 16 rfl b d (AZ 17 rfl b rfl d (AZ 18 rfl b rfl d (AZ 19 rfl b rfl d (AZ 20 rfl b rfl d (AZ 21 rfl b rfl d (AZ 22 rfl b rfl d (AZ 23 rfl b rfl d (Ad 24 rfl b d (Ep rfl rfl rfl rfl (Ax 25 rfl b d (AZ 26 rfl b rfl d (AZ 27 rfl b rfl d (AZ 28 rfl b rfl d (E3 29 rfl b d (E3 30 rfl b d (E3 31 rfl b d (E3 32 rfl b d (E3 33 rfl b d (E3 34 rfl b d (E3 35 rfl b d (E3 36 rfl b d (AZ 37 rfl b rfl d (Ad 38 rfl b d (Ep rfl rfl rfl rfl (Ba ?_))))))))))))))))))))))))))))))))))))))
     exact jx (aa true _ c a8 (a9.sel [0] rfl)) rfl
    ·replace c:=Cf q c
     refine BF 5 rfl b q d (C9 HT rfl (BF 6 rfl b q d (CQ 0 A4 rfl y rfl (by simp) (Av 7 rfl (wn rfl q (bB c fun cj ck c=>(Bu rfl Tryz.call156 a8 a9 (Qr ch i.2.1 _ ck) rfl fun cl cn ba bb=>?_)))))))
     have g:=d.ext cn
     refine Ah (Am g (BF 8 rfl b q g (KM rfl rfl (Ad 9 rfl b g (FV rfl rfl q rfl (Ax 10 rfl b g ?_))))))
     rcases bE (!cj) with s | s
     ·replace c:=BA s c
      refine AZ 11 rfl b s g (AZ 12 rfl b s g (AZ 13 rfl b s g (AZ 14 rfl b s g (Ad 15 rfl b g (Ep rfl rfl s rfl (Ax 16 rfl b g (AZ 17 rfl b rfl g (AZ 18 rfl b rfl g (AZ 19 rfl b rfl g (AZ 20 rfl b rfl g (AZ 21 rfl b rfl g (AZ 22 rfl b rfl g (AZ 23 rfl b rfl g (Ad 24 rfl b g (Ep rfl rfl rfl rfl (Ax 25 rfl b g (AZ 26 rfl b rfl g (AZ 27 rfl b rfl g (AZ 28 rfl b rfl g (E3 29 rfl b g (E3 30 rfl b g (E3 31 rfl b g (E3 32 rfl b g (E3 33 rfl b g (E3 34 rfl b g (E3 35 rfl b g (E3 36 rfl b g (AZ 37 rfl b rfl g (Ad 38 rfl b g (Ep rfl rfl rfl rfl (Ba ?_)))))))))))))))))))))))))))))))
      exact jx (aa true _ c ba (bb.sel [0] rfl)) rfl
     ·replace c:=Cf s c
      refine BF 11 rfl b s g (C9 DB rfl (BF 12 rfl b s g (CQ 0 A4 rfl y rfl (by simp) (Av 13 rfl (wn rfl s (bB c fun co cp c=>(Bu rfl Tryz.call77 ba bb (Cd cl i.2.2.1 0 999 _ cp) rfl fun cq cr bc bd=>?_)))))))
      have h:=g.ext cr
      refine Ah (Am h (BF 14 rfl b s h (KM rfl rfl (Ad 15 rfl b h (FV rfl rfl s rfl (Ax 16 rfl b h ?_))))))
      rcases bE (!co) with l | l
      ·replace c:=BA l c
       refine AZ 17 rfl b l h (AZ 18 rfl b l h (AZ 19 rfl b l h (AZ 20 rfl b l h (AZ 21 rfl b l h (AZ 22 rfl b l h (AZ 23 rfl b l h (Ad 24 rfl b h (Ep rfl rfl l rfl (Ax 25 rfl b h (AZ 26 rfl b rfl h (AZ 27 rfl b rfl h (AZ 28 rfl b rfl h (E3 29 rfl b h (E3 30 rfl b h (E3 31 rfl b h (E3 32 rfl b h (E3 33 rfl b h (E3 34 rfl b h (E3 35 rfl b h (E3 36 rfl b h (AZ 37 rfl b rfl h (Ad 38 rfl b h (Ep rfl rfl rfl rfl (Ba ?_))))))))))))))))))))))))
       exact jx (aa true _ c bc (bd.sel [0] rfl)) rfl
      ·replace c:=Cf l c
       refine BF 17 rfl b l h (C9 GP rfl (BF 18 rfl b l h (CQ 0 A4 rfl y rfl (by simp) (BF 19 rfl b l h (C9 DB rfl (BF 20 rfl b l h (CQ 0 A4 rfl y rfl (by simp) (BF 21 rfl b l h (E7 rfl rfl rfl (Av 22 rfl (wn rfl l (bB c fun cs ct c=>(Bu rfl Tryz.call77 bc bd (Cd cq i.2.2.2 (Ag (i.2.2.1 + 1)) 1000 _ ct) rfl fun cu cv aw ax=>?_)))))))))))))
       have f:=h.ext cv
       refine Ah (Am f (BF 23 rfl b l f (KM rfl rfl (Ad 24 rfl b f (FV rfl rfl l rfl (Ax 25 rfl b f ?_))))))
       rcases bE (!cs) with p | p
       ·replace c:=BA p c
        refine AZ 26 rfl b p f (AZ 27 rfl b p f (AZ 28 rfl b p f (E3 29 rfl b f (E3 30 rfl b f (E3 31 rfl b f (E3 32 rfl b f (E3 33 rfl b f (E3 34 rfl b f (E3 35 rfl b f (E3 36 rfl b f (AZ 37 rfl b p f (Ad 38 rfl b f (Ep rfl rfl p rfl (Ba ?_))))))))))))))
        exact jx (aa true _ c aw (ax.sel [0] rfl)) rfl
       ·replace c:=Cf p c
        refine BF 26 rfl b p f (Da rfl rfl (BF 27 rfl b p f (Tg rfl rfl rfl (BF 28 rfl b p f (Da rfl rfl ?_)))))
        rcases bE (decide (0 < u)) with j | j
        ·replace c:=BA j c
         refine BF 29 rfl b j f (Da rfl rfl (BF 30 rfl b j f (Da rfl rfl (BF 31 rfl b j f (GM rfl rfl rfl (bB c fun cw cx c=>(BF 32 rfl b j f (BB (e:=Az) Tryz.underlying72 rfl rfl rfl ab cx ?_))))))))
         rintro df _ rfl cy
         refine BF 33 rfl b j f (BL BD rfl (cy.kx a7 (by simp)) rfl (BF 34 rfl b j f (CQ 0 BD rfl y rfl (by simp) (Av 35 rfl (wn rfl j (bB c fun cz c0 c=>(Bu rfl Tryz.call136 aw ax (OD cu cw i _ c0) rfl fun dg c1 c2 c3=>?_)))))))
         have aj:=f.ext c1
         refine Ah (Am aj (BF 36 rfl b j aj (KM rfl rfl (BF 37 rfl b p aj (Ep rfl rfl j rfl (Ad 38 rfl b aj (FV rfl rfl p rfl (Ba ?_))))))))
         exact jx (aa ((!cz)) _ c c2 (c3.sel [0] rfl)) rfl
        ·replace c:=Cf j c
         refine AZ 29 rfl b j f (AZ 30 rfl b j f (AZ 31 rfl b j f (AZ 32 rfl b j f (AZ 33 rfl b j f (AZ 34 rfl b j f (AZ 35 rfl b j f (AZ 36 rfl b j f (BF 37 rfl b p f (FV rfl rfl j rfl (Ad 38 rfl b f (FV rfl rfl p rfl (Ba ?_))))))))))))
         exact jx (aa false _ c aw (ax.sel [0] rfl)) rfl
   ·refine Bd (bg ?_)
    refine Ak fun _ c4=>wp 1 rfl (BX ab Tryz.underlying72 rfl (Aq 2 rfl (c4 (Ay (rt hQ rfl rfl (by cases c; exact ⟨rfl,am⟩))))))
theorem Nj (p:Ae) (w:Ae2) (z:Ac) (bp:RO Az p z w) (r:(Ae2 × Bool)) (c:Je w = some r) :
  A1 94 [z] p fun e w'=>∃ (q0:Ac) (G0:Al),e = .returned (.tuple #[q0,(.bool r.2)]) ∧ Bl p w' ∧ Sp p w' [Ab Az G0 q0 r.1]:=by
 refine cm Tryz.func94 Tryz.ntmps94 rfl fun Q hQ d hB hS=>?_
 unfold Je at c
 refine An 2 rfl (An 1 rfl (Ap fun _ c5=>(Ak fun _ c6=>(wp 1 rfl (BX bp Tryz.underlying72 rfl (Aq 1 rfl (c6 (A0 (AU (fun m a w5=>∃ (q:Ae2) (x:Int) (s:Ac) (ab:Al),St 46 [(4,s),(8,z),(9,(iv (List.length w:Int))),(10,(iv x))] a ∧ Bl p w5 ∧ Sp p w5 [Ab Az ab s q] ∧ EG w m q x = some r) FU ?_ ?_)))))))))
 ·have c7:=hS.push0 (r:=Ab Az [] (.slice none 0 0) []) rfl fun _=>.inl ⟨rfl,rfl,rfl⟩
  exact fun a ha=>⟨[],0,(.slice none 0 0),[],ha.sb rfl,hB,(c7.sel [0] rfl),c⟩
 ·rintro ac a w5 ⟨q,x,s,ab,ha,a5,a6,c⟩ fw c8
  refine BE ?_ ha
  cases ac with
  | zero=>exact Bg c
  | succ ac =>
   obtain ⟨fx,bs⟩:∃ k,k = EG w ac:=⟨_,rfl⟩
   rw [EG,← bs] at c
   refine An 1 rfl (Ap fun _ c9=>(A3 rfl c (fun _ c=>?_) (fun _ c=>?_)))
   ·refine Au (c9 ?_)
    refine Ap fun da db=>?_
    obtain ⟨a7,dc,c⟩:=Cj c
    have a8:∀ (af:Ae2) (ag:Ac) (a9:Al) (ah:Ae) (_:a7 af = some r) (_:Bl p ah) (_:Sp p ah [Ab Az a9 ag af]),∀ a,St 46 [(4,ag),(8,z),(9,(iv (List.length w:Int))),(10,(iv x))] a → da a ah:=by
     intro af ag a9 ah c dd de
     subst dc
     refine db (As (Aq 2 rfl ?_))
     rw [bs] at c
     exact fun a ha=>c8 a _ ac (AB ac) ⟨af,(Ag (x + 1)),ag,a9,ha.sb rfl,dd,(de.sel [0] rfl),c⟩
    refine A0 (Ak fun _ df=>(bB c fun f dg c=>(BP (e:=Az) Tryz.underlying72 rfl rfl rfl bp dg ?_)))
    rintro fy _ rfl dh
    refine BZ BD rfl (dh.ro a5) rfl (Ei BD rfl a5 a6 fun ai fz _ di dj=>(Gj 0 BD rfl rfl di dj rfl rfl rfl fun f0 _ dk bt=>(Ah (df (Ak fun _ dl=>(wp 1 rfl (BX (bt.own_ro (i:=1) rfl) Tryz.underlying72 rfl (Aq 1 rfl (dl (Ap fun _ dm=>(A0 (AU (fun m a ba=>∃ (aa:Int),St 46 [(4,s),(6,(.pointer (some ⟨ai,0,none⟩))),(7,(iv aa)),(8,z),(9,(iv (List.length w:Int))),(10,(iv x))] a ∧ Bl p ba ∧ Sp p ba [Ab Az ab s q,A5 ai 125 [(iv f.1),(iv f.2.1),(iv f.2.2.1),(iv f.2.2.2)]] ∧ FF q f a7 m aa = some r) FU ?_ ?_))))))))))))
    ·exact fun a ha=>⟨(List.length q:Int),ha.sb rfl,dk,(bt.sel [1,0] rfl),c⟩
    ·rintro ad a ba ⟨aa,ha,dn,dp,c⟩ f1 dq
     refine BE ?_ ha
     cases ad with
     | zero=>exact Bg c
     | succ ad =>
      obtain ⟨f2,bu⟩:∃ k,k = FF q f a7 ad:=⟨_,rfl⟩
      rw [FF,← bu] at c
      refine Ap fun _ dr=>Ap fun ds dt=>?_
      obtain ⟨du,dv,c⟩:=Cj c
      have bv:∀ (bb:Bool) (aj:Ae) (_:du bb = some r) (_:Bl p aj) (_:Sp p aj [Ab Az ab s q,A5 ai 125 [(iv f.1),(iv f.2.1),(iv f.2.2.1),(iv f.2.2.2)]]),∀ a,St 46 [(4,s),(6,(.pointer (some ⟨ai,0,none⟩))),(7,(iv aa)),(8,z),(9,(iv (List.length w:Int))),(10,(iv x)),(26,(.bool bb))] a → ds a aj:=by
       intro bb aj c bw bx
       subst dv
       refine dt (A3 rfl c (fun _ c=>?_) (fun _ c=>?_))
       ·refine Au (dr ?_)
        refine A0 (As (Aq 3 rfl ?_))
        rw [bu] at c
        exact fun a ha=>dq a _ ad (AB ad) ⟨(Ag (aa - 1)),ha.sb rfl,bw,(bx.sel [0,1] rfl),c⟩
       ·refine Bd (dm ?_)
        refine AQ B4 [] bw bx fun o _ n y=>?_
        have t:=KeepX.refl o []
        refine Ax 1 rfl d t (Ax 2 rfl d t (bB c fun u64 dw c=>(Ad 3 rfl d t (Td (e:=Az) Tryz.underlying72 rfl rfl (y.ok (i:=0) rfl:ownS Az _ _ _ _).rd dw (.inl ⟨rfl,rfl⟩) (.inr ⟨_,_,rfl,rfl⟩) fun f3 dx _=>?_))))
        have u:=dx.mono fun b hb=>((y.get (i:=0) rfl).2.1 b hb).2
        refine Ad 5 rfl d t (CQ 1 BD rfl y rfl (by simp) (Ax 8 rfl d t (Ax 9 rfl d t (bB c fun f4 dy c=>(Ad 10 rfl d t (Td (e:=Az) Tryz.underlying72 rfl rfl (y.ok (i:=0) rfl:ownS Az _ _ _ _).rd dy (.inr ⟨_,_,rfl,rfl⟩) (.inl ⟨rfl,rfl⟩) fun f5 dz _=>?_))))))
        have v:=dz.mono fun b hb=>((y.get (i:=0) rfl).2.1 b hb).2
        refine C0 (is:=[0,6]) (by kernel_rfl) rfl (Bb.2 ⟨⟨_,rfl,?_⟩,Bb.2 ⟨⟨_,rfl,?_⟩,fun _ h=>by cases h⟩⟩)
        ·refine Bc (vs:=[]) (l:=[]) Cs Tryz.underlying72 rfl rfl rfl rfl rfl rfl (Bf o) (Sep.nil _ _) fun f6 d0 bz ak _ b0=>?_
         have al:=tm n ak
         have b1:=y.join ak b0 n.size
         have am:∀ b ∈ d0,o.heap.size ≤ b:=fun b hb=>Aw (Nat.le_refl o.heap.size) ((b0.1 _ (List.mem_cons_self ..)).2.1 b hb).1
         have an:=t.ext ak
         have ao:=Aw (Nat.le_refl o.heap.size) ak.size
         refine Ah (Am an (C0 (is:=[4,6]) (by kernel_rfl) rfl (Bb.2 ⟨⟨_,rfl,?_⟩,Bb.2 ⟨⟨_,rfl,?_⟩,fun _ h=>by cases h⟩⟩)))
         ·refine bB c fun f7 d1 c=>?_
          refine AF (i:=0) (S:=(· < bz.heap.size)) Cs Tryz.underlying72 rfl rfl rfl al b1 rfl (u.ro (an.below ao n al)) d1 fun f8 d2 d3 ap b2 d4=>?_
          have b3:=an.wr' ap.1 ap.2.1 (fun b hlt hb=>absurd hlt (AK.2 (am b hb)))
          have b4:∀ b ∈ d2,o.heap.size ≤ b:=fun b hb=>(ap.2.2 b hb).elim (am b) fun h=>Aw ao h
          have d5:=Aw ao ap.1
          refine Ah (Am b3 (Av 6 rfl (Bc (vs:=[(.agg #[(iv f.1),(iv f.2.1),(iv f.2.2.1),(iv f.2.2.2)])]) (l:=[f]) Cs Tryz.underlying72 rfl rfl rfl rfl rfl rfl (Bf d3) (Sep.nil _ _) fun f9 ga d6 aq _ d7=>?_)))
          have d8:=tm b2 aq
          have b5:=d4.join aq d7 b2.size
          have b6:=b3.ext aq
          have b7:=Aw d5 aq.size
          refine Ah (Am b6 (Av 7 rfl (bB c fun gb d9 c=>(AF (i:=1) (S:=(· < d6.heap.size)) Cs Tryz.underlying72 rfl rfl rfl d8 b5 rfl (b5.own_ro (i:=0) rfl) d9 fun gc ea eb ar b8 ec=>?_))))
          have bc:=b6.wr' ar.1 ar.2.1 (fun b hlt hb=>absurd hlt (AK.2 (b4 b hb)))
          have ed:∀ b ∈ ea,o.heap.size ≤ b:=fun b hb=>(ar.2.2 b hb).elim (b4 b) fun h=>Aw b7 h
          have b9:=Aw b7 ar.1
          refine Ah (Am bc (Av 11 rfl (bB c fun ee ef c=>(AF (i:=1) (S:=(· < eb.heap.size)) Cs Tryz.underlying72 rfl rfl rfl b8 ec rfl (v.ro (bc.below b9 n b8)) ef fun eg eh gd bd be ei=>?_))))
          have au:=bc.wr' bd.1 bd.2.1 (fun b hlt hb=>absurd hlt (AK.2 (ed b hb)))
          have ca:=Aw b9 bd.1
          refine Ah (Am au (Ad 12 rfl d au (AC rfl rfl (Ba ?_))))
          have u:=u.ro (au.below ca n be)
          have v:=v.ro (au.below ca n be)
          exact jx (a8 ee eg eh _ c be (ei.sel [1] rfl)) rfl
         ·refine Bc (vs:=[(.agg #[(iv f.1),(iv f.2.1),(iv f.2.2.1),(iv f.2.2.2)])]) (l:=[f]) Cs Tryz.underlying72 rfl rfl rfl rfl rfl rfl (Bf bz) (Sep.nil _ _) fun ge gf ej av _ ek=>?_
          have cb:=tm al av
          have el:=b1.join av ek al.size
          have bf:=an.ext av
          have bg:=Aw ao av.size
          refine Ah (Am bf (Av 4 rfl (bB c fun gg em c=>(AF (i:=1) (S:=(· < ej.heap.size)) Cs Tryz.underlying72 rfl rfl rfl cb el rfl (u.ro (bf.below bg n cb)) em fun gh en eo aw ep cc=>?_))))
          have cd:=bf.wr' aw.1 aw.2.1 (fun b hlt hb=>absurd hlt (AK.2 (am b hb)))
          have ce:∀ b ∈ en,o.heap.size ≤ b:=fun b hb=>(aw.2.2 b hb).elim (am b) fun h=>Aw bg h
          have cf:=Aw bg aw.1
          refine Ah (Am cd (Av 7 rfl (bB c fun gi eq c=>(AF (i:=1) (S:=(· < eo.heap.size)) Cs Tryz.underlying72 rfl rfl rfl ep cc rfl (cc.own_ro (i:=0) rfl) eq fun gj er es ax cg et=>?_))))
          have bh:=cd.wr' ax.1 ax.2.1 (fun b hlt hb=>absurd hlt (AK.2 (ce b hb)))
          have eu:∀ b ∈ er,o.heap.size ≤ b:=fun b hb=>(ax.2.2 b hb).elim (ce b) fun h=>Aw cf h
          have ch:=Aw cf ax.1
          refine Ah (Am bh (Av 11 rfl (bB c fun ev ew c=>(AF (i:=1) (S:=(· < es.heap.size)) Cs Tryz.underlying72 rfl rfl rfl cg et rfl (v.ro (bh.below ch n cg)) ew fun ex ey gk bi bj ez=>?_))))
          have ay:=bh.wr' bi.1 bi.2.1 (fun b hlt hb=>absurd hlt (AK.2 (eu b hb)))
          have ci:=Aw ch bi.1
          refine Ah (Am ay (Ad 12 rfl d ay (AC rfl rfl (Ba ?_))))
          have u:=u.ro (ay.below ci n bj)
          have v:=v.ro (ay.below ci n bj)
          exact jx (a8 ev ex ey _ c bj (ez.sel [1] rfl)) rfl
        ·refine Bc (vs:=[(.agg #[(iv f.1),(iv f.2.1),(iv f.2.2.1),(iv f.2.2.2)])]) (l:=[f]) Cs Tryz.underlying72 rfl rfl rfl rfl rfl rfl (Bf o) (Sep.nil _ _) fun gl gm e0 az _ e1=>?_
         have cj:=tm n az
         have e2:=y.join az e1 n.size
         have ck:=t.ext az
         have cl:=Aw (Nat.le_refl o.heap.size) az.size
         refine Ah (Am ck (Av 0 rfl (Bc (vs:=[]) (l:=[]) Cs Tryz.underlying72 rfl rfl rfl rfl rfl rfl (Bf e0) (Sep.nil _ _) fun gn e3 e4 a0 _ cn=>?_)))
         have co:=tm cj a0
         have e5:=e2.join a0 cn cj.size
         have cp:∀ b ∈ e3,o.heap.size ≤ b:=fun b hb=>Aw cl ((cn.1 _ (List.mem_cons_self ..)).2.1 b hb).1
         have bk:=ck.ext a0
         have bl:=Aw cl a0.size
         refine Ah (Am bk (Av 4 rfl (bB c fun go e6 c=>(AF (i:=0) (S:=(· < e4.heap.size)) Cs Tryz.underlying72 rfl rfl rfl co e5 rfl (u.ro (bk.below bl n co)) e6 fun gp e7 e8 a1 e9 cq=>?_))))
         have cr:=bk.wr' a1.1 a1.2.1 (fun b hlt hb=>absurd hlt (AK.2 (cp b hb)))
         have cs:∀ b ∈ e7,o.heap.size ≤ b:=fun b hb=>(a1.2.2 b hb).elim (cp b) fun h=>Aw bl h
         have ct:=Aw bl a1.1
         refine Ah (Am cr (Av 7 rfl (bB c fun gq fa c=>(AF (i:=0) (S:=(· < e8.heap.size)) Cs Tryz.underlying72 rfl rfl rfl e9 cq rfl (cq.own_ro (i:=1) rfl) fa fun gr fb fc a2 cu fd=>?_))))
         have bm:=cr.wr' a2.1 a2.2.1 (fun b hlt hb=>absurd hlt (AK.2 (cs b hb)))
         have fe:∀ b ∈ fb,o.heap.size ≤ b:=fun b hb=>(a2.2.2 b hb).elim (cs b) fun h=>Aw ct h
         have cv:=Aw ct a2.1
         refine Ah (Am bm (Av 11 rfl (bB c fun ff fg c=>(AF (i:=0) (S:=(· < fc.heap.size)) Cs Tryz.underlying72 rfl rfl rfl cu fd rfl (v.ro (bm.below cv n cu)) fg fun fh fi gs bn bo fj=>?_))))
         have a3:=bm.wr' bn.1 bn.2.1 (fun b hlt hb=>absurd hlt (AK.2 (fe b hb)))
         have cw:=Aw cv bn.1
         refine Ah (Am a3 (Ad 12 rfl d a3 (AC rfl rfl (Ba ?_))))
         have u:=u.ro (a3.below cw n bo)
         have v:=v.ro (a3.below cw n bo)
         exact jx (a8 ff fh fi _ c bo (fj.sel [0] rfl)) rfl
      refine AQ B4 [] dn dp fun cx _ cy a4=>?_
      have j:=KeepX.refl cx []
      refine Ax 0 rfl d j (Ad 1 rfl d j (Tg rfl rfl rfl (Ax 2 rfl d j ?_)))
      rcases bE (decide (0 < aa)) with g | g
      ·replace c:=BA g c
       refine BF 3 rfl d g j (CQ 1 BD rfl a4 rfl (by simp) (BF 4 rfl d g j (Da rfl rfl (BF 5 rfl d g j (Da rfl rfl (BF 6 rfl d g j (GM rfl rfl rfl (bB c fun fk fl c=>(BF 7 rfl d g j (Bv (e:=Az) (i:=0) Tryz.underlying72 rfl rfl rfl a4 rfl fl ?_))))))))))
       rintro gt _ rfl fm gu
       refine BF 8 rfl d g j (BL BD rfl (fm.kx0) rfl (Av 9 rfl (wn rfl g (bB c fun fn fo c=>(Bu rfl Tryz.call136 cy a4 (OD cx f fk _ fo) rfl fun gv fp fq fr=>?_)))))
       have cz:=j.ext fp
       refine Ah (Am cz (Ad 10 rfl d cz (Ep rfl rfl g rfl (Ba ?_))))
       exact jx (bv fn _ c fq (fr.sel [0,1] rfl)) rfl
      ·replace c:=Cf g c
       refine AZ 3 rfl d g j (AZ 4 rfl d g j (AZ 5 rfl d g j (AZ 6 rfl d g j (AZ 7 rfl d g j (AZ 8 rfl d g j (AZ 9 rfl d g j (Ad 10 rfl d j (FV rfl rfl g rfl (Ba ?_)))))))))
       exact jx (bv false _ c cy (a4.sel [0,1] rfl)) rfl
   ·refine Bd (c5 ?_)
    refine Ap fun _ fs=>Ak fun _ ft=>wp 1 rfl (bB c fun gw fu c=>(Bu rfl Tryz.call137 a5 a6 (Qs w5 q s (a6.own_ro (i:=0) rfl) _ fu) rfl fun gx _ c0 c1=>(Aq 1 rfl (ft (A3 rfl c (fun _ c=>?_) (fun _ c=>?_))))))
    ·refine An 2 rfl ?_
     refine Ay ?_
     have fv:=c1.push0 (r:=Ab Az [] (.slice none 0 0) []) rfl fun _=>.inl ⟨rfl,rfl,rfl⟩
     refine rt hQ rfl rfl (by cases c; exact ⟨(.slice none 0 0),[],rfl,c0,fv.sel [0] rfl⟩)
    ·refine Au (fs ?_)
     refine An 3 rfl (Ay (rt hQ rfl rfl (by cases c; exact ⟨s,ab,rfl,c0,c1.sel [0] rfl⟩)))
theorem Ng (i:Ae) (j:Ae4) (o:Ac) (w:RO Ch i o j) (r:Bool) (b:HU j = some r) :
  A1 138 [o] i fun e w'=>e = .returned (.bool r) ∧ Bl i w':=by
 refine cm Tryz.func138 Tryz.ntmps138 rfl fun Q hQ hP hB hS=>?_
 unfold HU at b
 refine An 1 rfl (Ap fun _ ak=>(Ak fun _ al=>(wp 1 rfl (BX w Tryz.underlying41 rfl (Aq 1 rfl (al (A0 (AU (fun m a t=>∃ (l:Int),St 43 [(0,o),(5,o),(6,(iv (List.length j:Int))),(7,(iv l))] a ∧ Bl i t ∧ Sp i t [] ∧ FA j m l = some r) FU ?_ ?_))))))))
 ·exact fun a ha=>⟨0,ha.sb rfl,hB,(hS.sel [] rfl),b⟩
 ·rintro s a t ⟨l,ha,x,am,b⟩ bp an
  refine BE ?_ ha
  cases s with
  | zero=>exact Bg b
  | succ s =>
   obtain ⟨bq,ac⟩:∃ k,k = FA j s:=⟨_,rfl⟩
   rw [FA,← ac] at b
   refine An 1 rfl (Ap fun _ ao=>(A3 rfl b (fun _ b=>?_) (fun _ b=>?_)))
   ·refine Au (ao ?_)
    refine Ap fun _ ap=>A0 (Ak fun _ aq=>(wp 1 rfl (bB b fun p ar b=>(BP (e:=Ch) Tryz.underlying41 rfl rfl rfl w ar ?_))))
    rintro br _ rfl au
    refine BZ L2 rfl (au.ro x) rfl (Ei L2 rfl x am fun bs bt _ av aw=>(wp 1 rfl (Gj 0 L2 rfl rfl av aw rfl rfl rfl fun ax _ ay ad=>(Ah (aq (Ap fun az a0=>?_))))))
    obtain ⟨a1,a2,b⟩:=Cj b
    have q:∀ (y:Bool) (u:Ae) (_:a1 y = some r) (_:Bl i u) (_:Sp i u []),∀ a,St 43 [(0,o),(5,o),(6,(iv (List.length j:Int))),(7,(iv l)),(38,(.bool y))] a → az a u:=by
     intro y u b ae a3
     subst a2
     refine a0 (A3 rfl b (fun _ b=>?_) (fun _ b=>?_))
     ·refine An 1 rfl ?_
      refine Ay (rt hQ rfl rfl (by cases b; exact ⟨rfl,ae⟩))
     ·refine Au (ap ?_)
      refine As (Aq 2 rfl ?_)
      rw [ac] at b
      exact fun a ha=>an a _ s (AB s) ⟨(Ag (l + 1)),ha.sb rfl,ae,(a3.sel [] rfl),b⟩
    refine As (Bp ND rfl (AO 0 A4 rfl ad rfl rfl (wp 2 rfl (bB b fun a4 a5 b=>(Bu rfl Tryz.call77 ay ad (Cd ax p.1 0 (Ag (l - 1)) _ a5) rfl fun af _ v n=>(wp 2 rfl ?_))))))
    rcases bE (!a4) with c | c
    ·replace b:=BA c b
     refine wn rfl c (wp 1 rfl (wn rfl c (wp 1 rfl (wn rfl c (wp 1 rfl ?_)))))
     rcases bE (decide (0 < l)) with h | h
     ·replace b:=BA h b
      refine wo rfl h (wo rfl h (wo rfl h (wn rfl c (AA rfl rfl h rfl (AA rfl rfl c rfl (wp 1 rfl (wo rfl rfl (wo rfl rfl (wo rfl rfl (wo rfl rfl (AA rfl rfl rfl rfl (wp 1 rfl (wo rfl rfl (wo rfl rfl (wo rfl rfl (wo rfl rfl (AA rfl rfl rfl rfl (Ah ?_))))))))))))))))))
      exact jx (q true _ b v (n.sel [] rfl)) rfl
     ·replace b:=Cf h b
      refine wn rfl h (Bp ND rfl (wn rfl h (AO 0 A4 rfl n rfl rfl (wn rfl h (wp 1 rfl (wn rfl c (A9 rfl rfl h rfl (AA rfl rfl c rfl (wp 1 rfl ?_)))))))))
      rcases bE (p.1 != (-1)) with d | d
      ·replace b:=BA d b
       refine wo rfl d (wo rfl d (wo rfl d (wo rfl d (AA rfl rfl d rfl (wp 1 rfl (wo rfl rfl (wo rfl rfl (wo rfl rfl (wo rfl rfl (AA rfl rfl rfl rfl (Ah ?_)))))))))))
       exact jx (q true _ b v (n.sel [] rfl)) rfl
      ·replace b:=Cf d b
       refine wn rfl d (Bp NC rfl (wn rfl d (AO 0 A4 rfl n rfl rfl (wn rfl d (bB b fun a6 a7 b=>(Bu rfl Tryz.call77 v n (Cd af p.2.1 0 7 _ a7) rfl fun a8 _ ag z=>(wn rfl d (wp 1 rfl (A9 rfl rfl d rfl (wp 1 rfl ?_))))))))))
       rcases bE (!a6) with f | f
       ·replace b:=BA f b
        refine wo rfl f (wo rfl f (wo rfl f (wo rfl f (AA rfl rfl f rfl (Ah ?_)))))
        exact jx (q true _ b ag (z.sel [] rfl)) rfl
       ·replace b:=Cf f b
        refine wn rfl f (Bp NB rfl (wn rfl f (AO 0 A4 rfl z rfl rfl (wn rfl f (bB b fun a9 ba b=>(Bu rfl Tryz.call77 ag z (Cd a8 p.2.2 0 999 _ ba) rfl fun bu _ bb bc=>(wn rfl f (wp 1 rfl (A9 rfl rfl f rfl (Ah ?_))))))))))
        exact jx (q ((!a9)) _ b bb (bc.sel [] rfl)) rfl
    ·replace b:=Cf c b
     refine wo rfl c (wo rfl c (wo rfl c (Dn rfl rfl rfl (Dn rfl rfl rfl (Dn rfl rfl rfl (wo rfl c (A9 rfl rfl c rfl (wp 1 rfl (wn rfl rfl (Bp NC rfl (wn rfl rfl (AO 0 A4 rfl n rfl rfl (wn rfl rfl (bB b fun bd be b=>Bu rfl Tryz.call77 v n (Cd af p.2.1 0 7 _ be) rfl fun bf _ ah aa=>wn rfl rfl (wp 1 rfl (A9 rfl rfl rfl rfl (wp 1 rfl ?_)))))))))))))))))
     rcases bE (!bd) with g | g
     ·replace b:=BA g b
      refine wo rfl g (wo rfl g (wo rfl g (wo rfl g (AA rfl rfl g rfl (Ah ?_)))))
      exact jx (q true _ b ah (aa.sel [] rfl)) rfl
     ·replace b:=Cf g b
      refine wn rfl g (Bp NB rfl (wn rfl g (AO 0 A4 rfl aa rfl rfl (wn rfl g (bB b fun bg bh b=>(Bu rfl Tryz.call77 ah aa (Cd bf p.2.2 0 999 _ bh) rfl fun bv _ bi bj=>(wn rfl g (wp 1 rfl (A9 rfl rfl g rfl (Ah ?_))))))))))
      exact jx (q ((!bg)) _ b bi (bj.sel [] rfl)) rfl
   ·refine Bd (ak ?_)
    refine Ak fun _ bk=>wp 1 rfl (BX w Tryz.underlying41 rfl (bB b fun bw bl b=>(A7 rfl Tryz.call77 (Cd t (List.length j:Int) 1 60 _ bl) rfl ?_)))
    rintro _ bx ⟨rfl,bm⟩
    refine ⟨_,rfl,?_⟩
    have bn:=tm x bm
    refine Aq 1 rfl (bk (Ay (rt hQ rfl rfl (by cases b; exact ⟨rfl,bn⟩))))
theorem RF (j:Ae) (x0:Ae4) (p:Ac) (q:RO Ch j p x0) (d:(Int × Int × Int)) (r:(Ae4 × Bool)) (c:Ib x0 d = some r) :
  A1 95 [p,(.agg #[(iv d.1),(iv d.2.1),(iv d.2.2)])] j fun e w'=>∃ (q0:Ac) (G0:Al),e = .returned (.tuple #[q0,(.bool r.2)]) ∧ Bl j w' ∧ Sp j w' [Ab Ch G0 q0 r.1]:=by
 refine cm Tryz.func95 Tryz.ntmps95 rfl fun Q hQ m hB hS=>?_
 unfold Ib at c
 refine Ak fun _ bp=>CK rfl hB hS fun b2 w3 _ bq br=>Aq 2 rfl (bp (Ap fun K7 bt=>?_))
 obtain ⟨bu,bv,c⟩:=Cj c
 have ad:∀ (n:Ae4) (k:Ac) (s:Al) (o:Ae) (_:bu n = some r) (_:Bl j o) (_:Sp j o [Ab Ch s k n]),∀ a,St 22 [(0,p),(6,k)] a → K7 a o:=by
  intro n k s o c ao bw
  subst bv
  refine bt (Ap fun _ bx=>(Ap fun bz b0=>?_))
  obtain ⟨b1,b3,c⟩:=Cj c
  have ap:∀ (ae:Bool) (t:Ae) (_:b1 ae = some r) (_:Bl j t) (_:Sp j t [Ab Ch s k n]),∀ a,St 22 [(6,k),(20,(.bool ae))] a → bz a t:=by
   intro ae t c aq ar
   subst b3
   refine b0 (A3 rfl c (fun _ c=>?_) (fun _ c=>?_))
   ·refine An 2 rfl ?_
    refine Ay ?_
    have b4:=ar.push0 (r:=Ab Ch [] (.slice none 0 0) []) rfl fun _=>.inl ⟨rfl,rfl,rfl⟩
    refine rt hQ rfl rfl (by cases c; exact ⟨(.slice none 0 0),[],rfl,aq,b4.sel [0] rfl⟩)
   ·refine Au (bx ?_)
    refine An 3 rfl (Ay (rt hQ rfl rfl (by cases c; exact ⟨k,s,rfl,aq,ar.sel [0] rfl⟩)))
  refine As (wp 1 rfl (bB c fun b5 b6 c=>(Bu rfl Tryz.call138 ao bw (Ng o x0 p (q.ro ao) _ b6) rfl fun b7 _ au af=>(wp 2 rfl ?_))))
  rcases bE (!b5) with f | f
  ·replace c:=BA f c
   refine wo rfl f (wo rfl f (wo rfl f (AA rfl rfl f rfl (Ah ?_))))
   exact jx (ap true _ c au (af.sel [0] rfl)) rfl
  ·replace c:=Cf f c
   refine wn rfl f (wp 1 rfl (wn rfl f (bB c fun b8 b9 c=>(Bu rfl Tryz.call138 au af (Ng b7 n k (af.own_ro (i:=0) rfl) _ b9) rfl fun ds _ ca cb=>(wn rfl f (wp 1 rfl (A9 rfl rfl f rfl (Ah ?_))))))))
   exact jx (ap ((!b8)) _ c ca (cb.sel [0] rfl)) rfl
 refine AQ B4 [] bq br fun g _ u ag=>?_
 have v:=KeepX.refl g []
 refine Ax 1 rfl m v (Ad 3 rfl m v (CQ 0 L2 rfl ag rfl (by simp) (C0 (is:=[0,4]) (by kernel_rfl) rfl (Bb.2 ⟨⟨_,rfl,?_⟩,Bb.2 ⟨⟨_,rfl,?_⟩,fun _ h=>by cases h⟩⟩))))
 ·refine Bc (vs:=[]) (l:=[]) GG Tryz.underlying41 rfl rfl rfl rfl rfl rfl (Bf g) (Sep.nil _ _) fun dt cc av w _ aw=>?_
  have x:=tm u w
  have ax:=ag.join w aw u.size
  have y:∀ b ∈ cc,g.heap.size ≤ b:=fun b hb=>Aw (Nat.le_refl g.heap.size) ((aw.1 _ (List.mem_cons_self ..)).2.1 b hb).1
  have ah:=v.ext w
  have ay:=Aw (Nat.le_refl g.heap.size) w.size
  refine Ah (Am ah (C0 (is:=[2,4]) (by kernel_rfl) rfl (Bb.2 ⟨⟨_,rfl,?_⟩,Bb.2 ⟨⟨_,rfl,?_⟩,fun _ h=>by cases h⟩⟩)))
  ·refine bB c fun du cd c=>?_
   refine AF (i:=0) (S:=(· < av.heap.size)) GG Tryz.underlying41 rfl rfl rfl x ax rfl (q.ro x) cd fun dv ce cf ai az cg=>?_
   have a0:=ah.wr' ai.1 ai.2.1 (fun b hlt hb=>absurd hlt (AK.2 (y b hb)))
   have ch:∀ b ∈ ce,g.heap.size ≤ b:=fun b hb=>(ai.2.2 b hb).elim (y b) fun h=>Aw ay h
   refine Ah (Am a0 (Av 4 rfl (Bc (vs:=[(.agg #[(iv d.1),(iv d.2.1),(iv d.2.2)])]) (l:=[d]) GG Tryz.underlying41 rfl rfl rfl rfl rfl rfl (Bf cf) (Sep.nil _ _) fun dw dx ci aj _ cj=>?_)))
   have ck:=tm az aj
   have a1:=cg.join aj cj az.size
   have a2:=a0.ext aj
   refine Ah (Am a2 (Av 5 rfl (bB c fun cl cn c=>(AF (i:=1) (S:=(· < ci.heap.size)) GG Tryz.underlying41 rfl rfl rfl ck a1 rfl (a1.own_ro (i:=0) rfl) cn fun co cp dy a3 cq cr=>?_))))
   have a4:=a2.wr' a3.1 a3.2.1 (fun b hlt hb=>absurd hlt (AK.2 (ch b hb)))
   refine Ah (Am a4 (Ad 6 rfl m a4 (AC rfl rfl (Ba ?_))))
   exact jx (ad cl co cp _ c cq (cr.sel [1] rfl)) rfl
  ·refine Bc (vs:=[(.agg #[(iv d.1),(iv d.2.1),(iv d.2.2)])]) (l:=[d]) GG Tryz.underlying41 rfl rfl rfl rfl rfl rfl (Bf av) (Sep.nil _ _) fun dz d0 cs z _ ct=>?_
   have a5:=tm x z
   have cu:=ax.join z ct x.size
   have a6:=ah.ext z
   have cv:=Aw ay z.size
   refine Ah (Am a6 (Av 2 rfl (bB c fun d1 cw c=>(AF (i:=1) (S:=(· < cs.heap.size)) GG Tryz.underlying41 rfl rfl rfl a5 cu rfl (q.ro a5) cw fun d2 cx cy ak cz a7=>?_))))
   have a8:=a6.wr' ak.1 ak.2.1 (fun b hlt hb=>absurd hlt (AK.2 (y b hb)))
   have c0:∀ b ∈ cx,g.heap.size ≤ b:=fun b hb=>(ak.2.2 b hb).elim (y b) fun h=>Aw cv h
   refine Ah (Am a8 (Av 5 rfl (bB c fun c1 c2 c=>(AF (i:=1) (S:=(· < cy.heap.size)) GG Tryz.underlying41 rfl rfl rfl cz a7 rfl (a7.own_ro (i:=0) rfl) c2 fun c3 c4 d3 a9 c5 c6=>?_))))
   have ba:=a8.wr' a9.1 a9.2.1 (fun b hlt hb=>absurd hlt (AK.2 (c0 b hb)))
   refine Ah (Am ba (Ad 6 rfl m ba (AC rfl rfl (Ba ?_))))
   exact jx (ad c1 c3 c4 _ c c5 (c6.sel [1] rfl)) rfl
 ·refine Bc (vs:=[(.agg #[(iv d.1),(iv d.2.1),(iv d.2.2)])]) (l:=[d]) GG Tryz.underlying41 rfl rfl rfl rfl rfl rfl (Bf g) (Sep.nil _ _) fun d4 d5 c7 aa _ c8=>?_
  have bb:=tm u aa
  have c9:=ag.join aa c8 u.size
  have bc:=v.ext aa
  have bd:=Aw (Nat.le_refl g.heap.size) aa.size
  refine Ah (Am bc (Av 0 rfl (Bc (vs:=[]) (l:=[]) GG Tryz.underlying41 rfl rfl rfl rfl rfl rfl (Bf c7) (Sep.nil _ _) fun d6 da db ab _ be=>?_)))
  have bf:=tm bb ab
  have dc:=c9.join ab be bb.size
  have bg:∀ b ∈ da,g.heap.size ≤ b:=fun b hb=>Aw bd ((be.1 _ (List.mem_cons_self ..)).2.1 b hb).1
  have bh:=bc.ext ab
  have dd:=Aw bd ab.size
  refine Ah (Am bh (Av 2 rfl (bB c fun d7 de c=>(AF (i:=0) (S:=(· < db.heap.size)) GG Tryz.underlying41 rfl rfl rfl bf dc rfl (q.ro bf) de fun d8 df dg al dh bi=>?_))))
  have bj:=bh.wr' al.1 al.2.1 (fun b hlt hb=>absurd hlt (AK.2 (bg b hb)))
  have di:∀ b ∈ df,g.heap.size ≤ b:=fun b hb=>(al.2.2 b hb).elim (bg b) fun h=>Aw dd h
  refine Ah (Am bj (Av 5 rfl (bB c fun dj dk c=>(AF (i:=0) (S:=(· < dg.heap.size)) GG Tryz.underlying41 rfl rfl rfl dh bi rfl (bi.own_ro (i:=1) rfl) dk fun dl dm d9 bk dn dp=>?_))))
  have bl:=bj.wr' bk.1 bk.2.1 (fun b hlt hb=>absurd hlt (AK.2 (di b hb)))
  refine Ah (Am bl (Ad 6 rfl m bl (AC rfl rfl (Ba ?_))))
  exact jx (ad dj dl dm _ c dn (dp.sel [0] rfl)) rfl
theorem Pa (k:Ae) (d:(Ae1 × Ae1 × Int × Ae1 × Ae2 × Ae4 × (List Int) × (List Int) × Int)) (g:Nat) (q:Al) (x1:(List Ai)) (n:(List Int)) (o:Ac) (p:Al) (jm:Sep 0 k [A2 B3 74 q g d,Ab Ar p o n]) (r:(Bool × (Ae1 × Ae1 × Int × Ae1 × Ae2 × Ae4 × (List Int) × (List Int) × Int))) (c:C1 d x1 n = some r) :
  A1 79 [(.pointer (some ⟨g,0,none⟩)),(.string (B1 x1)),o] k fun e w'=>∃ (H_0:Al),e = .returned (.bool r.1) ∧ Below 0 (wE k) w' ∧ Sep 0 w' [A6 k (Be [A2 B3 74 q g d,Ab Ar p o n]),A2 B3 74 H_0 g r.2]:=by
 refine G4 Tryz.func79 rfl Tryz.ntmps79 rfl rfl fun Q hQ f=>?_
 have hB:Bl (wE k) k:=Ej k
 have hS:Sp (wE k) k [A6 k (Be [A2 B3 74 q g d,Ab Ar p o n]),A2 B3 74 q g d,Ab Ar p o n]:=jm.rest
 unfold C1 at c
 refine An 1 rfl (An 1 rfl (Ap fun K3 jp=>?_))
 obtain ⟨jq,jr,c⟩:=Nn c
 have aj:∀ (df:(Ae1 × Ae1 × Int × Ae1 × Ae2 × Ae4 × (List Int) × (List Int) × Int)) (dg:Bool) (dh:Al) (b8:Ae) (_:jq df dg = some r) (_:Bl (wE k) b8) (_:Sp (wE k) b8 [A6 k (Be [A2 B3 74 q g d,Ab Ar p o n]),A2 B3 74 dh g df]),∀ a,St 174 [(7,(.bool dg))] a → K3 a b8:=by
  intro df dg dh b8 c js jt
  subst jr
  refine jp (An 2 rfl (Ay (rt hQ rfl rfl (by cases c; exact ⟨dh,rfl,js,jt.sel [0,1] rfl⟩))))
 refine An 1 rfl (A0 (Ak fun _ ju=>(AP rfl rfl rfl (Aq 1 rfl (ju (A3 rfl c (fun _ c=>?_) (fun _ c=>?_)))))))
 ·obtain ⟨a0,aa,a3,ab,a4,ac,a5,ad,a6,ae,a7,af,a8,ag,jv⟩:=Hs (hS.sel [1,0,2] rfl)
  refine AQ B4 ((((((([g] ++ aa) ++ ab) ++ ac) ++ ad) ++ ae) ++ af) ++ ag) hB jv fun ah _ a9 t=>?_
  have ak:=KeepX.refl ah ((((((([g] ++ aa) ++ ab) ++ ac) ++ ad) ++ ae) ++ af) ++ ag)
  refine Ax 0 rfl f ak (Ax 1 rfl f ak (Ad 2 rfl f ak (B8 rfl rfl (Ad 3 rfl f ak (C9 IU rfl (Ax 6 rfl f ak (bB c fun y jw c=>(Ad 7 rfl f ak (CA (e:=Ar) (i:=9) Tryz.underlying36 rfl rfl rfl t rfl jw ?_)))))))))
  rintro sv _ rfl jy sw
  refine Ad 8 rfl f ak (BL A4 rfl (fun w hw=>jy.keepS (fun b m=>(hw.blk b (((t.get (i:=9) rfl).2.1 b m).2) (fun hb=>(AX.1 hb).elim (fun hb=>(AX.1 hb).elim (fun hb=>(AX.1 hb).elim (fun hb=>(AX.1 hb).elim (fun hb=>(AX.1 hb).elim (fun hb=>(AX.1 hb).elim (fun hb=>(AX.1 hb).elim (t.disj (i:=9) (j:=0) rfl rfl rfl b m) (t.disj (i:=9) (j:=1) rfl rfl rfl b m)) (t.disj (i:=9) (j:=2) rfl rfl rfl b m)) (t.disj (i:=9) (j:=3) rfl rfl rfl b m)) (t.disj (i:=9) (j:=4) rfl rfl rfl b m)) (t.disj (i:=9) (j:=5) rfl rfl rfl b m)) (t.disj (i:=9) (j:=6) rfl rfl rfl b m)) (t.disj (i:=9) (j:=7) rfl rfl rfl b m)))) (fun _ h=>h)) rfl (Ax 9 rfl f ak (bB c fun z jz c=>(Ad 10 rfl f ak (CA (e:=Ar) (i:=9) Tryz.underlying36 rfl rfl rfl t rfl jz ?_)))))
  rintro sx _ rfl j0 sy
  refine Ad 11 rfl f ak (BL A4 rfl (fun w hw=>j0.keepS (fun b m=>(hw.blk b (((t.get (i:=9) rfl).2.1 b m).2) (fun hb=>(AX.1 hb).elim (fun hb=>(AX.1 hb).elim (fun hb=>(AX.1 hb).elim (fun hb=>(AX.1 hb).elim (fun hb=>(AX.1 hb).elim (fun hb=>(AX.1 hb).elim (fun hb=>(AX.1 hb).elim (t.disj (i:=9) (j:=0) rfl rfl rfl b m) (t.disj (i:=9) (j:=1) rfl rfl rfl b m)) (t.disj (i:=9) (j:=2) rfl rfl rfl b m)) (t.disj (i:=9) (j:=3) rfl rfl rfl b m)) (t.disj (i:=9) (j:=4) rfl rfl rfl b m)) (t.disj (i:=9) (j:=5) rfl rfl rfl b m)) (t.disj (i:=9) (j:=6) rfl rfl rfl b m)) (t.disj (i:=9) (j:=7) rfl rfl rfl b m)))) (fun _ h=>h)) rfl (Ad 12 rfl f ak (HR (zs:=[(iv 0),(iv 0)]) (out:=[(iv y),(iv z)]) (vs:=[(iv y),(iv z)]) (css:=[[(iv y)],[(iv z)]]) Bs L4 rfl rfl rfl rfl rfl (C0 (is:=[4,13]) (by kernel_rfl) rfl (Bb.2 ⟨⟨_,rfl,?_⟩,Bb.2 ⟨⟨_,rfl,?_⟩,fun _ h=>by cases h⟩⟩)))))
  ·refine AO 0 Cm rfl t rfl rfl ?_
   refine Ah (Am ak (C0 (is:=[5,13]) (by kernel_rfl) rfl (Bb.2 ⟨⟨_,rfl,?_⟩,Bb.2 ⟨⟨_,rfl,?_⟩,fun _ h=>by cases h⟩⟩)))
   ·refine bB c fun sz j1 c=>?_
    refine A7 rfl Tryz.call90 (IG ah d.1 a0 (t.own_ro (i:=1) rfl) _ j1) rfl ?_
    rintro _ j2 ⟨s0,j3,rfl,b9,fd⟩
    refine ⟨_,rfl,?_⟩
    have fe:=tm a9 b9
    have ff:∀ b ∈ j3,ah.heap.size ≤ b:=fun b hb=>Aw (Nat.le_refl ah.heap.size) ((fd.get (i:=0) rfl).2.1 b hb).1
    have j4:=t.join b9 fd a9.size
    have fg:=ak.ext b9
    have j5:=Aw (Nat.le_refl ah.heap.size) b9.size
    refine Ah (Am fg (Av 13 rfl (Bc (vs:=[(.agg #[(iv y),(iv z)])]) (l:=[(y,z)]) CD Tryz.underlying26 rfl rfl rfl rfl rfl rfl (Bf j2) (Sep.nil _ _) fun di dj j6 ca _ j7=>?_)))
    have j8:=tm fe ca
    have fh:=j4.join ca j7 fe.size
    have fi:=fg.ext ca
    have fj:=Aw j5 ca.size
    refine Ah (Am fi (Av 14 rfl (bB c fun dk j9 c=>(AF (i:=1) (S:=(· < j6.heap.size)) CD Tryz.underlying26 rfl rfl rfl j8 fh rfl (fh.own_ro (i:=0) rfl) j9 fun dl cb ka cc fk dm=>?_))))
    have fl:=fi.wr' cc.1 cc.2.1 (fun b hlt hb=>absurd hlt (AK.2 (ff b hb)))
    have fm:∀ b ∈ cb,ah.heap.size ≤ b:=fun b hb=>(cc.2.2 b hb).elim (ff b) fun h=>Aw fj h
    have kb:=Aw fj cc.1
    refine Ah (Am fl (Av 15 rfl (bB c fun ba kc c=>(A7 rfl Tryz.call89 (J7 ka dk dl cb (dm.sel [1] rfl).base0 _ kc) rfl ?_))))
    rintro _ dn ⟨bt,bb,rfl,kd,cd⟩
    refine ⟨_,rfl,?_⟩
    have fn:=dm.takeB [1] rfl (M:=[Ab Ao cb dl dk]) rfl fk kd cd
    have ke:Sp (wE k) dn [Ab Ao bb bt ba.1,Ab Ao dj di [(y,z)],A5 g 74 [a0,a3,(iv d.2.2.1),a4,a5,a6,a7,a8,(iv d.2.2.2.2.2.2.2.2)],Ab Ao aa a0 d.1,Ab Ao ab a3 d.2.1,Ab BN ac a4 d.2.2.2.1,Ab Az ad a5 d.2.2.2.2.1,Ab Ch ae a6 d.2.2.2.2.2.1,Ab Ar af a7 d.2.2.2.2.2.2.1,Ab Ar ag a8 d.2.2.2.2.2.2.2.1,A6 k (Be [A2 B3 74 q g d,Ab Ar p o n]),Ab Ar p o n]:=dm.take [1] [0,2,3,4,5,6,7,8,9,10,11] rfl (M:=[Ab Ao cb dl dk]) rfl cd fk.size
    have kf:∀ b ∈ bb,ah.heap.size ≤ b:=fun b hb=>(KI cd (i:=0) rfl b hb).elim ((BQ (fm) CV) b) fun h=>Aw kb h
    have ce:=fl.tk cd (BQ (fun b hb hlt=>absurd hlt (AK.2 (fm b hb))) CV)
    refine Ah (Am ce (Ad 16 rfl f ce (AV rfl rfl rfl (Ad 17 rfl f ce (AV rfl rfl rfl (Av 18 rfl ?_))))))
    have dp:Sp (wE k) dn [A2 B3 74 ([aa,ab,ac,ad,ae,af,ag].flatten) g d,Ab Ao bb bt ba.1,Ab Ao dj di [(y,z)],A6 k (Be [A2 B3 74 q g d,Ab Ar p o n]),Ab Ar p o n]:=DC (ke.sel [2,3,4,5,6,7,8,9,0,1,10,11] rfl)
    refine bB c fun dq kg c=>A7 rfl Tryz.call88 (GY dn d g ([aa,ab,ac,ad,ae,af,ag].flatten) ba.1 bt bb ba.2 (dp.sel [0,1] rfl).base0 _ kg) rfl ?_
    rintro _ kh ⟨fo,rfl,ki,dr⟩
    refine ⟨_,rfl,?_⟩
    have kj:=dp.takeB [0,1] rfl (M:=[A2 B3 74 ([aa,ab,ac,ad,ae,af,ag].flatten) g d,Ab Ao bb bt ba.1]) rfl fn ki dr
    have kk:Sp (wE k) kh [A2 B3 74 fo g dq.2,Ab Ao dj di [(y,z)],A6 k (Be [A2 B3 74 q g d,Ab Ar p o n]),Ab Ar p o n]:=dp.take [0,1] [2,3,4] rfl (M:=[A2 B3 74 ([aa,ab,ac,ad,ae,af,ag].flatten) g d,Ab Ao bb bt ba.1]) rfl dr fn.size
    have fp:=ce.tk dr (BQ (Pr (fun b hb hlt=>(fun _ _ h=>At _ (At _ (At _ (At _ (At _ (At _ (At _ (h)))))))) b hlt hb) (Bt (fun b hb hlt=>(fun _ _ h=>At _ (At _ (At _ (At _ (At _ (At _ (Bi _ h))))))) b hlt hb) (Bt (fun b hb hlt=>(fun _ _ h=>At _ (At _ (At _ (At _ (At _ (Bi _ h)))))) b hlt hb) (Bt (fun b hb hlt=>(fun _ _ h=>At _ (At _ (At _ (At _ (Bi _ h))))) b hlt hb) (Bt (fun b hb hlt=>(fun _ _ h=>At _ (At _ (At _ (Bi _ h)))) b hlt hb) (Bt (fun b hb hlt=>(fun _ _ h=>At _ (At _ (Bi _ h))) b hlt hb) (Bt (fun b hb hlt=>(fun _ _ h=>At _ (Bi _ h)) b hlt hb) (Bt (fun b hb hlt=>(fun _ _ h=>Bi _ h) b hlt hb) Iu)))))))) (BQ (fun b hb hlt=>absurd hlt (AK.2 (kf b hb))) CV))
    refine Ah (Am fp (Ad 19 rfl f fp (AC rfl rfl (Ba ?_))))
    exact jx (aj (dq.2) (dq.1) fo _ c kj (kk.sel [2,0] rfl)) rfl
   ·refine Bc (vs:=[(.agg #[(iv y),(iv z)])]) (l:=[(y,z)]) CD Tryz.underlying26 rfl rfl rfl rfl rfl rfl (Bf ah) (Sep.nil _ _) fun ds dt kl cf _ km=>?_
    have fq:=tm a9 cf
    have fr:=t.join cf km a9.size
    have fs:=ak.ext cf
    have ft:=Aw (Nat.le_refl ah.heap.size) cf.size
    refine Ah (Am fs (Av 5 rfl (bB c fun s1 kn c=>(A7 rfl Tryz.call90 (IG kl d.1 a0 (fr.own_ro (i:=2) rfl) _ kn) rfl ?_))))
    rintro _ ko ⟨s2,kp,rfl,cg,fu⟩
    refine ⟨_,rfl,?_⟩
    have kq:=tm fq cg
    have fv:∀ b ∈ kp,ah.heap.size ≤ b:=fun b hb=>Aw ft ((fu.get (i:=0) rfl).2.1 b hb).1
    have fw:=fr.join cg fu fq.size
    have fx:=fs.ext cg
    have fy:=Aw ft cg.size
    refine Ah (Am fx (Av 14 rfl (bB c fun du kr c=>(AF (i:=0) (S:=(· < ko.heap.size)) CD Tryz.underlying26 rfl rfl rfl kq fw rfl (fw.own_ro (i:=1) rfl) kr fun dv ch ks ci fz dw=>?_))))
    have f0:=fx.wr' ci.1 ci.2.1 (fun b hlt hb=>absurd hlt (AK.2 (fv b hb)))
    have f1:∀ b ∈ ch,ah.heap.size ≤ b:=fun b hb=>(ci.2.2 b hb).elim (fv b) fun h=>Aw fy h
    have kt:=Aw fy ci.1
    refine Ah (Am f0 (Av 15 rfl (bB c fun bc ku c=>(A7 rfl Tryz.call89 (J7 ks du dv ch (dw.sel [0] rfl).base0 _ ku) rfl ?_))))
    rintro _ dx ⟨bu,bd,rfl,kv,cj⟩
    refine ⟨_,rfl,?_⟩
    have f2:=dw.takeB [0] rfl (M:=[Ab Ao ch dv du]) rfl fz kv cj
    have kw:Sp (wE k) dx [Ab Ao bd bu bc.1,Ab Ao dt ds [(y,z)],A5 g 74 [a0,a3,(iv d.2.2.1),a4,a5,a6,a7,a8,(iv d.2.2.2.2.2.2.2.2)],Ab Ao aa a0 d.1,Ab Ao ab a3 d.2.1,Ab BN ac a4 d.2.2.2.1,Ab Az ad a5 d.2.2.2.2.1,Ab Ch ae a6 d.2.2.2.2.2.1,Ab Ar af a7 d.2.2.2.2.2.2.1,Ab Ar ag a8 d.2.2.2.2.2.2.2.1,A6 k (Be [A2 B3 74 q g d,Ab Ar p o n]),Ab Ar p o n]:=dw.take [0] [1,2,3,4,5,6,7,8,9,10,11] rfl (M:=[Ab Ao ch dv du]) rfl cj fz.size
    have kx:∀ b ∈ bd,ah.heap.size ≤ b:=fun b hb=>(KI cj (i:=0) rfl b hb).elim ((BQ (f1) CV) b) fun h=>Aw kt h
    have ck:=f0.tk cj (BQ (fun b hb hlt=>absurd hlt (AK.2 (f1 b hb))) CV)
    refine Ah (Am ck (Ad 16 rfl f ck (AV rfl rfl rfl (Ad 17 rfl f ck (AV rfl rfl rfl (Av 18 rfl ?_))))))
    have dy:Sp (wE k) dx [A2 B3 74 ([aa,ab,ac,ad,ae,af,ag].flatten) g d,Ab Ao bd bu bc.1,Ab Ao dt ds [(y,z)],A6 k (Be [A2 B3 74 q g d,Ab Ar p o n]),Ab Ar p o n]:=DC (kw.sel [2,3,4,5,6,7,8,9,0,1,10,11] rfl)
    refine bB c fun dz ky c=>A7 rfl Tryz.call88 (GY dx d g ([aa,ab,ac,ad,ae,af,ag].flatten) bc.1 bu bd bc.2 (dy.sel [0,1] rfl).base0 _ ky) rfl ?_
    rintro _ kz ⟨f3,rfl,k0,d0⟩
    refine ⟨_,rfl,?_⟩
    have k1:=dy.takeB [0,1] rfl (M:=[A2 B3 74 ([aa,ab,ac,ad,ae,af,ag].flatten) g d,Ab Ao bd bu bc.1]) rfl f2 k0 d0
    have k2:Sp (wE k) kz [A2 B3 74 f3 g dz.2,Ab Ao dt ds [(y,z)],A6 k (Be [A2 B3 74 q g d,Ab Ar p o n]),Ab Ar p o n]:=dy.take [0,1] [2,3,4] rfl (M:=[A2 B3 74 ([aa,ab,ac,ad,ae,af,ag].flatten) g d,Ab Ao bd bu bc.1]) rfl d0 f2.size
    have f4:=ck.tk d0 (BQ (Pr (fun b hb hlt=>(fun _ _ h=>At _ (At _ (At _ (At _ (At _ (At _ (At _ (h)))))))) b hlt hb) (Bt (fun b hb hlt=>(fun _ _ h=>At _ (At _ (At _ (At _ (At _ (At _ (Bi _ h))))))) b hlt hb) (Bt (fun b hb hlt=>(fun _ _ h=>At _ (At _ (At _ (At _ (At _ (Bi _ h)))))) b hlt hb) (Bt (fun b hb hlt=>(fun _ _ h=>At _ (At _ (At _ (At _ (Bi _ h))))) b hlt hb) (Bt (fun b hb hlt=>(fun _ _ h=>At _ (At _ (At _ (Bi _ h)))) b hlt hb) (Bt (fun b hb hlt=>(fun _ _ h=>At _ (At _ (Bi _ h))) b hlt hb) (Bt (fun b hb hlt=>(fun _ _ h=>At _ (Bi _ h)) b hlt hb) (Bt (fun b hb hlt=>(fun _ _ h=>Bi _ h) b hlt hb) Iu)))))))) (BQ (fun b hb hlt=>absurd hlt (AK.2 (kx b hb))) CV))
    refine Ah (Am f4 (Ad 19 rfl f f4 (AC rfl rfl (Ba ?_))))
    exact jx (aj (dz.2) (dz.1) f3 _ c k1 (k2.sel [2,0] rfl)) rfl
  ·refine Bc (vs:=[(.agg #[(iv y),(iv z)])]) (l:=[(y,z)]) CD Tryz.underlying26 rfl rfl rfl rfl rfl rfl (Bf ah) (Sep.nil _ _) fun d1 d2 k3 cl _ k4=>?_
   have f5:=tm a9 cl
   have d3:=t.join cl k4 a9.size
   have d4:=ak.ext cl
   have f6:=Aw (Nat.le_refl ah.heap.size) cl.size
   refine Ah (Am d4 (Av 4 rfl (AO 1 Cm rfl d3 rfl rfl (Ah (Am d4 (Av 5 rfl (bB c fun s3 k5 c=>(A7 rfl Tryz.call90 (IG k3 d.1 a0 (d3.own_ro (i:=2) rfl) _ k5) rfl ?_))))))))
   rintro _ k6 ⟨s4,k7,rfl,cm,f7⟩
   refine ⟨_,rfl,?_⟩
   have k8:=tm f5 cm
   have f8:∀ b ∈ k7,ah.heap.size ≤ b:=fun b hb=>Aw f6 ((f7.get (i:=0) rfl).2.1 b hb).1
   have f9:=d3.join cm f7 f5.size
   have ga:=d4.ext cm
   have gb:=Aw f6 cm.size
   refine Ah (Am ga (Av 14 rfl (bB c fun d5 k9 c=>(AF (i:=0) (S:=(· < k6.heap.size)) CD Tryz.underlying26 rfl rfl rfl k8 f9 rfl (f9.own_ro (i:=1) rfl) k9 fun d6 cn la co gc d7=>?_))))
   have gd:=ga.wr' co.1 co.2.1 (fun b hlt hb=>absurd hlt (AK.2 (f8 b hb)))
   have ge:∀ b ∈ cn,ah.heap.size ≤ b:=fun b hb=>(co.2.2 b hb).elim (f8 b) fun h=>Aw gb h
   have lb:=Aw gb co.1
   refine Ah (Am gd (Av 15 rfl (bB c fun be lc c=>(A7 rfl Tryz.call89 (J7 la d5 d6 cn (d7.sel [0] rfl).base0 _ lc) rfl ?_))))
   rintro _ d8 ⟨bv,bf,rfl,ld,cp⟩
   refine ⟨_,rfl,?_⟩
   have gf:=d7.takeB [0] rfl (M:=[Ab Ao cn d6 d5]) rfl gc ld cp
   have le:Sp (wE k) d8 [Ab Ao bf bv be.1,Ab Ao d2 d1 [(y,z)],A5 g 74 [a0,a3,(iv d.2.2.1),a4,a5,a6,a7,a8,(iv d.2.2.2.2.2.2.2.2)],Ab Ao aa a0 d.1,Ab Ao ab a3 d.2.1,Ab BN ac a4 d.2.2.2.1,Ab Az ad a5 d.2.2.2.2.1,Ab Ch ae a6 d.2.2.2.2.2.1,Ab Ar af a7 d.2.2.2.2.2.2.1,Ab Ar ag a8 d.2.2.2.2.2.2.2.1,A6 k (Be [A2 B3 74 q g d,Ab Ar p o n]),Ab Ar p o n]:=d7.take [0] [1,2,3,4,5,6,7,8,9,10,11] rfl (M:=[Ab Ao cn d6 d5]) rfl cp gc.size
   have lf:∀ b ∈ bf,ah.heap.size ≤ b:=fun b hb=>(KI cp (i:=0) rfl b hb).elim ((BQ (ge) CV) b) fun h=>Aw lb h
   have cq:=gd.tk cp (BQ (fun b hb hlt=>absurd hlt (AK.2 (ge b hb))) CV)
   refine Ah (Am cq (Ad 16 rfl f cq (AV rfl rfl rfl (Ad 17 rfl f cq (AV rfl rfl rfl (Av 18 rfl ?_))))))
   have d9:Sp (wE k) d8 [A2 B3 74 ([aa,ab,ac,ad,ae,af,ag].flatten) g d,Ab Ao bf bv be.1,Ab Ao d2 d1 [(y,z)],A6 k (Be [A2 B3 74 q g d,Ab Ar p o n]),Ab Ar p o n]:=DC (le.sel [2,3,4,5,6,7,8,9,0,1,10,11] rfl)
   refine bB c fun ea lg c=>A7 rfl Tryz.call88 (GY d8 d g ([aa,ab,ac,ad,ae,af,ag].flatten) be.1 bv bf be.2 (d9.sel [0,1] rfl).base0 _ lg) rfl ?_
   rintro _ lh ⟨gg,rfl,li,eb⟩
   refine ⟨_,rfl,?_⟩
   have lj:=d9.takeB [0,1] rfl (M:=[A2 B3 74 ([aa,ab,ac,ad,ae,af,ag].flatten) g d,Ab Ao bf bv be.1]) rfl gf li eb
   have lk:Sp (wE k) lh [A2 B3 74 gg g ea.2,Ab Ao d2 d1 [(y,z)],A6 k (Be [A2 B3 74 q g d,Ab Ar p o n]),Ab Ar p o n]:=d9.take [0,1] [2,3,4] rfl (M:=[A2 B3 74 ([aa,ab,ac,ad,ae,af,ag].flatten) g d,Ab Ao bf bv be.1]) rfl eb gf.size
   have gh:=cq.tk eb (BQ (Pr (fun b hb hlt=>(fun _ _ h=>At _ (At _ (At _ (At _ (At _ (At _ (At _ (h)))))))) b hlt hb) (Bt (fun b hb hlt=>(fun _ _ h=>At _ (At _ (At _ (At _ (At _ (At _ (Bi _ h))))))) b hlt hb) (Bt (fun b hb hlt=>(fun _ _ h=>At _ (At _ (At _ (At _ (At _ (Bi _ h)))))) b hlt hb) (Bt (fun b hb hlt=>(fun _ _ h=>At _ (At _ (At _ (At _ (Bi _ h))))) b hlt hb) (Bt (fun b hb hlt=>(fun _ _ h=>At _ (At _ (At _ (Bi _ h)))) b hlt hb) (Bt (fun b hb hlt=>(fun _ _ h=>At _ (At _ (Bi _ h))) b hlt hb) (Bt (fun b hb hlt=>(fun _ _ h=>At _ (Bi _ h)) b hlt hb) (Bt (fun b hb hlt=>(fun _ _ h=>Bi _ h) b hlt hb) Iu)))))))) (BQ (fun b hb hlt=>absurd hlt (AK.2 (lf b hb))) CV))
   refine Ah (Am gh (Ad 19 rfl f gh (AC rfl rfl (Ba ?_))))
   exact jx (aj (ea.2) (ea.1) gg _ c lj (lk.sel [2,0] rfl)) rfl
 ·refine Ak fun _ ll=>?_
  refine AP rfl rfl rfl (Aq 1 rfl (ll (A3 rfl c (fun _ c=>?_) (fun _ c=>?_))))
  ·obtain ⟨lm,bg,s5,bh,s6,bi,s7,bj,s8,bk,s9,bl,ta,bm,ln⟩:=Hs (hS.sel [1,0,2] rfl)
   refine AQ B4 ((((((([g] ++ bg) ++ bh) ++ bi) ++ bj) ++ bk) ++ bl) ++ bm) hB ln fun cr _ gi s=>?_
   have ai:=KeepX.refl cr ((((((([g] ++ bg) ++ bh) ++ bi) ++ bj) ++ bk) ++ bl) ++ bm)
   refine Ax 0 rfl f ai (Ax 1 rfl f ai (Ad 2 rfl f ai (B8 rfl rfl (Ad 3 rfl f ai (C9 IU rfl (Ax 5 rfl f ai (bB c fun lo lp c=>(Ad 6 rfl f ai (CA (e:=Ar) (i:=9) Tryz.underlying36 rfl rfl rfl s rfl lp ?_)))))))))
   rintro tb _ rfl lq tc
   refine Ad 7 rfl f ai (BL A4 rfl (fun w hw=>lq.keepS (fun b m=>(hw.blk b (((s.get (i:=9) rfl).2.1 b m).2) (fun hb=>(AX.1 hb).elim (fun hb=>(AX.1 hb).elim (fun hb=>(AX.1 hb).elim (fun hb=>(AX.1 hb).elim (fun hb=>(AX.1 hb).elim (fun hb=>(AX.1 hb).elim (fun hb=>(AX.1 hb).elim (s.disj (i:=9) (j:=0) rfl rfl rfl b m) (s.disj (i:=9) (j:=1) rfl rfl rfl b m)) (s.disj (i:=9) (j:=2) rfl rfl rfl b m)) (s.disj (i:=9) (j:=3) rfl rfl rfl b m)) (s.disj (i:=9) (j:=4) rfl rfl rfl b m)) (s.disj (i:=9) (j:=5) rfl rfl rfl b m)) (s.disj (i:=9) (j:=6) rfl rfl rfl b m)) (s.disj (i:=9) (j:=7) rfl rfl rfl b m)))) (fun _ h=>h)) rfl (Ax 8 rfl f ai (bB c fun cs lr c=>(Ad 9 rfl f ai (CA (e:=Ar) (i:=9) Tryz.underlying36 rfl rfl rfl s rfl lr ?_)))))
   rintro td _ rfl ls te
   refine Ad 10 rfl f ai (BL A4 rfl (fun w hw=>ls.keepS (fun b m=>(hw.blk b (((s.get (i:=9) rfl).2.1 b m).2) (fun hb=>(AX.1 hb).elim (fun hb=>(AX.1 hb).elim (fun hb=>(AX.1 hb).elim (fun hb=>(AX.1 hb).elim (fun hb=>(AX.1 hb).elim (fun hb=>(AX.1 hb).elim (fun hb=>(AX.1 hb).elim (s.disj (i:=9) (j:=0) rfl rfl rfl b m) (s.disj (i:=9) (j:=1) rfl rfl rfl b m)) (s.disj (i:=9) (j:=2) rfl rfl rfl b m)) (s.disj (i:=9) (j:=3) rfl rfl rfl b m)) (s.disj (i:=9) (j:=4) rfl rfl rfl b m)) (s.disj (i:=9) (j:=5) rfl rfl rfl b m)) (s.disj (i:=9) (j:=6) rfl rfl rfl b m)) (s.disj (i:=9) (j:=7) rfl rfl rfl b m)))) (fun _ h=>h)) rfl (Ax 11 rfl f ai (bB c fun ct lt c=>(Ad 12 rfl f ai (CA (e:=Ar) (i:=9) Tryz.underlying36 rfl rfl rfl s rfl lt ?_)))))
   rintro tf _ rfl lu tg
   refine Ad 13 rfl f ai (BL A4 rfl (fun w hw=>lu.keepS (fun b m=>(hw.blk b (((s.get (i:=9) rfl).2.1 b m).2) (fun hb=>(AX.1 hb).elim (fun hb=>(AX.1 hb).elim (fun hb=>(AX.1 hb).elim (fun hb=>(AX.1 hb).elim (fun hb=>(AX.1 hb).elim (fun hb=>(AX.1 hb).elim (fun hb=>(AX.1 hb).elim (s.disj (i:=9) (j:=0) rfl rfl rfl b m) (s.disj (i:=9) (j:=1) rfl rfl rfl b m)) (s.disj (i:=9) (j:=2) rfl rfl rfl b m)) (s.disj (i:=9) (j:=3) rfl rfl rfl b m)) (s.disj (i:=9) (j:=4) rfl rfl rfl b m)) (s.disj (i:=9) (j:=5) rfl rfl rfl b m)) (s.disj (i:=9) (j:=6) rfl rfl rfl b m)) (s.disj (i:=9) (j:=7) rfl rfl rfl b m)))) (fun _ h=>h)) rfl (Ad 14 rfl f ai (HR (zs:=[(iv 0),(iv 0)]) (out:=[(iv cs),(iv ct)]) (vs:=[(iv cs),(iv ct)]) (css:=[[(iv cs)],[(iv ct)]]) Bs L4 rfl rfl rfl rfl rfl (Av 4 rfl (AO 0 Cm rfl s rfl rfl (Ah (Am ai (Av 15 rfl (bB c fun bw lv c=>(A7 rfl Tryz.call91 (P5 cr d.1 lm (s.own_ro (i:=1) rfl) lo (cs,ct) _ lv) rfl ?_))))))))))
   rintro _ gj ⟨cu,bx,rfl,ec,gk⟩
   refine ⟨_,rfl,?_⟩
   have gl:=tm gi ec
   have lw:∀ b ∈ bx,cr.heap.size ≤ b:=fun b hb=>Aw (Nat.le_refl cr.heap.size) ((gk.get (i:=0) rfl).2.1 b hb).1
   have lx:=s.join ec gk gi.size
   have cv:=ai.ext ec
   refine Ah (Am cv (Ad 16 rfl f cv (AV rfl rfl rfl (Ad 17 rfl f cv (AV rfl rfl rfl (Av 18 rfl ?_))))))
   have ed:Sp (wE k) gj [A2 B3 74 ([bg,bh,bi,bj,bk,bl,bm].flatten) g d,Ab Ao bx cu bw.1,A6 k (Be [A2 B3 74 q g d,Ab Ar p o n]),Ab Ar p o n]:=DC (lx.sel [1,2,3,4,5,6,7,8,0,9,10] rfl)
   refine bB c fun ee ly c=>A7 rfl Tryz.call88 (GY gj d g ([bg,bh,bi,bj,bk,bl,bm].flatten) bw.1 cu bx bw.2 (ed.sel [0,1] rfl).base0 _ ly) rfl ?_
   rintro _ lz ⟨gm,rfl,l0,ef⟩
   refine ⟨_,rfl,?_⟩
   have l1:=ed.takeB [0,1] rfl (M:=[A2 B3 74 ([bg,bh,bi,bj,bk,bl,bm].flatten) g d,Ab Ao bx cu bw.1]) rfl gl l0 ef
   have l2:Sp (wE k) lz [A2 B3 74 gm g ee.2,A6 k (Be [A2 B3 74 q g d,Ab Ar p o n]),Ab Ar p o n]:=ed.take [0,1] [2,3] rfl (M:=[A2 B3 74 ([bg,bh,bi,bj,bk,bl,bm].flatten) g d,Ab Ao bx cu bw.1]) rfl ef gl.size
   have gn:=cv.tk ef (BQ (Pr (fun b hb hlt=>(fun _ _ h=>At _ (At _ (At _ (At _ (At _ (At _ (At _ (h)))))))) b hlt hb) (Bt (fun b hb hlt=>(fun _ _ h=>At _ (At _ (At _ (At _ (At _ (At _ (Bi _ h))))))) b hlt hb) (Bt (fun b hb hlt=>(fun _ _ h=>At _ (At _ (At _ (At _ (At _ (Bi _ h)))))) b hlt hb) (Bt (fun b hb hlt=>(fun _ _ h=>At _ (At _ (At _ (At _ (Bi _ h))))) b hlt hb) (Bt (fun b hb hlt=>(fun _ _ h=>At _ (At _ (At _ (Bi _ h)))) b hlt hb) (Bt (fun b hb hlt=>(fun _ _ h=>At _ (At _ (Bi _ h))) b hlt hb) (Bt (fun b hb hlt=>(fun _ _ h=>At _ (Bi _ h)) b hlt hb) (Bt (fun b hb hlt=>(fun _ _ h=>Bi _ h) b hlt hb) Iu)))))))) (BQ (fun b hb hlt=>absurd hlt (AK.2 (lw b hb))) CV))
   refine Ah (Am gn (Ad 19 rfl f gn (AC rfl rfl (Ba ?_))))
   exact jx (aj (ee.2) (ee.1) gm _ c l1 (l2.sel [1,0] rfl)) rfl
  ·refine Ak fun _ l3=>?_
   refine AP rfl rfl rfl (Aq 1 rfl (l3 (A3 rfl c (fun _ c=>?_) (fun _ c=>?_))))
   ·refine As ?_
    refine wp 2 rfl (BC rfl rfl (Bp IU rfl ?_))
    obtain ⟨l4,th,ti,tj,tl,tn,to,tp,tq,tr,ts,tt,tu,tv,eg⟩:=Hs (hS.sel [1,0,2] rfl)
    refine AO 0 Cm rfl eg rfl rfl (bB c fun bz l5 c=>(E6 rfl Tryz.call92 hB eg (Rf k d.1 l4 (eg.own_ro (i:=1) rfl) _ l5) rfl fun cw cx go _ _ gp l6=>(wp 2 rfl ?_)))
    obtain ⟨eh,ei⟩:∃ F,Sp (wE k) go [A2 B3 74 F g d,Ab Ao cx cw bz.1,A6 k (Be [A2 B3 74 q g d,Ab Ar p o n]),Ab Ar p o n]:=⟨_,DC (l6.sel [1,2,3,4,5,6,7,8,0,9,10] rfl)⟩
    refine bB c fun ej l7 c=>A7 rfl Tryz.call88 (GY go d g eh bz.1 cw cx bz.2 (ei.sel [0,1] rfl).base0 _ l7) rfl ?_
    rintro _ l8 ⟨gq,rfl,l9,gr⟩
    refine ⟨_,rfl,?_⟩
    have ma:=ei.takeB [0,1] rfl (M:=[A2 B3 74 eh g d,Ab Ao cx cw bz.1]) rfl gp l9 gr
    have mb:Sp (wE k) l8 [A2 B3 74 gq g ej.2,A6 k (Be [A2 B3 74 q g d,Ab Ar p o n]),Ab Ar p o n]:=ei.take [0,1] [2,3] rfl (M:=[A2 B3 74 eh g d,Ab Ao cx cw bz.1]) rfl gr gp.size
    refine Aq 1 rfl ?_
    exact jx (aj (ej.2) (ej.1) gq _ c ma (mb.sel [1,0] rfl)) rfl
   ·refine Ak fun _ mc=>?_
    refine AP rfl rfl rfl (Aq 1 rfl (mc (A3 rfl c (fun _ c=>?_) (fun _ c=>?_))))
    ·refine As ?_
     refine wp 2 rfl (BC rfl rfl (Bp IU rfl ?_))
     obtain ⟨gs,tw,md,me,mf,tx,mg,ty,mh,tz,mi,t0,mj,t1,ek⟩:=Hs (hS.sel [1,0,2] rfl)
     refine AO 0 Cm rfl ek rfl rfl (bB c fun gt mk c=>(E6 rfl Tryz.call90 hB ek (IG k d.1 gs (ek.own_ro (i:=1) rfl) _ mk) rfl fun gu t2 t3 _ _ ml el=>(BC rfl rfl (Bp Un rfl (B9 (i:=1) (vs:=[gu]) (cs':=[gs,gu,(iv d.2.2.1),mf,mg,mh,mi,mj,(iv d.2.2.2.2.2.2.2.2)]) Cm rfl rfl (Ce (el.own_ro (i:=0) rfl).one) rfl ml el rfl rfl ⟨(el.own_ro (i:=0) rfl).one,trivial⟩ rfl fun mm _ mn mo=>(Ah ?_))))))
     obtain ⟨mp,mq⟩:∃ F,Sp (wE k) mm [A2 B3 74 F g (d.1,gt,d.2.2.1,d.2.2.2.1,d.2.2.2.2.1,d.2.2.2.2.2.1,d.2.2.2.2.2.2.1,d.2.2.2.2.2.2.2.1,d.2.2.2.2.2.2.2.2),Ab Ao me md d.2.1,A6 k (Be [A2 B3 74 q g d,Ab Ar p o n]),Ab Ar p o n]:=⟨_,DC (mo.sel [1,2,0,4,5,6,7,8,3,9,10] rfl)⟩
     exact jx (aj ((d.1,gt,d.2.2.1,d.2.2.2.1,d.2.2.2.2.1,d.2.2.2.2.2.1,d.2.2.2.2.2.2.1,d.2.2.2.2.2.2.2.1,d.2.2.2.2.2.2.2.2)) true mp _ c mn (mq.sel [2,0] rfl)) rfl
    ·refine Ak fun _ mr=>?_
     refine AP rfl rfl rfl (Aq 1 rfl (mr (A3 rfl c (fun _ c=>?_) (fun _ c=>?_))))
     ·refine Ak fun _ ms=>?_
      refine wp 1 rfl (bB c fun mt mu c=>(H6 (e:=Ar) (i:=2) Tryz.underlying36 rfl rfl rfl hS rfl mu ?_))
      rintro t4 _ rfl b1 t5
      refine BZ A4 rfl b1 rfl (bB c fun gv mv c=>(Bu rfl Tryz.call77 hB hS (Cd k mt 1 64 _ mv) rfl fun t6 mw gw em=>?_))
      have b1:=b1.keepS (fun b hb=>mw.block b (((hS.get (i:=2) rfl).2.1 b hb).2)) (fun _ h=>h)
      refine Aq 1 rfl (ms (An 1 rfl (A3 rfl c (fun _ c=>?_) (fun _ c=>?_))))
      ·refine As ?_
       refine wp 2 rfl (bB c fun gx mx c=>(H6 (e:=Ar) (i:=2) Tryz.underlying36 rfl rfl rfl em rfl mx ?_))
       rintro t7 _ rfl en t8
       refine BZ A4 rfl en rfl (BC rfl rfl (Bp Um rfl ?_))
       obtain ⟨t9,ua,ub,uc,ud,ue,uf,ug,uh,ui,uj,uk,ul,um,b2⟩:=Hs (em.sel [1,0,2] rfl)
       refine Gj 0 A4 rfl rfl gw b2 rfl rfl rfl fun my gy mz m0=>?_
       have b1:=b1.keepS (fun b hb=>gy.2.1 b (((b2.get (i:=9) rfl).2.1 b hb).2) (b2.disj (i:=9) (j:=0) rfl rfl rfl b hb)) (fun _ h=>h)
       have en:=en.keepS (fun b hb=>gy.2.1 b (((b2.get (i:=9) rfl).2.1 b hb).2) (b2.disj (i:=9) (j:=0) rfl rfl rfl b hb)) (fun _ h=>h)
       refine Ah ?_
       obtain ⟨m1,m2⟩:∃ F,Sp (wE k) my [A2 B3 74 F g (d.1,d.2.1,gx,d.2.2.2.1,d.2.2.2.2.1,d.2.2.2.2.2.1,d.2.2.2.2.2.2.1,d.2.2.2.2.2.2.2.1,d.2.2.2.2.2.2.2.2),A6 k (Be [A2 B3 74 q g d,Ab Ar p o n]),Ab Ar p o n]:=⟨_,DC (m0.sel [0,1,2,3,4,5,6,7,8,9] rfl)⟩
       exact jx (aj ((d.1,d.2.1,gx,d.2.2.2.1,d.2.2.2.2.1,d.2.2.2.2.2.1,d.2.2.2.2.2.2.1,d.2.2.2.2.2.2.2.1,d.2.2.2.2.2.2.2.2)) gv m1 _ c mz (m2.sel [1,0] rfl)) rfl
      ·refine Au ?_
       exact jx (aj d gv q _ c gw (em.sel [0,1] rfl)) rfl
     ·refine Ak fun _ m3=>?_
      refine AP rfl rfl rfl (Aq 1 rfl (m3 (A3 rfl c (fun _ c=>?_) (fun _ c=>?_))))
      ·refine Ap fun m4 m5=>?_
       obtain ⟨m6,m7,c⟩:=Nn c
       have eo:∀ (u:(Ae1 × Ae1 × Int × Ae1 × Ae2 × Ae4 × (List Int) × (List Int) × Int)) (bn:Ae1) (ep:Al) (bo:Ac) (gz:Al) (b3:Ae) (_:m6 u bn = some r) (_:Bl (wE k) b3) (_:Sp (wE k) b3 [A6 k (Be [A2 B3 74 q g d,Ab Ar p o n]),A2 B3 74 ep g u,Ab BN gz bo bn]),∀ a,St 174 [(0,(.pointer (some ⟨g,0,none⟩))),(8,bo)] a → m4 a b3:=by
        intro u bn ep bo gz b3 c m8 g0
        subst m7
        refine m5 (Ak fun _ m9=>(wp 1 rfl (bB c fun g1 na c=>(Bu rfl Tryz.call93 m8 g0 (Qp b3 bn bo (g0.own_ro (i:=2) rfl) _ na) rfl fun un _ g2 g3=>(Aq 1 rfl (m9 (An 1 rfl (A3 rfl c (fun _ c=>?_) (fun _ c=>?_)))))))))
        ·refine As ?_
         refine wp 2 rfl (BC rfl rfl (Bp Ul rfl ?_))
         obtain ⟨nb,uo,nc,up,nd,ne,nf,uq,ng,ur,nh,us,ni,ut,eq⟩:=Hs (g3.sel [1,0,2] rfl)
         refine B9 (i:=0) (vs:=[bo]) (cs':=[nb,nc,(iv u.2.2.1),bo,nf,ng,nh,ni,(iv u.2.2.2.2.2.2.2.2)]) Ry rfl rfl (Ce (eq.own_ro (i:=9) rfl).one) rfl g2 eq rfl rfl ⟨(eq.own_ro (i:=9) rfl).one,trivial⟩ rfl fun nj _ nk nl=>Ah ?_
         obtain ⟨nm,nn⟩:∃ F,Sp (wE k) nj [A2 B3 74 F g (u.1,u.2.1,u.2.2.1,bn,u.2.2.2.2.1,u.2.2.2.2.2.1,u.2.2.2.2.2.2.1,u.2.2.2.2.2.2.2.1,u.2.2.2.2.2.2.2.2),Ab BN ne nd u.2.2.2.1,A6 k (Be [A2 B3 74 q g d,Ab Ar p o n])]:=⟨_,DC (nl.sel [0,1,2,9,4,5,6,7,3,8] rfl)⟩
         exact jx (aj ((u.1,u.2.1,u.2.2.1,bn,u.2.2.2.2.1,u.2.2.2.2.2.1,u.2.2.2.2.2.2.1,u.2.2.2.2.2.2.2.1,u.2.2.2.2.2.2.2.2)) g1 nm _ c nk (nn.sel [2,0] rfl)) rfl
        ·refine Au ?_
         exact jx (aj u g1 ep _ c g2 (g3.sel [0,1] rfl)) rfl
       obtain ⟨uu,uv,uw,ux,uy,uz,u0,u1,u2,u3,u4,u5,u6,u7,no⟩:=Hs (hS.sel [1,0,2] rfl)
       refine AQ B4 [] hB no fun aw _ cy a2=>?_
       have am:=KeepX.refl aw []
       refine Ax 1 rfl f am (Ad 2 rfl f am (B8 rfl rfl (Ad 3 rfl f am (C9 Ul rfl (Ad 4 rfl f am (CQ 0 Ry rfl a2 rfl (by simp) (Ax 6 rfl f am (bB c fun an np c=>(Ad 7 rfl f am (CA (e:=Ar) (i:=9) Tryz.underlying36 rfl rfl rfl a2 rfl np ?_))))))))))
       rintro u8 _ rfl nq u9
       refine Ad 8 rfl f am (BL A4 rfl (fun w hw=>nq.keepS (fun b m=>(hw.blk b (((a2.get (i:=9) rfl).2.1 b m).2) (by simp))) (fun _ h=>h)) rfl (Ax 9 rfl f am (bB c fun ao nr c=>(Ad 10 rfl f am (CA (e:=Ar) (i:=9) Tryz.underlying36 rfl rfl rfl a2 rfl nr ?_)))))
       rintro va _ rfl ns vb
       refine Ad 11 rfl f am (BL A4 rfl (fun w hw=>ns.keepS (fun b m=>(hw.blk b (((a2.get (i:=9) rfl).2.1 b m).2) (by simp))) (fun _ h=>h)) rfl (Ad 12 rfl f am (HR (zs:=[(iv 0),(iv 0)]) (out:=[(iv an),(iv ao)]) (vs:=[(iv an),(iv ao)]) (css:=[[(iv an)],[(iv ao)]]) GL VG rfl rfl rfl rfl rfl (C0 (is:=[0,13]) (by kernel_rfl) rfl (Bb.2 ⟨⟨_,rfl,?_⟩,Bb.2 ⟨⟨_,rfl,?_⟩,fun _ h=>by cases h⟩⟩)))))
       ·refine Bc (vs:=[]) (l:=[]) GH Tryz.underlying31 rfl rfl rfl rfl rfl rfl (Bf aw) (Sep.nil _ _) fun vc nt g4 cz _ g5=>?_
        have er:=tm cy cz
        have es:=a2.join cz g5 cy.size
        have c0:∀ b ∈ nt,aw.heap.size ≤ b:=fun b hb=>Aw (Nat.le_refl aw.heap.size) ((g5.1 _ (List.mem_cons_self ..)).2.1 b hb).1
        have et:=am.ext cz
        have g6:=Aw (Nat.le_refl aw.heap.size) cz.size
        refine Ah (Am et (C0 (is:=[5,13]) (by kernel_rfl) rfl (Bb.2 ⟨⟨_,rfl,?_⟩,Bb.2 ⟨⟨_,rfl,?_⟩,fun _ h=>by cases h⟩⟩)))
        ·refine bB c fun vd nu c=>?_
         refine AF (i:=0) (S:=(· < g4.heap.size)) GH Tryz.underlying31 rfl rfl rfl er es rfl (es.own_ro (i:=4) rfl) nu fun ve nv nw eu g7 nx=>?_
         have g8:=et.wr' eu.1 eu.2.1 (fun b hlt hb=>absurd hlt (AK.2 (c0 b hb)))
         have ny:∀ b ∈ nv,aw.heap.size ≤ b:=fun b hb=>(eu.2.2 b hb).elim (c0 b) fun h=>Aw g6 h
         refine Ah (Am g8 (Av 13 rfl (Bc (vs:=[(.agg #[(iv an),(iv ao)])]) (l:=[(an,ao)]) GH Tryz.underlying31 rfl rfl rfl rfl rfl rfl (Bf nw) (Sep.nil _ _) fun nz n0 n1 ev _ n2=>?_)))
         have n3:=tm g7 ev
         have g9:=nx.join ev n2 g7.size
         have ha:=g8.ext ev
         refine Ah (Am ha (Av 14 rfl (bB c fun hc n4 c=>(AF (i:=1) (S:=(· < n1.heap.size)) GH Tryz.underlying31 rfl rfl rfl n3 g9 rfl (g9.own_ro (i:=0) rfl) n4 fun hd he n5 hf n6 n7=>?_))))
         have hg:=ha.wr' hf.1 hf.2.1 (fun b hlt hb=>absurd hlt (AK.2 (ny b hb)))
         refine Ah (Am hg (Ad 15 rfl f hg (AC rfl rfl (Ba ?_))))
         obtain ⟨n8,n9⟩:∃ F,Sp (wE k) n5 [A2 B3 74 F g d,Ab BN n0 nz [(an,ao)],Ab BN he hd hc,A6 k (Be [A2 B3 74 q g d,Ab Ar p o n]),Ab Ar p o n]:=⟨_,DC (n7.sel [2,3,4,5,6,7,8,9,0,1,10,11] rfl)⟩
         exact jx (eo d hc n8 hd he _ c n6 (n9.sel [3,0,2] rfl)) rfl
        ·refine Bc (vs:=[(.agg #[(iv an),(iv ao)])]) (l:=[(an,ao)]) GH Tryz.underlying31 rfl rfl rfl rfl rfl rfl (Bf g4) (Sep.nil _ _) fun oa ob oc c1 _ od=>?_
         have oe:=tm er c1
         have hh:=es.join c1 od er.size
         have hi:=et.ext c1
         have og:=Aw g6 c1.size
         refine Ah (Am hi (Av 5 rfl (bB c fun vf oh c=>(AF (i:=1) (S:=(· < oc.heap.size)) GH Tryz.underlying31 rfl rfl rfl oe hh rfl (hh.own_ro (i:=5) rfl) oh fun vg oi oj ew ok hj=>?_))))
         have hk:=hi.wr' ew.1 ew.2.1 (fun b hlt hb=>absurd hlt (AK.2 (c0 b hb)))
         have ol:∀ b ∈ oi,aw.heap.size ≤ b:=fun b hb=>(ew.2.2 b hb).elim (c0 b) fun h=>Aw og h
         refine Ah (Am hk (Av 14 rfl (bB c fun hl om c=>(AF (i:=1) (S:=(· < oj.heap.size)) GH Tryz.underlying31 rfl rfl rfl ok hj rfl (hj.own_ro (i:=0) rfl) om fun hm hn on ho oo op=>?_))))
         have hp:=hk.wr' ho.1 ho.2.1 (fun b hlt hb=>absurd hlt (AK.2 (ol b hb)))
         refine Ah (Am hp (Ad 15 rfl f hp (AC rfl rfl (Ba ?_))))
         obtain ⟨oq,os⟩:∃ F,Sp (wE k) on [A2 B3 74 F g d,Ab BN ob oa [(an,ao)],Ab BN hn hm hl,A6 k (Be [A2 B3 74 q g d,Ab Ar p o n]),Ab Ar p o n]:=⟨_,DC (op.sel [2,3,4,5,6,7,8,9,0,1,10,11] rfl)⟩
         exact jx (eo d hl oq hm hn _ c oo (os.sel [3,0,2] rfl)) rfl
       ·refine Bc (vs:=[(.agg #[(iv an),(iv ao)])]) (l:=[(an,ao)]) GH Tryz.underlying31 rfl rfl rfl rfl rfl rfl (Bf aw) (Sep.nil _ _) fun ot ou ov c2 _ ow=>?_
        have hq:=tm cy c2
        have ox:=a2.join c2 ow cy.size
        have hr:=am.ext c2
        have hs:=Aw (Nat.le_refl aw.heap.size) c2.size
        refine Ah (Am hr (Av 0 rfl (Bc (vs:=[]) (l:=[]) GH Tryz.underlying31 rfl rfl rfl rfl rfl rfl (Bf ov) (Sep.nil _ _) fun vh oy oz c3 _ ht=>?_)))
        have o0:=tm hq c3
        have hu:=ox.join c3 ht hq.size
        have hv:∀ b ∈ oy,aw.heap.size ≤ b:=fun b hb=>Aw hs ((ht.1 _ (List.mem_cons_self ..)).2.1 b hb).1
        have hx:=hr.ext c3
        have o1:=Aw hs c3.size
        refine Ah (Am hx (Av 5 rfl (bB c fun vi o2 c=>(AF (i:=0) (S:=(· < oz.heap.size)) GH Tryz.underlying31 rfl rfl rfl o0 hu rfl (hu.own_ro (i:=5) rfl) o2 fun vj o3 o4 ex o5 hy=>?_))))
        have hz:=hx.wr' ex.1 ex.2.1 (fun b hlt hb=>absurd hlt (AK.2 (hv b hb)))
        have o6:∀ b ∈ o3,aw.heap.size ≤ b:=fun b hb=>(ex.2.2 b hb).elim (hv b) fun h=>Aw o1 h
        refine Ah (Am hz (Av 14 rfl (bB c fun h1 o7 c=>(AF (i:=0) (S:=(· < o4.heap.size)) GH Tryz.underlying31 rfl rfl rfl o5 hy rfl (hy.own_ro (i:=1) rfl) o7 fun h2 h3 o8 h4 o9 pa=>?_))))
        have h5:=hz.wr' h4.1 h4.2.1 (fun b hlt hb=>absurd hlt (AK.2 (o6 b hb)))
        refine Ah (Am h5 (Ad 15 rfl f h5 (AC rfl rfl (Ba ?_))))
        obtain ⟨pb,pc⟩:∃ F,Sp (wE k) o8 [A2 B3 74 F g d,Ab BN h3 h2 h1,Ab BN ou ot [(an,ao)],A6 k (Be [A2 B3 74 q g d,Ab Ar p o n]),Ab Ar p o n]:=⟨_,DC (pa.sel [2,3,4,5,6,7,8,9,0,1,10,11] rfl)⟩
        exact jx (eo d h1 pb h2 h3 _ c o9 (pc.sel [3,0,1] rfl)) rfl
      ·refine Ak fun _ pd=>?_
       refine AP rfl rfl rfl (Aq 1 rfl (pd (A3 rfl c (fun _ c=>?_) (fun _ c=>?_))))
       ·refine Ap fun pe pf=>?_
        obtain ⟨pg,ph,c⟩:=jE3 c
        have ey:∀ (v:(Ae1 × Ae1 × Int × Ae1 × Ae2 × Ae4 × (List Int) × (List Int) × Int)) (b4:Ae2) (b5:Bool) (ez:Al) (b6:Ac) (h6:Al) (c4:Ae) (_:pg v b4 b5 = some r) (_:Bl (wE k) c4) (_:Sp (wE k) c4 [A6 k (Be [A2 B3 74 q g d,Ab Ar p o n]),A2 B3 74 ez g v,Ab Az h6 b6 b4]),∀ a,St 174 [(0,(.pointer (some ⟨g,0,none⟩))),(9,b6),(10,(.bool b5))] a → pe a c4:=by
         intro v b4 b5 ez b6 h6 c4 c h7 h8
         subst ph
         refine pf (An 2 rfl (An 1 rfl (A3 rfl c (fun _ c=>?_) (fun _ c=>?_))))
         ·refine As ?_
          refine wp 2 rfl (BC rfl rfl (Bp Uk rfl ?_))
          obtain ⟨pi,vk,pj,vl,pk,vm,pl,pm,pn,vn,po,vo,pp,vp,e0⟩:=Hs (h8.sel [1,0,2] rfl)
          refine B9 (i:=0) (vs:=[b6]) (cs':=[pi,pj,(iv v.2.2.1),pk,b6,pn,po,pp,(iv v.2.2.2.2.2.2.2.2)]) Rw rfl rfl (Ce (e0.own_ro (i:=9) rfl).one) rfl h7 e0 rfl rfl ⟨(e0.own_ro (i:=9) rfl).one,trivial⟩ rfl fun pq _ pr ps=>Ah ?_
          obtain ⟨pt,pu⟩:∃ F,Sp (wE k) pq [A2 B3 74 F g (v.1,v.2.1,v.2.2.1,v.2.2.2.1,b4,v.2.2.2.2.2.1,v.2.2.2.2.2.2.1,v.2.2.2.2.2.2.2.1,v.2.2.2.2.2.2.2.2),Ab Az pm pl v.2.2.2.2.1,A6 k (Be [A2 B3 74 q g d,Ab Ar p o n])]:=⟨_,DC (ps.sel [0,1,2,3,9,5,6,7,4,8] rfl)⟩
          exact jx (aj ((v.1,v.2.1,v.2.2.1,v.2.2.2.1,b4,v.2.2.2.2.2.1,v.2.2.2.2.2.2.1,v.2.2.2.2.2.2.2.1,v.2.2.2.2.2.2.2.2)) b5 pt _ c pr (pu.sel [2,0] rfl)) rfl
         ·refine Au ?_
          exact jx (aj v b5 ez _ c h7 (h8.sel [0,1] rfl)) rfl
        obtain ⟨vq,vr,vt,vu,vv,vw,vx,vy,vz,v0,v1,v2,v3,v4,pv⟩:=Hs (hS.sel [1,0,2] rfl)
        refine AQ B4 [] hB pv fun ax _ c5 ay=>?_
        have x:=KeepX.refl ax []
        refine Ax 1 rfl f x (Ad 2 rfl f x (B8 rfl rfl (Ad 3 rfl f x (C9 Uk rfl (Ad 4 rfl f x (CQ 0 Rw rfl ay rfl (by simp) (Ax 6 rfl f x (bB c fun ap pw c=>(Ad 7 rfl f x (CA (e:=Ar) (i:=9) Tryz.underlying36 rfl rfl rfl ay rfl pw ?_))))))))))
        rintro v5 _ rfl px v6
        refine Ad 8 rfl f x (BL A4 rfl (fun w hw=>px.keepS (fun b m=>(hw.blk b (((ay.get (i:=9) rfl).2.1 b m).2) (by simp))) (fun _ h=>h)) rfl (Ax 9 rfl f x (bB c fun aq py c=>(Ad 10 rfl f x (CA (e:=Ar) (i:=9) Tryz.underlying36 rfl rfl rfl ay rfl py ?_)))))
        rintro v7 _ rfl pz v8
        refine Ad 11 rfl f x (BL A4 rfl (fun w hw=>pz.keepS (fun b m=>(hw.blk b (((ay.get (i:=9) rfl).2.1 b m).2) (by simp))) (fun _ h=>h)) rfl (Ax 12 rfl f x (bB c fun ar p0 c=>(Ad 13 rfl f x (CA (e:=Ar) (i:=9) Tryz.underlying36 rfl rfl rfl ay rfl p0 ?_)))))
        rintro v9 _ rfl p1 wa
        refine Ad 14 rfl f x (BL A4 rfl (fun w hw=>p1.keepS (fun b m=>(hw.blk b (((ay.get (i:=9) rfl).2.1 b m).2) (by simp))) (fun _ h=>h)) rfl (Ax 15 rfl f x (bB c fun au p2 c=>(Ad 16 rfl f x (CA (e:=Ar) (i:=9) Tryz.underlying36 rfl rfl rfl ay rfl p2 ?_)))))
        rintro wb _ rfl p3 wc
        refine Ad 17 rfl f x (BL A4 rfl (fun w hw=>p3.keepS (fun b m=>(hw.blk b (((ay.get (i:=9) rfl).2.1 b m).2) (by simp))) (fun _ h=>h)) rfl (Ad 18 rfl f x (HR (zs:=[(iv 0),(iv 0),(iv 0),(iv 0)]) (out:=[(iv ap),(iv aq),(iv ar),(iv au)]) (vs:=[(iv ap),(iv aq),(iv ar),(iv au)]) (css:=[[(iv ap)],[(iv aq)],[(iv ar)],[(iv au)]]) BD Ze rfl rfl rfl rfl rfl (C0 (is:=[0,19]) (by kernel_rfl) rfl (Bb.2 ⟨⟨_,rfl,?_⟩,Bb.2 ⟨⟨_,rfl,?_⟩,fun _ h=>by cases h⟩⟩)))))
        ·refine Bc (vs:=[]) (l:=[]) Cs Tryz.underlying72 rfl rfl rfl rfl rfl rfl (Bf ax) (Sep.nil _ _) fun wd p4 h9 c6 _ ia=>?_
         have e1:=tm c5 c6
         have e2:=ay.join c6 ia c5.size
         have c7:∀ b ∈ p4,ax.heap.size ≤ b:=fun b hb=>Aw (Nat.le_refl ax.heap.size) ((ia.1 _ (List.mem_cons_self ..)).2.1 b hb).1
         have e3:=x.ext c6
         have ib:=Aw (Nat.le_refl ax.heap.size) c6.size
         refine Ah (Am e3 (C0 (is:=[5,19]) (by kernel_rfl) rfl (Bb.2 ⟨⟨_,rfl,?_⟩,Bb.2 ⟨⟨_,rfl,?_⟩,fun _ h=>by cases h⟩⟩)))
         ·refine bB c fun we p5 c=>?_
          refine AF (i:=0) (S:=(· < h9.heap.size)) Cs Tryz.underlying72 rfl rfl rfl e1 e2 rfl (e2.own_ro (i:=5) rfl) p5 fun wf p6 p7 e4 ic p8=>?_
          have ie:=e3.wr' e4.1 e4.2.1 (fun b hlt hb=>absurd hlt (AK.2 (c7 b hb)))
          have p9:∀ b ∈ p6,ax.heap.size ≤ b:=fun b hb=>(e4.2.2 b hb).elim (c7 b) fun h=>Aw ib h
          refine Ah (Am ie (Av 19 rfl (Bc (vs:=[(.agg #[(iv ap),(iv aq),(iv ar),(iv au)])]) (l:=[(ap,aq,ar,au)]) Cs Tryz.underlying72 rfl rfl rfl rfl rfl rfl (Bf p7) (Sep.nil _ _) fun qa qb qc e5 _ qd=>?_)))
          have qe:=tm ic e5
          have ig:=p8.join e5 qd ic.size
          have ih:=ie.ext e5
          refine Ah (Am ih (Av 20 rfl (bB c fun ii qf c=>(AF (i:=1) (S:=(· < qc.heap.size)) Cs Tryz.underlying72 rfl rfl rfl qe ig rfl (ig.own_ro (i:=0) rfl) qf fun ij qg qh ik qi il=>?_))))
          have im:=ih.wr' ik.1 ik.2.1 (fun b hlt hb=>absurd hlt (AK.2 (p9 b hb)))
          refine Ah (Am im (Av 21 rfl (bB c fun e6 qj c=>(E6 rfl Tryz.call94 qi il (Nj qh ii ij (il.own_ro (i:=1) rfl) _ qj) rfl fun io ip qk ql _ qm qn=>?_))))
          have bp:=im.ext ql
          refine Ah (Am bp (Ax 22 rfl f bp (Ad 23 rfl f bp (AV rfl rfl rfl (Ad 24 rfl f bp (AV rfl rfl rfl (Ad 25 rfl f bp (AC rfl rfl (Ad 26 rfl f bp (AC rfl rfl (Ba ?_)))))))))))
          obtain ⟨qo,qp⟩:∃ F,Sp (wE k) qk [A2 B3 74 F g d,Ab Az ip io e6.1,Ab Az qb qa [(ap,aq,ar,au)],Ab Az qg ij ii,A6 k (Be [A2 B3 74 q g d,Ab Ar p o n]),Ab Ar p o n]:=⟨_,DC (qn.sel [3,4,5,6,7,8,9,10,0,1,2,11,12] rfl)⟩
          exact jx (ey d (e6.1) (e6.2) qo io ip _ c qm (qp.sel [4,0,1] rfl)) rfl
         ·refine Bc (vs:=[(.agg #[(iv ap),(iv aq),(iv ar),(iv au)])]) (l:=[(ap,aq,ar,au)]) Cs Tryz.underlying72 rfl rfl rfl rfl rfl rfl (Bf h9) (Sep.nil _ _) fun qq qr qs c8 _ qt=>?_
          have qu:=tm e1 c8
          have iq:=e2.join c8 qt e1.size
          have ir:=e3.ext c8
          have qv:=Aw ib c8.size
          refine Ah (Am ir (Av 5 rfl (bB c fun wg qw c=>(AF (i:=1) (S:=(· < qs.heap.size)) Cs Tryz.underlying72 rfl rfl rfl qu iq rfl (iq.own_ro (i:=6) rfl) qw fun wh qx qy e7 qz it=>?_))))
          have iu:=ir.wr' e7.1 e7.2.1 (fun b hlt hb=>absurd hlt (AK.2 (c7 b hb)))
          have q0:∀ b ∈ qx,ax.heap.size ≤ b:=fun b hb=>(e7.2.2 b hb).elim (c7 b) fun h=>Aw qv h
          refine Ah (Am iu (Av 20 rfl (bB c fun iw q1 c=>(AF (i:=1) (S:=(· < qy.heap.size)) Cs Tryz.underlying72 rfl rfl rfl qz it rfl (it.own_ro (i:=0) rfl) q1 fun ix q2 q3 iy q4 iz=>?_))))
          have i0:=iu.wr' iy.1 iy.2.1 (fun b hlt hb=>absurd hlt (AK.2 (q0 b hb)))
          refine Ah (Am i0 (Av 21 rfl (bB c fun e8 q5 c=>(E6 rfl Tryz.call94 q4 iz (Nj q3 iw ix (iz.own_ro (i:=1) rfl) _ q5) rfl fun i1 i2 q6 q7 _ q8 q9=>?_))))
          have bq:=i0.ext q7
          refine Ah (Am bq (Ax 22 rfl f bq (Ad 23 rfl f bq (AV rfl rfl rfl (Ad 24 rfl f bq (AV rfl rfl rfl (Ad 25 rfl f bq (AC rfl rfl (Ad 26 rfl f bq (AC rfl rfl (Ba ?_)))))))))))
          obtain ⟨ra,rb⟩:∃ F,Sp (wE k) q6 [A2 B3 74 F g d,Ab Az i2 i1 e8.1,Ab Az qr qq [(ap,aq,ar,au)],Ab Az q2 ix iw,A6 k (Be [A2 B3 74 q g d,Ab Ar p o n]),Ab Ar p o n]:=⟨_,DC (q9.sel [3,4,5,6,7,8,9,10,0,1,2,11,12] rfl)⟩
          exact jx (ey d (e8.1) (e8.2) ra i1 i2 _ c q8 (rb.sel [4,0,1] rfl)) rfl
        ·refine Bc (vs:=[(.agg #[(iv ap),(iv aq),(iv ar),(iv au)])]) (l:=[(ap,aq,ar,au)]) Cs Tryz.underlying72 rfl rfl rfl rfl rfl rfl (Bf ax) (Sep.nil _ _) fun rc rd re c9 _ rf=>?_
         have i3:=tm c5 c9
         have rg:=ay.join c9 rf c5.size
         have i4:=x.ext c9
         have i5:=Aw (Nat.le_refl ax.heap.size) c9.size
         refine Ah (Am i4 (Av 0 rfl (Bc (vs:=[]) (l:=[]) Cs Tryz.underlying72 rfl rfl rfl rfl rfl rfl (Bf re) (Sep.nil _ _) fun wi rh ri da _ i6=>?_)))
         have rj:=tm i3 da
         have i7:=rg.join da i6 i3.size
         have i8:∀ b ∈ rh,ax.heap.size ≤ b:=fun b hb=>Aw i5 ((i6.1 _ (List.mem_cons_self ..)).2.1 b hb).1
         have i9:=i4.ext da
         have rk:=Aw i5 da.size
         refine Ah (Am i9 (Av 5 rfl (bB c fun wj rl c=>(AF (i:=0) (S:=(· < ri.heap.size)) Cs Tryz.underlying72 rfl rfl rfl rj i7 rfl (i7.own_ro (i:=6) rfl) rl fun wk rm rn e9 ro ja=>?_))))
         have jb:=i9.wr' e9.1 e9.2.1 (fun b hlt hb=>absurd hlt (AK.2 (i8 b hb)))
         have rp:∀ b ∈ rm,ax.heap.size ≤ b:=fun b hb=>(e9.2.2 b hb).elim (i8 b) fun h=>Aw rk h
         refine Ah (Am jb (Av 20 rfl (bB c fun jc rq c=>(AF (i:=0) (S:=(· < rn.heap.size)) Cs Tryz.underlying72 rfl rfl rfl ro ja rfl (ja.own_ro (i:=1) rfl) rq fun jd rr rs je ru jf=>?_))))
         have jg:=jb.wr' je.1 je.2.1 (fun b hlt hb=>absurd hlt (AK.2 (rp b hb)))
         refine Ah (Am jg (Av 21 rfl (bB c fun fa rv c=>(E6 rfl Tryz.call94 ru jf (Nj rs jc jd (jf.own_ro (i:=0) rfl) _ rv) rfl fun jh ji rx ry _ rz r0=>?_))))
         have br:=jg.ext ry
         refine Ah (Am br (Ax 22 rfl f br (Ad 23 rfl f br (AV rfl rfl rfl (Ad 24 rfl f br (AV rfl rfl rfl (Ad 25 rfl f br (AC rfl rfl (Ad 26 rfl f br (AC rfl rfl (Ba ?_)))))))))))
         obtain ⟨r1,r2⟩:∃ F,Sp (wE k) rx [A2 B3 74 F g d,Ab Az ji jh fa.1,Ab Az rr jd jc,Ab Az rd rc [(ap,aq,ar,au)],A6 k (Be [A2 B3 74 q g d,Ab Ar p o n]),Ab Ar p o n]:=⟨_,DC (r0.sel [3,4,5,6,7,8,9,10,0,1,2,11,12] rfl)⟩
         exact jx (ey d (fa.1) (fa.2) r1 jh ji _ c rz (r2.sel [4,0,1] rfl)) rfl
       ·refine Ak fun _ r3=>?_
        refine AP rfl rfl rfl (Aq 1 rfl (r3 (A3 rfl c (fun _ c=>?_) (fun _ c=>?_))))
        ·refine Ap fun _ r4=>?_
         obtain ⟨r5,wl,r6,wm,r7,wn,r8,wo,jj,r9,sa,wq,sb,wr,sc⟩:=Hs (hS.sel [1,0,2] rfl)
         refine AQ B4 [] hB sc fun jk _ sd a1=>?_
         have al:=KeepX.refl jk []
         refine Ax 0 rfl f al (Ad 1 rfl f al (B8 rfl rfl (Ad 2 rfl f al (C9 Uj rfl (Ad 3 rfl f al (CQ 0 Rx rfl a1 rfl (by simp) (Ax 4 rfl f al (bB c fun db se c=>(Ad 5 rfl f al (CA (e:=Ar) (i:=9) Tryz.underlying36 rfl rfl rfl a1 rfl se ?_))))))))))
         rintro ws _ rfl sf wt
         refine Ad 6 rfl f al (BL A4 rfl (fun w hw=>sf.keepS (fun b m=>(hw.blk b (((a1.get (i:=9) rfl).2.1 b m).2) (by simp))) (fun _ h=>h)) rfl (Ax 7 rfl f al (bB c fun dc sg c=>(Ad 8 rfl f al (CA (e:=Ar) (i:=9) Tryz.underlying36 rfl rfl rfl a1 rfl sg ?_)))))
         rintro wu _ rfl sh wv
         refine Ad 9 rfl f al (BL A4 rfl (fun w hw=>sh.keepS (fun b m=>(hw.blk b (((a1.get (i:=9) rfl).2.1 b m).2) (by simp))) (fun _ h=>h)) rfl (Ax 10 rfl f al (bB c fun dd si c=>(Ad 11 rfl f al (CA (e:=Ar) (i:=9) Tryz.underlying36 rfl rfl rfl a1 rfl si ?_)))))
         rintro ww _ rfl sj wx
         refine Ad 12 rfl f al (BL A4 rfl (fun w hw=>sj.keepS (fun b m=>(hw.blk b (((a1.get (i:=9) rfl).2.1 b m).2) (by simp))) (fun _ h=>h)) rfl (Ad 13 rfl f al (HR (zs:=[(iv 0),(iv 0),(iv 0)]) (out:=[(iv db),(iv dc),(iv dd)]) (vs:=[(iv db),(iv dc),(iv dd)]) (css:=[[(iv db)],[(iv dc)],[(iv dd)]]) L2 VF rfl rfl rfl rfl rfl (Av 14 rfl (bB c fun b7 sk c=>(E6 rfl Tryz.call95 sd a1 (RF jk d.2.2.2.2.2.1 jj (a1.own_ro (i:=5) rfl) (db,dc,dd) _ sk) rfl fun fb sl sm sn _ jl de=>?_))))))
         have bs:=al.ext sn
         refine Ah (Am bs (Ax 15 rfl f bs (Ad 16 rfl f bs (AV rfl rfl rfl (Ad 17 rfl f bs (AV rfl rfl rfl (Ad 18 rfl f bs (AC rfl rfl (Ad 19 rfl f bs (AC rfl rfl (Ba (r4 (An 2 rfl (An 1 rfl (A3 rfl c (fun _ c=>?_) (fun _ c=>?_))))))))))))))))
         ·refine As ?_
          refine wp 2 rfl (BC rfl rfl (Bp Uj rfl (B9 (i:=1) (vs:=[fb]) (cs':=[r5,r6,(iv d.2.2.1),r7,r8,fb,sa,sb,(iv d.2.2.2.2.2.2.2.2)]) Rx rfl rfl (Ce (de.own_ro (i:=0) rfl).one) rfl jl de rfl rfl ⟨(de.own_ro (i:=0) rfl).one,trivial⟩ rfl fun so _ sp sq=>(Ah ?_))))
          obtain ⟨sr,ss⟩:∃ F,Sp (wE k) so [A2 B3 74 F g (d.1,d.2.1,d.2.2.1,d.2.2.2.1,d.2.2.2.2.1,b7.1,d.2.2.2.2.2.2.1,d.2.2.2.2.2.2.2.1,d.2.2.2.2.2.2.2.2),Ab Ch r9 jj d.2.2.2.2.2.1,A6 k (Be [A2 B3 74 q g d,Ab Ar p o n]),Ab Ar p o n]:=⟨_,DC (sq.sel [1,2,3,4,5,0,7,8,6,9,10] rfl)⟩
          exact jx (aj ((d.1,d.2.1,d.2.2.1,d.2.2.2.1,d.2.2.2.2.1,b7.1,d.2.2.2.2.2.2.1,d.2.2.2.2.2.2.2.1,d.2.2.2.2.2.2.2.2)) (b7.2) sr _ c sp (ss.sel [2,0] rfl)) rfl
         ·refine Au ?_
          obtain ⟨st,su⟩:∃ F,Sp (wE k) sm [A2 B3 74 F g d,Ab Ch sl fb b7.1,A6 k (Be [A2 B3 74 q g d,Ab Ar p o n]),Ab Ar p o n]:=⟨_,DC (de.sel [1,2,3,4,5,6,7,8,0,9,10] rfl)⟩
          exact jx (aj d (b7.2) st _ c jl (su.sel [2,0] rfl)) rfl
        ·refine Au ?_
         exact jx (aj d true q _ c hB (hS.sel [0,1] rfl)) rfl
theorem V6 (b:Ae) (c:Bool) (r:(List Ai)) (a:Jc c = some r) :
  A1 78 [(.bool c)] b fun e w'=>e = .returned (.string (B1 r)) ∧ Bl b w':=by
 refine cm Tryz.func78 Tryz.ntmps78 rfl fun Q d h f _=>?_
 unfold Jc at a
 refine An 1 rfl (Ap fun _ g=>(An 2 rfl (A3 rfl a (fun _ a=>?_) (fun _ a=>?_))))
 ·refine An 1 rfl ?_
  refine Ay (rt d rfl rfl (by cases a; exact ⟨rfl,f⟩))
 ·refine Au (g ?_)
  refine An 1 rfl (Ay (rt d rfl rfl (by cases a; exact ⟨rfl,f⟩)))
theorem Qq (f:Ae) (g:Ae1) (j:Ac) (o:RO Ao f j g) (h:Ae1) (k:Ac) (p:RO Ao f k h) (r:Bool) (b:Jd g h = some r) :
  A1 192 [j,k] f fun e w'=>e = .returned (.bool r) ∧ Bl f w':=by
 refine cm Tryz.func192 Tryz.ntmps192 rfl fun Q v hP q w=>?_
 unfold Jd at b
 refine An 1 rfl (Ap fun x y=>?_)
 obtain ⟨z,aa,b⟩:=Cj b
 have l:∀ (m:Bool) (i:Ae) (_:z m = some r) (_:Bl f i) (_:Sp f i []),∀ a,St 18 [(4,(.bool m))] a → x a i:=by
  intro m i b ab ai
  subst aa
  refine y (Ay (rt v rfl rfl (by cases b; exact ⟨rfl,ab⟩)))
 refine As (wp 1 rfl (bB b fun u9 ad b=>(Bu rfl Tryz.call132 q w (Ji f g j (o.ro q) _ ad) rfl fun ae _ n s=>(wp 1 rfl ?_))))
 rcases bE u9 with d | d
 ·replace b:=BA d b
  refine wn rfl d (wp 1 rfl (wn rfl d (bB b fun af ag b=>(Bu rfl Tryz.call132 n s (Ji ae h k (p.ro n) _ ag) rfl fun aj _ t u=>(AA rfl rfl d rfl (wp 1 rfl ?_))))))
  rcases bE af with c | c
  ·replace b:=BA c b
   refine wn rfl c (wp 1 rfl (wn rfl c (BX o Tryz.underlying26 rfl (wn rfl c (wp 1 rfl (wn rfl c (BX p Tryz.underlying26 rfl (wn rfl c (wp 1 rfl (AA rfl rfl c rfl (Aq 1 rfl ?_)))))))))))
   exact jx (l (((List.length g:Int) == (List.length h:Int))) _ b t (u.sel [] rfl)) rfl
  ·replace b:=Cf c b
   refine wo rfl c (wo rfl c (wo rfl c (wo rfl c (wo rfl c (A9 rfl rfl c rfl (Aq 1 rfl ?_))))))
   exact jx (l false _ b t (u.sel [] rfl)) rfl
 ·replace b:=Cf d b
  refine wo rfl d (wo rfl d (A9 rfl rfl d rfl (wp 1 rfl (wo rfl rfl (wo rfl rfl (wo rfl rfl (wo rfl rfl (wo rfl rfl (A9 rfl rfl rfl rfl (Aq 1 rfl ?_))))))))))
  exact jx (l false _ b n (s.sel [] rfl)) rfl
theorem P4 (d:Ae) (g:Ae1) (h:Ac) (q:RO Ao d h g) (i:Ae1) (j:Ac) (s:RO Ao d j i) (k:Int) (r:Bool) (b:Iy g i k = some r) :
  A1 139 [h,j,(iv k)] d fun e w'=>e = .returned (.bool r) ∧ Bl d w':=by
 refine cm Tryz.func139 Tryz.ntmps139 rfl fun Q t hP l u=>?_
 unfold Iy at b
 refine An 1 rfl (Ap fun v w=>?_)
 obtain ⟨x,y,b⟩:=Cj b
 have n:∀ (m:Bool) (f:Ae) (_:x m = some r) (_:Bl d f) (_:Sp d f []),∀ a,St 14 [(6,(.bool m))] a → v a f:=by
  intro m f b z ai
  subst y
  refine w (Ay (rt t rfl rfl (by cases b; exact ⟨rfl,z⟩)))
 refine As (wp 2 rfl (bB b fun u9 ab b=>(Bu rfl Tryz.call192 l u (Qq d g h (q.ro l) i j (s.ro l) _ ab) rfl fun ac _ o p=>(wp 1 rfl ?_))))
 rcases bE u9 with c | c
 ·replace b:=BA c b
  refine wn rfl c (wp 1 rfl (wn rfl c (bB b fun ad ae b=>(Bu rfl Tryz.call77 o p (Cd ac k 1 64 _ ae) rfl fun aj _ af ag=>(AA rfl rfl c rfl (Aq 1 rfl ?_))))))
  exact jx (n ad _ b af (ag.sel [] rfl)) rfl
 ·replace b:=Cf c b
  refine wo rfl c (wo rfl c (A9 rfl rfl c rfl (Aq 1 rfl ?_)))
  exact jx (n false _ b o (p.sel [] rfl)) rfl
theorem KG (d:Ae) (b:(Int × Int)) (c:(Int × Int)) (r:Int) (f:GQ b c = some r) :
  A1 194 [(.agg #[(iv b.1),(iv b.2)]),(.agg #[(iv c.1),(iv c.2)])] d fun e w'=>e = .returned (iv r) ∧ Bl d w':=by
 refine cm Tryz.func194 Tryz.ntmps194 rfl fun Q g o h i=>?_
 unfold GQ at f
 refine Ak fun _ j=>CK rfl h i fun p q _ k l=>CK rfl k l fun s t _ m a=>Aq 1 rfl (j (Ak fun _ n=>(Bp CJ rfl (AO 1 A4 rfl a rfl rfl (Bp CJ rfl (AO 0 A4 rfl a rfl rfl (wp 1 rfl (Bp CJ rfl (AO 1 A4 rfl a rfl rfl (Bp CJ rfl (AO 0 A4 rfl a rfl rfl (wp 2 rfl (Bp CI rfl (AO 1 A4 rfl a rfl rfl (Bp CI rfl (AO 0 A4 rfl a rfl rfl (wp 1 rfl (Bp CI rfl (AO 1 A4 rfl a rfl rfl (Bp CI rfl (AO 0 A4 rfl a rfl rfl (Aq 4 rfl (n (Ay (rt g rfl rfl (by cases f; exact ⟨rfl,m⟩))))))))))))))))))))))))))
theorem UD (c:Ae) (g:Ae1) (t:Ac) (ae:RO Ao c t g) (d:Ae1) (n:Ac) (af:RO Ao c n d) (r:Ae6) (b:JK g d = some r) :
  A1 141 [t,n] c fun e w'=>∃ (q0:Ac) (G0:Al),e = .returned q0 ∧ Bl c w' ∧ Sp c w' [Ab Ci G0 q0 r]:=by
 refine cm Tryz.func141 Tryz.ntmps141 rfl fun Q hQ hP hB hS=>?_
 unfold JK at b
 refine An 1 rfl (An 1 rfl (Ap fun _ ar=>(Ak fun _ au=>(wp 1 rfl (BX ae Tryz.underlying26 rfl (Aq 1 rfl (au (A0 (AU (fun m a x=>∃ (h:Ae6) (f:Int) (j:Ac) (u:Al),St 36 [(1,n),(5,j),(11,t),(12,(iv (List.length g:Int))),(13,(iv f))] a ∧ Bl c x ∧ Sp c x [Ab Ci u j h] ∧ Ey g d m h f = some r) FU ?_ ?_)))))))))
 ·have av:=hS.push0 (r:=Ab Ci [] (.slice none 0 0) []) rfl fun _=>.inl ⟨rfl,rfl,rfl⟩
  exact fun a ha=>⟨[],0,(.slice none 0 0),[],ha.sb rfl,hB,(av.sel [0] rfl),b⟩
 ·rintro o a x ⟨h,f,j,u,ha,y,ah,b⟩ b8 aw
  refine BE ?_ ha
  cases o with
  | zero=>exact Bg b
  | succ o =>
   obtain ⟨ai,aj⟩:∃ k,k = Ey g d o:=⟨_,rfl⟩
   rw [Ey,← aj] at b
   refine An 1 rfl (Ap fun _ ax=>(A3 rfl b (fun _ b=>?_) (fun _ b=>?_)))
   ·refine Au (ax ?_)
    refine Ap fun _ ay=>A0 (Ak fun _ az=>(bB b fun p a0 b=>(BP (e:=Ao) Tryz.underlying26 rfl rfl rfl ae a0 ?_)))
    rintro b9 _ rfl a1
    refine BZ Bs rfl (a1.ro y) rfl (Ei Bs rfl y ah fun ak ca _ a2 a3=>(Gj 0 Bs rfl rfl a2 a3 rfl rfl rfl fun cb _ a4 a5=>(Ah (az (An 1 rfl (Ap fun _ a6=>(Ak fun _ a7=>(wp 1 rfl (BX af Tryz.underlying26 rfl (Aq 1 rfl (a7 (A0 (AU (fun m a z=>∃ (v:(List Int)) (w:Int) (q:Ac) (aa:Al),St 36 [(1,n),(5,j),(7,(.pointer (some ⟨ak,0,none⟩))),(8,q),(11,t),(12,(iv (List.length g:Int))),(13,(iv f)),(17,n),(18,(iv (List.length d:Int))),(19,(iv w))] a ∧ Bl c z ∧ Sp c z [Ab Ci u j h,A5 ak 79 [(iv p.1),(iv p.2)],Ab Ar aa q v] ∧ Fg d p h ai f m v w = some r) FU ?_ ?_)))))))))))))
    ·have a8:=a5.push0 (r:=Ab Ar [] (.slice none 0 0) []) rfl fun _=>.inl ⟨rfl,rfl,rfl⟩
     exact fun a ha=>⟨[],0,(.slice none 0 0),[],ha.sb rfl,a4,(a8.sel [2,1,0] rfl),b⟩
    ·rintro s a z ⟨v,w,q,aa,ha,ab,ac,b⟩ cc a9
     refine BE ?_ ha
     cases s with
     | zero=>exact Bg b
     | succ s =>
      obtain ⟨cd,al⟩:∃ k,k = Fg d p h ai f s:=⟨_,rfl⟩
      rw [Fg,← al] at b
      refine An 1 rfl (Ap fun _ ba=>(A3 rfl b (fun _ b=>?_) (fun _ b=>?_)))
      ·refine Au (ba ?_)
       refine Ap fun _ bb=>A0 (Ak fun _ bc=>(bB b fun bd be b=>(BP (e:=Ao) Tryz.underlying26 rfl rfl rfl af be ?_)))
       rintro ce _ rfl bf
       refine BZ Bs rfl (bf.ro ab) rfl (Ei Bs rfl ab ac fun cf cg _ bg bh=>(Gj 0 Bs rfl rfl bg bh rfl rfl rfl fun bi _ bj ad=>(Ah (bc (As (wp 1 rfl (AO 2 Bs rfl ad rfl rfl (AO 0 Bs rfl ad rfl rfl (bB b fun u64 bk b=>(Bu rfl Tryz.call194 bj ad (KG bi p bd _ bk) rfl fun ch _ bl bm=>(Bc (vs:=[(iv u64)]) (l:=[u64]) Co Tryz.underlying36 rfl rfl rfl rfl rfl rfl bl bm fun ci cj bn _ bo am=>(bB b fun bp bq b=>(AF (i:=4) (S:=(· < bn.heap.size)) Co Tryz.underlying36 rfl rfl rfl bo am rfl (am.own_ro (i:=0) rfl) bq fun br bs ck _ bt bu=>(Aq 1 rfl (bb (As (Aq 2 rfl ?_)))))))))))))))))
       rw [al] at b
       exact fun a ha=>a9 a _ s (AB s) ⟨bp,(Ag (w + 1)),br,bs,ha.sb rfl,bt,(bu.sel [2,3,4] rfl),b⟩
      ·refine Bd (a6 ?_)
       refine As (wp 2 rfl ?_)
       have bv:=ac.sel [2,0,1] rfl
       have bw:=bv.head (r':=Qc Ci aa [q] v) (rfl) fun _ h0=>⟨_,rfl,h0⟩
       refine N5 (e:=Ci) (vs:=[q]) Tryz.underlying155 rfl rfl (Ce (ac.own_ro (i:=2) rfl).one) rfl ab bw fun cl cn co _ _ bz b0=>bB b fun b1 b2 b=>Lb (e:=Ci) Tryz.underlying155 rfl rfl rfl bz (b0.sel [1,0,2] rfl) b2 fun b3 b4 cp _ b5 b6=>Aq 1 rfl (ay (As (Aq 2 rfl ?_)))
       rw [aj] at b
       exact fun a ha=>aw a _ o (AB o) ⟨b1,(Ag (f + 1)),b3,b4,ha.sb rfl,b5,(b6.sel [0] rfl),b⟩
   ·refine Bd (ar ?_)
    refine An 2 rfl (Ay (rt hQ rfl rfl (by cases b; exact ⟨j,u,rfl,y,ah.sel [0] rfl⟩)))
theorem GD (b:Ae) (c:Int) (d:Int) (r:Int) (a:EP c d = some r) :
  A1 225 [(iv c),(iv d)] b fun e w'=>e = .returned (iv r) ∧ Bl b w':=by
 refine cm Tryz.func225 Tryz.ntmps225 rfl fun Q f i g _=>?_
 unfold EP at a
 refine An 1 rfl (Ap fun _ h=>(An 3 rfl (A3 rfl a (fun _ a=>?_) (fun _ a=>?_))))
 ·refine An 2 rfl ?_
  refine Ay (rt f rfl rfl (by cases a; exact ⟨rfl,g⟩))
 ·refine Au (h ?_)
  refine An 2 rfl (Ay (rt f rfl rfl (by cases a; exact ⟨rfl,g⟩)))
theorem U3 (g:Ae) (j:Ae6) (u:Ac) (a6:RO Ci g u j) (r:(List Int)) (b:JD j = some r) :
  A1 193 [u] g fun e w'=>∃ (q0:Ac) (G0:Al),e = .returned q0 ∧ Bl g w' ∧ Sp g w' [Ab Ar G0 q0 r]:=by
 refine cm Tryz.func193 Tryz.ntmps193 rfl fun Q hQ d hB hS=>?_
 unfold JD at b
 refine An 1 rfl (Ak fun _ b2=>(wp 1 rfl (BX a6 Tryz.underlying155 rfl (Aq 1 rfl (b2 (Ak fun _ b3=>(wp 1 rfl (DU Tryz.underlying3 Tryz.underlying117 rfl rfl ?_))))))))
 have h4:=Hl b
 replace b:=BA h4 b
 refine J8 h4 rfl rfl rfl (bB b fun u5 b5 b=>(N4 (e:=Ar) Tryz.underlying36 rfl rfl b5 hB hS fun v6 F7 w8 _ b8 b9=>(Aq 1 rfl (b3 (Ap fun _ ca=>(An 1 rfl (A0 (AU (fun m a aq=>∃ (s:(List Int)) (f:Int) (t:Ac) (v:Al),St 76 [(0,u),(3,(iv (List.length j:Int))),(4,t),(5,(iv f))] a ∧ Bl g aq ∧ Sp g aq [Ab Ar v t s] ∧ EX j m s f = some r) FU ?_ ?_))))))))
 ·exact fun a ha=>⟨u5,1,v6,F7,ha.sb rfl,b8,(b9.sel [0] rfl),b⟩
 ·rintro w a aq ⟨s,f,t,v,ha,a8,a9,b⟩ d4 cb
  refine BE ?_ ha
  cases w with
  | zero=>exact Bg b
  | succ w =>
   obtain ⟨ad,ba⟩:∃ k,k = EX j w:=⟨_,rfl⟩
   rw [EX,← ba] at b
   refine Ap fun _ cc=>Ak fun _ cd=>wp 2 rfl (DU Tryz.underlying3 Tryz.underlying117 rfl rfl (J8 h4 rfl rfl rfl (Aq 1 rfl (cd (A3 rfl b (fun _ b=>?_) (fun _ b=>?_))))))
   ·refine Au (cc ?_)
    refine Ap fun _ ce=>A0 (An 1 rfl (Ap fun _ cf=>(An 1 rfl (A0 (AU (fun m a ar=>∃ (ae:Int) (x:Int),St 76 [(0,u),(3,(iv (List.length j:Int))),(4,t),(5,(iv f)),(6,(iv ae)),(7,(iv x))] a ∧ Bl g ar ∧ Sp g ar [Ab Ar v t s] ∧ Ex j f s ad m ae x = some r) FU ?_ ?_)))))
    ·exact fun a ha=>⟨0,0,ha.sb rfl,a8,(a9.sel [0] rfl),b⟩
    ·rintro y a ar ⟨ae,x,ha,bb,au,b⟩ d5 cg
     refine BE ?_ ha
     cases y with
     | zero=>exact Bg b
     | succ y =>
      obtain ⟨d6,bc⟩:∃ k,k = Ex j f s ad y:=⟨_,rfl⟩
      rw [Ex,← bc] at b
      refine Ap fun _ ch=>An 3 rfl (A3 rfl b (fun _ b=>?_) (fun _ b=>?_))
      ·refine Au (ch ?_)
       refine Ap fun _ ci=>A0 (As (wp 3 rfl (DU Tryz.underlying3 Tryz.underlying117 rfl rfl ?_)))
       have bd:=Hl b
       replace b:=BA bd b
       refine Gi bd rfl rfl rfl (I2 rfl rfl rfl (Aq 2 rfl (ci (As (Aq 3 rfl ?_)))))
       rw [bc] at b
       exact fun a ha=>cg a _ y (AB y) ⟨(Ag (ae + (B5 .i64 (Bq .i64 f (Bh x)) 1))),(Ag (x + 1)),ha.sb rfl,bb,(au.sel [0] rfl),b⟩
      ·refine Bd (cf ?_)
       refine Ak fun _ cj=>wp 2 rfl (bB b fun d7 be b=>(Cw (e:=Ar) (i:=0) Tryz.underlying36 rfl rfl rfl au rfl be ?_))
       rintro d8 _ rfl d9 ck
       refine BT (i:=0) (o:=0) (vs:=[(iv 1000000000)]) (u':=1000000000) Co A4 rfl rfl rfl rfl ck be bb au rfl rfl ⟨rfl,trivial⟩ rfl fun ea _ bf cl=>Ah (cj (Ak fun _ cn=>(wp 4 rfl (bB b fun af co b=>(BP (e:=Ci) Tryz.underlying155 rfl rfl rfl a6 co ?_)))))
       rintro eb _ ⟨bg,rfl,bh⟩ cp
       refine BZ Fu rfl (cp.ro bf) rfl (BX bh Tryz.underlying36 rfl (Aq 1 rfl (cn (A0 (AU (fun m a av=>∃ (n:(List Int)) (z:Int) (p:Ac) (l:Al),St 76 [(0,u),(3,(iv (List.length j:Int))),(4,p),(5,(iv f)),(43,bg),(44,(iv (List.length af:Int))),(45,(iv z))] a ∧ Bl g av ∧ Sp g av [Ab Ar l p n] ∧ D0 af f ad m n z = some r) FU ?_ ?_)))))
       ·exact fun a ha=>⟨(BG s f 1000000000),0,t,v,ha.sb rfl,bf,(cl.sel [0] rfl),b⟩
       ·rintro aa a av ⟨n,z,p,l,ha,ag,aw,b⟩ ec cq
        refine BE ?_ ha
        cases aa with
        | zero=>exact Bg b
        | succ aa =>
         obtain ⟨ed,bi⟩:∃ k,k = D0 af f ad aa:=⟨_,rfl⟩
         rw [D0,← bi] at b
         refine An 1 rfl (Ap fun _ cr=>(A3 rfl b (fun _ b=>?_) (fun _ b=>?_)))
         ·refine Au (cr ?_)
          refine Ap fun cs ct=>?_
          obtain ⟨cu,cv,b⟩:=Cj b
          have ab:∀ (ah:(List Int)) (ai:Ac) (ax:Al) (aj:Ae) (_:cu ah = some r) (_:Bl g aj) (_:Sp g aj [Ab Ar ax ai ah]),∀ a,St 76 [(0,u),(3,(iv (List.length j:Int))),(4,ai),(5,(iv f)),(43,bg),(44,(iv (List.length af:Int))),(45,(iv z))] a → cs a aj:=by
           intro ah ai ax aj b cw cx
           subst cv
           refine ct (As (Aq 2 rfl ?_))
           rw [bi] at b
           exact fun a ha=>cq a _ aa (AB aa) ⟨ah,(Ag (z + 1)),ai,ax,ha.sb rfl,cw,(cx.sel [0] rfl),b⟩
          refine A0 (Ak fun _ cy=>(wp 1 rfl (bB b fun ak cz b=>(BP (e:=Ar) Tryz.underlying36 rfl rfl rfl bh cz ?_))))
          rintro ee _ rfl c0
          refine BZ A4 rfl (c0.ro ag) rfl (Aq 2 rfl (cy (Ak fun _ c1=>(wp 2 rfl (DU Tryz.underlying3 Tryz.underlying117 rfl rfl ?_)))))
          have al:=Hl b
          replace b:=BA al b
          refine Gi al rfl rfl rfl (I2 rfl rfl rfl (Aq 1 rfl (c1 (A3 rfl b (fun _ b=>?_) (fun _ b=>?_)))))
          ·refine AQ B4 l ag aw fun ac _ am q=>?_
           have c:=KeepX.refl ac l
           refine Ax 0 rfl d c (Ax 1 rfl d c (Ax 2 rfl d c (Ax 3 rfl d c (bB b fun an c2 b=>(Ad 4 rfl d c (Bv (e:=Ar) (i:=0) Tryz.underlying36 rfl rfl rfl q rfl c2 ?_))))))
           rintro ef _ rfl ao eg
           refine Ax 6 rfl d c (Ax 7 rfl d c (Ax 8 rfl d c (Ax 9 rfl d c (Ad 10 rfl d c (PJ Tryz.underlying3 Tryz.underlying117 rfl rfl (C0 (is:=[5,11]) (by kernel_rfl) rfl (Bb.2 ⟨⟨_,rfl,?_⟩,Bb.2 ⟨⟨_,rfl,?_⟩,fun _ h=>by cases h⟩⟩)))))))
           ·refine BZ A4 rfl ao rfl ?_
            refine Ah (Am c (Av 11 rfl (J8 al rfl rfl rfl (Ah (Am c (Av 12 rfl (Q4 rfl rfl rfl (Ah (Am c (bB b fun c3 c4 b=>(Ad 13 rfl d c (Bv (e:=Ar) (i:=0) Tryz.underlying36 rfl rfl rfl q rfl c4 ?_))))))))))))
            rintro eh _ rfl c5 ei
            refine Av 14 rfl (BZ A4 rfl c5 rfl (Ah (Am c (Ad 15 rfl d c (E7 rfl rfl rfl (Av 16 rfl (bB b fun ay c6 b=>(Bu rfl Tryz.call225 am q (GD ac an (Ag (ak + c3)) _ c6) rfl fun ej c7 c8 bj=>?_))))))))
            have az:=c.ext c7
            refine Ah (Am az (Av 17 rfl (bB b fun ek bk b=>(Cw (e:=Ar) (i:=0) Tryz.underlying36 rfl rfl rfl bj rfl bk ?_))))
            rintro el _ rfl em c9
            refine Ah (Am az (Av 18 rfl (BT (i:=0) (o:=0) (vs:=[(iv ay)]) (u':=ay) Co A4 rfl rfl rfl rfl c9 bk c8 bj rfl rfl ⟨rfl,trivial⟩ rfl fun en bl da db=>?_)))
            have dc:=az.wr' bl.1 bl.2.1 (fun _ _ h=>h)
            refine Ah (Am dc (Ba ?_))
            exact jx (ab ((BG n f ay)) p l _ b da (db.sel [0] rfl)) rfl
           ·refine J8 al rfl rfl rfl ?_
            refine Ah (Am c (C0 (is:=[5,12]) (by kernel_rfl) rfl (Bb.2 ⟨⟨_,rfl,?_⟩,Bb.2 ⟨⟨_,rfl,?_⟩,fun _ h=>by cases h⟩⟩)))
            ·refine BZ A4 rfl ao rfl ?_
             refine Ah (Am c (Av 12 rfl (Q4 rfl rfl rfl (Ah (Am c (bB b fun dd de b=>(Ad 13 rfl d c (Bv (e:=Ar) (i:=0) Tryz.underlying36 rfl rfl rfl q rfl de ?_))))))))
             rintro eo _ rfl df ep
             refine Av 14 rfl (BZ A4 rfl df rfl (Ah (Am c (Ad 15 rfl d c (E7 rfl rfl rfl (Av 16 rfl (bB b fun a0 dg b=>(Bu rfl Tryz.call225 am q (GD ac an (Ag (ak + dd)) _ dg) rfl fun eq dh di bm=>?_))))))))
             have a1:=c.ext dh
             refine Ah (Am a1 (Av 17 rfl (bB b fun er bn b=>(Cw (e:=Ar) (i:=0) Tryz.underlying36 rfl rfl rfl bm rfl bn ?_))))
             rintro es _ rfl et dj
             refine Ah (Am a1 (Av 18 rfl (BT (i:=0) (o:=0) (vs:=[(iv a0)]) (u':=a0) Co A4 rfl rfl rfl rfl dj bn di bm rfl rfl ⟨rfl,trivial⟩ rfl fun eu bo dk dl=>?_)))
             have dm:=a1.wr' bo.1 bo.2.1 (fun _ _ h=>h)
             refine Ah (Am dm (Ba ?_))
             exact jx (ab ((BG n f a0)) p l _ b dk (dl.sel [0] rfl)) rfl
            ·refine Q4 rfl rfl rfl ?_
             refine Ah (Am c (bB b fun bp dn b=>(Ad 13 rfl d c (Bv (e:=Ar) (i:=0) Tryz.underlying36 rfl rfl rfl q rfl dn ?_))))
             rintro ev _ rfl bq ew
             refine C0 (is:=[5,14]) (by kernel_rfl) rfl (Bb.2 ⟨⟨_,rfl,?_⟩,Bb.2 ⟨⟨_,rfl,?_⟩,fun _ h=>by cases h⟩⟩)
             ·refine BZ A4 rfl ao rfl ?_
              refine Ah (Am c (Av 14 rfl (BZ A4 rfl bq rfl (Ah (Am c (Ad 15 rfl d c (E7 rfl rfl rfl (Av 16 rfl (bB b fun a2 dp b=>(Bu rfl Tryz.call225 am q (GD ac an (Ag (ak + bp)) _ dp) rfl fun ex dq dr br=>?_))))))))))
              have a3:=c.ext dq
              refine Ah (Am a3 (Av 17 rfl (bB b fun ey bs b=>(Cw (e:=Ar) (i:=0) Tryz.underlying36 rfl rfl rfl br rfl bs ?_))))
              rintro ez _ rfl e0 ds
              refine Ah (Am a3 (Av 18 rfl (BT (i:=0) (o:=0) (vs:=[(iv a2)]) (u':=a2) Co A4 rfl rfl rfl rfl ds bs dr br rfl rfl ⟨rfl,trivial⟩ rfl fun e1 bt dt du=>?_)))
              have dv:=a3.wr' bt.1 bt.2.1 (fun _ _ h=>h)
              refine Ah (Am dv (Ba ?_))
              exact jx (ab ((BG n f a2)) p l _ b dt (du.sel [0] rfl)) rfl
             ·refine BZ A4 rfl bq rfl ?_
              refine Ah (Am c (Ad 15 rfl d c (E7 rfl rfl rfl (Av 5 rfl (BZ A4 rfl ao rfl (Ah (Am c (Av 16 rfl (bB b fun a4 dw b=>(Bu rfl Tryz.call225 am q (GD ac an (Ag (ak + bp)) _ dw) rfl fun e2 dx dy bu=>?_))))))))))
              have a5:=c.ext dx
              refine Ah (Am a5 (Av 17 rfl (bB b fun e3 bv b=>(Cw (e:=Ar) (i:=0) Tryz.underlying36 rfl rfl rfl bu rfl bv ?_))))
              rintro e4 _ rfl e5 dz
              refine Ah (Am a5 (Av 18 rfl (BT (i:=0) (o:=0) (vs:=[(iv a4)]) (u':=a4) Co A4 rfl rfl rfl rfl dz bv dy bu rfl rfl ⟨rfl,trivial⟩ rfl fun e6 bw d0 d1=>?_)))
              have d2:=a5.wr' bw.1 bw.2.1 (fun _ _ h=>h)
              refine Ah (Am d2 (Ba ?_))
              exact jx (ab ((BG n f a4)) p l _ b d0 (d1.sel [0] rfl)) rfl
          ·refine Au ?_
           exact jx (ab n p l _ b ag (aw.sel [0] rfl)) rfl
         ·refine Bd (ce ?_)
          refine As (Aq 3 rfl ?_)
          rw [ba] at b
          exact fun a ha=>cb a _ w (AB w) ⟨n,(Ag (f + 1)),p,l,ha.sb rfl,ag,(aw.sel [0] rfl),b⟩
   ·refine Bd (ca ?_)
    refine An 2 rfl (Ay (rt hQ rfl rfl (by cases b; exact ⟨t,v,rfl,a8,a9.sel [0] rfl⟩)))
theorem U4 (h:Ae) (p:Ae6) (x:Ac) (ah:RO Ci h x p) (r:Ae7) (d:JE p = some r) :
  A1 140 [x] h fun e w'=>∃ (q0:Ac) (G0:Al),e = .returned (.tuple #[q0,(iv r.2)]) ∧ Bl h w' ∧ Sp h w' [Ab Ar G0 q0 r.1]:=by
 refine cm Tryz.func140 Tryz.ntmps140 rfl fun Q hQ b hB hS=>?_
 unfold JE at d
 refine An 2 rfl (Ak fun _ bb=>(wp 1 rfl (bB d fun j bc d=>(E6 rfl Tryz.call193 hB hS (U3 h p x (ah.ro hB) _ bc) rfl fun v F5 w6 _ _ bd aw=>(Aq 1 rfl (bb (Ak fun _ be=>(wp 1 rfl (BX (aw.own_ro (i:=0) rfl) Tryz.underlying36 rfl (Aq 2 rfl (be (An 1 rfl (Ap fun _ bf=>(Ak fun _ bg=>(wp 1 rfl (BX ah Tryz.underlying155 rfl (Aq 1 rfl (bg (A0 (AU (fun m a ai=>∃ (n:Int) (w:(List Int)) (q:Int) (o:Ac) (y:Al),St 76 [(4,v),(5,(iv n)),(6,o),(17,x),(18,(iv (List.length p:Int))),(19,(iv q))] a ∧ Bl h ai ∧ Sp h ai [Ab Ar F5 v j,Ab Ar y o w] ∧ DT p j m n w q = some r) FU ?_ ?_))))))))))))))))))))
 ·have bh:=aw.push0 (r:=Ab Ar [] (.slice none 0 0) []) rfl fun _=>.inl ⟨rfl,rfl,rfl⟩
  exact fun a ha=>⟨(Ag ((List.length j:Int) - 1)),[],0,(.slice none 0 0),[],ha.sb rfl,bd,(bh.sel [1,0] rfl),d⟩
 ·rintro z a ai ⟨n,w,q,o,y,ha,aj,ax,d⟩ cu bi
  refine BE ?_ ha
  cases z with
  | zero=>exact Bg d
  | succ z =>
   obtain ⟨ay,az⟩:∃ k,k = DT p j z:=⟨_,rfl⟩
   rw [DT,← az] at d
   refine An 1 rfl (Ap fun _ bj=>(A3 rfl d (fun _ d=>?_) (fun _ d=>?_)))
   ·refine Au (bj ?_)
    refine Ap fun _ bk=>A0 (Ak fun _ bl=>(bB d fun aa bm d=>(BP (e:=Ci) Tryz.underlying155 rfl rfl rfl ah bm ?_)))
    rintro cv _ ⟨ak,rfl,a0⟩ bn
    refine BZ Fu rfl (bn.ro aj) rfl (Aq 1 rfl (bl (An 1 rfl (Ap fun _ bo=>(Ak fun _ bp=>(wp 1 rfl (BX a0 Tryz.underlying36 rfl (Aq 1 rfl (bp (A0 (AU (fun m a al=>∃ (s:Int) (t:Int),St 76 [(4,v),(5,(iv n)),(6,o),(9,(iv s)),(17,x),(18,(iv (List.length p:Int))),(19,(iv q)),(23,ak),(24,(iv (List.length aa:Int))),(25,(iv t))] a ∧ Bl h al ∧ Sp h al [Ab Ar F5 v j,Ab Ar y o w] ∧ EY aa n j w ay q m s t = some r) FU ?_ ?_)))))))))))
    ·exact fun a ha=>⟨(-1),0,ha.sb rfl,aj,(ax.sel [0,1] rfl),d⟩
    ·rintro ab a al ⟨s,t,ha,am,a1,d⟩ cw bq
     refine BE ?_ ha
     cases ab with
     | zero=>exact Bg d
     | succ ab =>
      obtain ⟨cx,a2⟩:∃ k,k = EY aa n j w ay q ab:=⟨_,rfl⟩
      rw [EY,← a2] at d
      refine An 1 rfl (Ap fun _ br=>(A3 rfl d (fun _ d=>?_) (fun _ d=>?_)))
      ·refine Au (br ?_)
       refine Ap fun bs bt=>?_
       obtain ⟨bu,bv,d⟩:=Cj d
       have a3:∀ (ae:Int) (af:Ae) (_:bu ae = some r) (_:Bl h af) (_:Sp h af [Ab Ar F5 v j,Ab Ar y o w]),∀ a,St 76 [(4,v),(5,(iv n)),(6,o),(9,(iv ae)),(17,x),(18,(iv (List.length p:Int))),(19,(iv q)),(23,ak),(24,(iv (List.length aa:Int))),(25,(iv t))] a → bs a af:=by
        intro ae af d bw bx
        subst bv
        refine bt (As (Aq 2 rfl ?_))
        rw [a2] at d
        exact fun a ha=>bq a _ ab (AB ab) ⟨ae,(Ag (t + 1)),ha.sb rfl,bw,(bx.sel [0,1] rfl),d⟩
       refine A0 (Ak fun _ bz=>(wp 1 rfl (bB d fun b0 b1 d=>(BP (e:=Ar) Tryz.underlying36 rfl rfl rfl a0 b1 ?_))))
       rintro cy _ rfl b2
       refine BZ A4 rfl (b2.ro am) rfl (Aq 2 rfl (bz (Ap fun b3 b4=>?_)))
       obtain ⟨b5,b6,d⟩:=Cj d
       have an:∀ (ao:Bool) (ag:Ae) (_:b5 ao = some r) (_:Bl h ag) (_:Sp h ag [Ab Ar F5 v j,Ab Ar y o w]),∀ a,St 76 [(4,v),(5,(iv n)),(6,o),(9,(iv s)),(10,(iv t)),(17,x),(18,(iv (List.length p:Int))),(19,(iv q)),(23,ak),(24,(iv (List.length aa:Int))),(25,(iv t)),(56,(.bool ao))] a → b3 a ag:=by
        intro ao ag d a4 a5
        subst b6
        refine b4 (A3 rfl d (fun _ d=>?_) (fun _ d=>?_))
        ·refine As ?_
         refine Aq 2 rfl ?_
         exact jx (a3 t _ d a4 (a5.sel [0,1] rfl)) rfl
        ·refine Au ?_
         exact jx (a3 s _ d a4 (a5.sel [0,1] rfl)) rfl
       refine AQ B4 [] am a1 fun b7 _ ap ac=>?_
       have c:=KeepX.refl b7 []
       refine Ax 0 rfl b c (Ad 1 rfl b c (LY rfl rfl rfl (Ax 2 rfl b c ?_)))
       rcases bE (decide (s < 0)) with g | g
       ·replace d:=BA g d
        refine BF 3 rfl b g c (Da rfl rfl (BF 4 rfl b g c (Da rfl rfl (BF 5 rfl b g c (PJ Tryz.underlying3 Tryz.underlying117 rfl rfl (Av 6 rfl (wn rfl g ?_)))))))
        have aq:=Hl d
        replace d:=BA aq d
        refine Gi aq rfl rfl rfl (Ah (Am c (Av 7 rfl (wn rfl g (I2 rfl rfl rfl (Ah (Am c (BF 8 rfl b g c (Pn rfl rfl rfl (Ad 9 rfl b c (Ep rfl rfl g rfl (Ax 10 rfl b c ?_))))))))))))
        rcases bE ((B5 .i64 (Bq .i64 n (Bh t)) 1) == 1) with f | f
        ·replace d:=BA f d
         refine BF 11 rfl b f c (Da rfl rfl (BF 12 rfl b f c (Da rfl rfl (BF 13 rfl b f c (Da rfl rfl (BF 14 rfl b f c (Da rfl rfl (BF 15 rfl b f c (PJ Tryz.underlying3 Tryz.underlying117 rfl rfl (BF 21 rfl b f c (Da rfl rfl (BF 22 rfl b f c (Da rfl rfl (bB d fun b8 b9 d=>BF 23 rfl b f c (Bv (e:=Ar) (i:=0) Tryz.underlying36 rfl rfl rfl ac rfl b9 ?_)))))))))))))))
         rintro cz _ rfl ca c0
         refine BF 24 rfl b f c (BL A4 rfl (ca.kx0) rfl (Av 16 rfl (wn rfl f (J8 aq rfl rfl rfl (Ah (Am c (Av 17 rfl (wn rfl f (Q4 rfl rfl rfl (Ah (Am c (bB d fun cb cc d=>(BF 18 rfl b f c (Bv (e:=Ar) (i:=0) Tryz.underlying36 rfl rfl rfl ac rfl cc ?_))))))))))))))
         rintro c1 _ rfl cd c2
         refine BF 19 rfl b f c (BL A4 rfl (cd.kx0) rfl (BF 20 rfl b f c (E7 rfl rfl rfl (BF 25 rfl b f c (Pn rfl rfl rfl (Ad 26 rfl b c (Ep rfl rfl f rfl (Ba ?_))))))))
         exact jx (an (((Ag (b0 + cb)) == b8)) _ d ap (ac.sel [0,1] rfl)) rfl
        ·replace d:=Cf f d
         refine AZ 11 rfl b f c (AZ 12 rfl b f c (AZ 13 rfl b f c (AZ 14 rfl b f c (AZ 15 rfl b f c (AZ 16 rfl b f c (AZ 17 rfl b f c (AZ 18 rfl b f c (AZ 19 rfl b f c (AZ 20 rfl b f c (AZ 21 rfl b f c (AZ 22 rfl b f c (AZ 23 rfl b f c (AZ 24 rfl b f c (AZ 25 rfl b f c (Ad 26 rfl b c (FV rfl rfl f rfl (Ba ?_)))))))))))))))))
         exact jx (an false _ d ap (ac.sel [0,1] rfl)) rfl
       ·replace d:=Cf g d
        refine AZ 3 rfl b g c (AZ 4 rfl b g c (AZ 5 rfl b g c (AZ 6 rfl b g c (AZ 7 rfl b g c (AZ 8 rfl b g c (Ad 9 rfl b c (FV rfl rfl g rfl (Ax 10 rfl b c (AZ 11 rfl b rfl c (AZ 12 rfl b rfl c (AZ 13 rfl b rfl c (AZ 14 rfl b rfl c (AZ 15 rfl b rfl c (AZ 16 rfl b rfl c (AZ 17 rfl b rfl c (AZ 18 rfl b rfl c (AZ 19 rfl b rfl c (AZ 20 rfl b rfl c (AZ 21 rfl b rfl c (AZ 22 rfl b rfl c (AZ 23 rfl b rfl c (AZ 24 rfl b rfl c (AZ 25 rfl b rfl c (Ad 26 rfl b c (FV rfl rfl rfl rfl (Ba ?_))))))))))))))))))))))))))
        exact jx (an false _ d ap (ac.sel [0,1] rfl)) rfl
      ·refine Bd (bo ?_)
       refine Ak fun _ ce=>wp 2 rfl (Bc (vs:=[(iv s)]) (l:=[s]) Co Tryz.underlying36 rfl rfl rfl rfl rfl rfl am a1 fun c3 c4 cf _ cg a6=>(bB d fun ch ci d=>(AF (i:=2) (S:=(· < cf.heap.size)) Co Tryz.underlying36 rfl rfl rfl cg a6 rfl (a6.own_ro (i:=0) rfl) ci fun cj ck c5 _ cl cn=>(Aq 1 rfl (ce (As (wp 2 rfl (DU Tryz.underlying3 Tryz.underlying117 rfl rfl ?_))))))))
       have a7:=Hl d
       replace d:=BA a7 d
       refine J8 a7 rfl rfl rfl (Q4 rfl rfl rfl (Aq 1 rfl (bk (As (Aq 2 rfl ?_)))))
       rw [az] at d
       exact fun a ha=>bi a _ z (AB z) ⟨(Si .i64 n (K0 .i64 1 (Bh s))),ch,(Ag (q + 1)),cj,ck,ha.sb rfl,cl,(cn.sel [1,2] rfl),d⟩
   ·refine Bd (bf ?_)
    refine Ap fun _ co=>AQ B4 [] aj ax fun cp _ cq ar=>?_
    have u:=KeepX.refl cp []
    refine Ax 0 rfl b u (Ax 1 rfl b u (Ax 2 rfl b u (Ad 3 rfl b u (M8 (e:=Ar) (l:=j) Tryz.underlying36 rfl rfl (ar.own_ro (i:=0) rfl) (Ad 4 rfl b u (GM rfl rfl rfl (bB d fun c6 cr d=>(Ad 5 rfl b u (Bv (e:=Ar) (i:=0) Tryz.underlying36 rfl rfl rfl ar rfl cr ?_)))))))))
    rintro c7 _ rfl cs c8
    refine Ad 6 rfl b u (BL A4 rfl (cs.kx0) rfl (Ad 7 rfl b u (AC rfl rfl (Ad 8 rfl b u (AC rfl rfl (Ba (co (Ay (rt hQ rfl rfl (by cases d; exact ⟨o,y,rfl,cq,ar.sel [1] rfl⟩))))))))))
theorem Rd (a:Ae) (c:(List Int)) (d:Ac) (h:RO Ar a d c) (r:(List Int)) (b:JF c = some r) :
  A1 52 [d] a fun e w'=>∃ (f:Ac) (j:Al),e = .returned f ∧ Bl a w' ∧ Sp a w' [Ab Ar j f r]:=by
 refine cm Tryz.func52 Tryz.ntmps52 rfl fun Q k x m n=>?_
 unfold JF at b
 refine An 1 rfl (Ak fun _ o=>(Bc (vs:=[]) (l:=[]) Co Tryz.underlying36 rfl rfl rfl rfl rfl rfl m n fun y z p _ g q=>(wp 1 rfl (bB b fun u9 s b=>(AF (i:=0) (S:=(· < p.heap.size)) Co Tryz.underlying36 rfl rfl rfl g q rfl (h.ro g) s fun t u ab _ v w=>(Aq 1 rfl (o (Ay (rt k rfl rfl (by cases b; exact ⟨t,u,rfl,v,w.sel [0] rfl⟩))))))))))
theorem Nk (h:Ae) (j:Ae1) (k:Ac) (x:RO Ao h k j) (l:Ae1) (m:Ac) (y:RO Ao h m l) (a:Int) (n:(List Int)) (o:Ac) (z:RO Ar h o n) (r:(Ae1 × Ae1 × Int × (List Int))) (b:HW j l a n = some r) :
  A1 142 [k,m,(iv a),o] h fun e w'=>∃ (p:Ac) (G0:Al) (q:Ac) (G1:Al) (s:Ac) (G2:Al),e = .returned (.agg #[p,q,(iv r.2.2.1),s]) ∧ Bl h w' ∧ Sp h w' [Ab Ao G0 p r.1,Ab Ao G1 q r.2.1,Ab Ar G2 s r.2.2.2]:=by
 refine cm Tryz.func142 Tryz.ntmps142 rfl fun Q hQ hP hB hS=>?_
 unfold HW at b
 refine Ak fun _ ag=>Ei Bo rfl hB hS fun b2 w3 _ t ai=>Ah (ag (Ak fun _ aj=>(wp 1 rfl (bB b fun u8 ak b=>(E6 rfl Tryz.call90 t ai (IG w3 j k (x.ro t) _ ak) rfl fun c al am _ _ u an=>(wp 1 rfl (bB b fun a0 ao b=>(E6 rfl Tryz.call90 u an (IG am l m (y.ro u) _ ao) rfl fun d ap aq _ _ v ar=>(wp 2 rfl (bB b fun a1 au b=>(E6 rfl Tryz.call52 v ar (Rd aq n o (z.ro v) _ au) rfl fun f av a2 _ _ aw g=>(DV (zs:=[(.slice none 0 0),(.slice none 0 0),(iv 0),(.slice none 0 0)]) (out:=[c,d,(iv a),f]) (vs:=[c,d,(iv a),f]) (css:=[[c],[d],[(iv a)],[f]]) Bo Po rfl rfl (by simp only [List.map_cons,List.map_nil,Ce ((g.own_ro (i:=2) rfl).one),Ce ((g.own_ro (i:=1) rfl).one),Ce ((g.own_ro (i:=0) rfl).one)] <;> rfl) rfl rfl (B9 (i:=3) (vs:=[c,d,(iv a),f]) (cs':=[c,d,(iv a),f]) Bo rfl rfl rfl rfl aw g rfl rfl ⟨(g.own_ro (i:=2) rfl).one,(g.own_ro (i:=1) rfl).one,rfl,(g.own_ro (i:=0) rfl).one,trivial⟩ rfl fun a3 _ ax w=>(Ah (aj (Ay ?_))))))))))))))))
 obtain rfl:=Option.some.inj b
 exact IM (vs:=[(.agg #[c,d,(iv a),f])]) hQ rfl ⟨Ha (i:=3) Bo rfl w rfl rfl rfl,trivial⟩ ⟨c,al,d,ap,f,av,rfl,ax,w.sel [2,1,0] rfl⟩
theorem L0 (b:Ae) (c:Ae1) (d:Ac) (p:RO Ao b d c) (f:Ae1) (g:Ac) (q:RO Ao b g f) (h:Int) (r:((Ae1 × Ae1 × Int × (List Int)) × Bool)) (a:Gn c f h = some r) :
  A1 96 [d,g,(iv h)] b fun e w'=>∃ (u:Ac) (G0:Al) (v:Ac) (G1:Al) (w:Ac) (G2:Al),e = .returned (.tuple #[(.agg #[u,v,(iv r.1.2.2.1),w]),(.bool r.2)]) ∧ Bl b w' ∧ Sp b w' [Ab Ao G0 u r.1.1,Ab Ao G1 v r.1.2.1,Ab Ar G2 w r.1.2.2.2]:=by
 refine cm Tryz.func96 Tryz.ntmps96 rfl fun Q x hP hB hS=>?_
 unfold Gn at a
 refine Ak fun _ aj=>Ei Bo rfl hB hS fun b2 w3 _ s al=>Aq 1 rfl (aj (Ap fun _ am=>(Ak fun _ an=>(wp 3 rfl (bB a fun u9 ao a=>(Bu rfl Tryz.call139 s al (P4 w3 c d (p.ro s) f g (q.ro s) h _ ao) rfl fun ap _ j y=>(Aq 1 rfl (an (A3 rfl a (fun _ a=>?_) (fun _ a=>?_))))))))))
 ·refine Ak fun _ aq=>?_
  refine DV (zs:=[(.slice none 0 0),(.slice none 0 0),(iv 0),(.slice none 0 0)]) (out:=[(.slice none 0 0),(.slice none 0 0),(iv 0),(.slice none 0 0)]) (vs:=[]) (css:=[]) Bo Po rfl rfl rfl rfl rfl (Gj 0 Bo rfl rfl j y rfl rfl rfl fun bi _ ar z=>(Aq 1 rfl (aq (Ay ?_))))
  have au:=z.push0 (r:=Ab Ao [] (.slice none 0 0) []) rfl fun _=>.inl ⟨rfl,rfl,rfl⟩
  have av:=au.push0 (r:=Ab Ao [] (.slice none 0 0) []) rfl fun _=>.inl ⟨rfl,rfl,rfl⟩
  have aw:=av.push0 (r:=Ab Ar [] (.slice none 0 0) []) rfl fun _=>.inl ⟨rfl,rfl,rfl⟩
  obtain rfl:=Option.some.inj a
  exact IM (vs:=[(.agg #[(.slice none 0 0),(.slice none 0 0),(iv 0),(.slice none 0 0)]),(.bool false)]) x rfl ⟨Ha (i:=0) Bo rfl z rfl rfl rfl,Jk rfl,trivial⟩ ⟨(.slice none 0 0),[],(.slice none 0 0),[],(.slice none 0 0),[],rfl,ar,aw.sel [2,1,0] rfl⟩
 ·refine Au (am ?_)
  refine Ak fun _ ax=>wp 2 rfl (bB a fun ay az a=>(E6 rfl Tryz.call141 j y (UD ap c d (p.ro j) f g (q.ro j) _ az) rfl fun a0 bj a1 _ _ a2 aa=>(bB a fun a3 a4 a=>(E6 rfl Tryz.call140 a2 aa (U4 a1 ay a0 (aa.own_ro (i:=0) rfl) _ a4) rfl fun a5 bk a6 _ _ k ab=>(Aq 5 rfl (ax (Ak fun _ a7=>(wp 4 rfl (bB a fun t a8 a=>(A7 rfl Tryz.call142 (Nk a6 c d (p.ro k) f g (q.ro k) h a3.1 a5 (ab.own_ro (i:=0) rfl) _ a8) rfl ?_))))))))))
  rintro _ bl ⟨l,a9,m,ba,n,bb,rfl,ac,bc⟩
  refine ⟨_,rfl,?_⟩
  have bd:=tm k ac
  have o:=ab.join ac bc k.size
  refine B9 (i:=5) (vs:=[l,m,(iv t.2.2.1),n]) (cs':=[l,m,(iv t.2.2.1),n]) Bo rfl rfl rfl rfl bd o rfl rfl ⟨(o.own_ro (i:=0) rfl).one,(o.own_ro (i:=1) rfl).one,rfl,(o.own_ro (i:=2) rfl).one,trivial⟩ rfl fun bm _ be ad=>Aq 1 rfl (a7 (Ay ?_))
  obtain rfl:=Option.some.inj a
  exact IM (vs:=[(.agg #[l,m,(iv t.2.2.1),n]),(.bool true)]) x rfl ⟨Ha (i:=5) Bo rfl ad rfl rfl rfl,Jk rfl,trivial⟩ ⟨l,a9,m,ba,n,bb,rfl,be,ad.sel [0,1,2] rfl⟩
theorem Xe (c:Ae) (d:(List Int)) (j:Ac) (n:RO Ar c j d) (f:Int) (r:Bool) (b:KU d f = some r) :
  A1 226 [j,(iv f)] c fun e w'=>e = .returned (.bool r) ∧ Bl c w':=by
 refine cm Tryz.func226 Tryz.ntmps226 rfl fun Q o hP q s=>?_
 unfold KU at b
 refine An 1 rfl (Ap fun _ t=>(Ak fun _ u=>(wp 1 rfl (BX n Tryz.underlying36 rfl (Aq 1 rfl (u (A0 (AU (fun m a l=>∃ (h:Int),St 17 [(1,(iv f)),(7,j),(8,(iv (List.length d:Int))),(9,(iv h))] a ∧ Bl c l ∧ Sp c l [] ∧ FZ d f m h = some r) FU ?_ ?_))))))))
 ·exact fun a ha=>⟨0,ha.sb rfl,q,(s.sel [] rfl),b⟩
 ·rintro g a l ⟨h,ha,i,v,b⟩ ad w
  refine BE ?_ ha
  cases g with
  | zero=>exact Bg b
  | succ g =>
   obtain ⟨ae,p⟩:∃ k,k = FZ d f g:=⟨_,rfl⟩
   rw [FZ,← p] at b
   refine An 1 rfl (Ap fun _ x=>(A3 rfl b (fun _ b=>?_) (fun _ b=>?_)))
   ·refine Au (x ?_)
    refine Ap fun _ y=>A0 (Ak fun _ z=>(bB b fun af aa b=>(BP (e:=Ar) Tryz.underlying36 rfl rfl rfl n aa ?_)))
    rintro ag _ rfl ab
    refine BZ A4 rfl (ab.ro i) rfl (Aq 1 rfl (z (An 3 rfl (A3 rfl b (fun _ b=>?_) (fun _ b=>?_)))))
    ·refine An 1 rfl ?_
     refine Ay (rt o rfl rfl (by cases b; exact ⟨rfl,i⟩))
    ·refine Au (y ?_)
     refine As (Aq 2 rfl ?_)
     rw [p] at b
     exact fun a ha=>w a _ g (AB g) ⟨(Ag (h + 1)),ha.sb rfl,i,(v.sel [] rfl),b⟩
   ·refine Bd (t ?_)
    refine An 1 rfl (Ay (rt o rfl rfl (by cases b; exact ⟨rfl,i⟩)))
end Go.Proofs.YtellehgihceicaaGreatDoor
