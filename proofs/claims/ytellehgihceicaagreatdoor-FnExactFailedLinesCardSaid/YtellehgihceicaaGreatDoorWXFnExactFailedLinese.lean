/-
  THE WALKS of functions of this seat, by program (gen.py, prune.py).
-/
import Derived.Test.YtellehgihceicaaGreatDoorWXFnExactFailedLinesc
set_option linter.unusedVariables false
set_option linter.unusedSimpArgs false
set_option maxRecDepth 100000
set_option maxHeartbeats 1600000
namespace Go.Proofs.YtellehgihceicaaGreatDoor
open Go Go.RowKit
theorem GQ:∀ (m:Nat) (j:Ae) (p:Ae5) (d:Ac) (f:An) (l:Int) (q:Int) (n:Int) (bq:Sep 0 j [Ab A0 f d p]) (r:Ae5) (c:AO m p l q n = some r),
  A1 211 [d,(iv l),(iv q),(iv n),(.func (.func 115) #[] #[])] j fun e w'=>e = .returned (.tuple #[]) ∧ Below 0 (wE j) w' ∧ Sep 0 w' [A5 j (Bf [Ab A0 f d p]),Ab A0 f d r]:=by
 intro m
 induction m with
 | zero =>
  intro j p d f l q n bq r c
  exact Be c
 | succ m ih =>
  intro j p d f l q n bq r c
  replace c:BX (AO m) p l q n = some r:=c
  obtain ⟨rec,hrec⟩:∃ k,k = AO m:=⟨_,rfl⟩
  rw [← hrec] at c ih
  refine Jt Tryz.func211 rfl Tryz.ntmps211 rfl rfl fun Q hQn hQ g=>?_
  have hB:Bl (wE j) j:=Ek j
  have hS:Sp (wE j) j [A5 j (Bf [Ab A0 f d p]),Ab A0 f d p]:=bq.rest
  unfold BX at c
  refine Am fun _ ef=>Al 4 rfl (A2 rfl c (fun _ c=>?_) (fun _ c=>?_))
  ·refine Al 2 rfl ?_
   refine Al 2 rfl (Am fun _ eg=>(Az (AN (fun m a w7=>∃ (ad:Int) (ao:Int),St 220 [(0,d),(1,(iv l)),(4,(.func (.func 115) #[] #[])),(10,(iv ad)),(11,(iv ao))] a ∧ Bl (wE j) w7 ∧ Sp (wE j) w7 [A5 j (Bf [Ab A0 f d p]),Ab A0 f d p] ∧ AJ p l m ad ao = some r) FU ?_ ?_)))
   ·exact fun a ha=>⟨q,n,ha.sb rfl,hB,(hS.sel [0,1] rfl),c⟩
   ·rintro ak a w7 ⟨ad,ao,ha,cq,cr,c⟩ hx cs
    refine BB ?_ ha
    cases ak with
    | zero=>exact Be c
    | succ ak =>
     obtain ⟨hy,bs⟩:∃ k,k = AJ p l ak:=⟨_,rfl⟩
     rw [AJ,← bs] at c
     refine Am fun _ eh=>Al 3 rfl (A2 rfl c (fun _ c=>?_) (fun _ c=>?_))
     ·refine Au (eh ?_)
      refine Az (Ak fun _ ei=>(wp 3 rfl (DX Tryz.underlying3 Tryz.underlying117 rfl rfl (Gp rfl rfl rfl rfl (DX Tryz.underlying117 Tryz.underlying3 rfl rfl (Aq 1 rfl (ei (Am fun _ ej=>(AR B2 [] cq cr fun ct _ ek bt=>?_)))))))))
      have ae:=KeepX.refl ct []
      refine Ax 0 rfl g ae (Ax 1 rfl g ae (Ax 2 rfl g ae (bB c fun av el c=>(Ad 3 rfl g ae (Bv (e:=A0) (i:=1) Tryz.underlying72 rfl rfl rfl bt rfl el ?_)))))
      rintro hz _ rfl em h0
      refine Ad 4 rfl g ae (BJ BD rfl (em.kx0) rfl (Ax 5 rfl g ae (Ax 6 rfl g ae (bB c fun aw en c=>(Ad 7 rfl g ae (Bv (e:=A0) (i:=1) Tryz.underlying72 rfl rfl rfl bt rfl en ?_))))))
      rintro h1 _ rfl eo h2
      refine Ad 8 rfl g ae (BJ BD rfl (eo.kx0) rfl (Av 9 rfl (bB c fun h3 ep c=>(PK (caps:=[]) (vs:=[(.agg #[(iv av.1),(iv av.2.1),(iv av.2.2.1),(iv av.2.2.2)]),(.agg #[(iv aw.1),(iv aw.2.1),(iv aw.2.2.1),(iv aw.2.2.2)])]) rfl rfl Tryz.call115 (GJ ct av aw _ ep) rfl ?_))))
      rintro _ h4 ⟨rfl,bu⟩
      refine ⟨_,rfl,?_⟩
      have cu:=tm ek bu
      have cv:=bt.below bu
      have cw:=ae.ext bu
      refine Ah (Ap cw (Ad 10 rfl g cw (Mf rfl rfl rfl (Ba (ej (A2 rfl c (fun _ c=>?_) (fun _ c=>?_)))))))
      ·refine As ?_
       refine Aq 3 rfl ?_
       rw [bs] at c
       exact fun a ha=>cs a _ ak (AB ak) ⟨(Ag ((Ag (Br .u64 (Bh (Ag (ad + ao))) 1)) + 1)),ao,ha.sb rfl,cu,(cv.sel [0,1] rfl),c⟩
      ·refine As ?_
       refine Aq 2 rfl ?_
       rw [bs] at c
       exact fun a ha=>cs a _ ak (AB ak) ⟨ad,(Ag (Br .u64 (Bh (Ag (ad + ao))) 1)),ha.sb rfl,cu,(cv.sel [0,1] rfl),c⟩
     ·refine Bc (eg ?_)
      refine Am fun _ eq=>Al 2 rfl (Az (AN (fun m a bv=>∃ (ax:Ae5) (ah:Int),St 220 [(0,d),(10,(iv ad)),(13,(iv ah))] a ∧ Bl (wE j) bv ∧ Sp (wE j) bv [A5 j (Bf [Ab A0 f d p]),Ab A0 f d ax] ∧ Bz ad m ax ah = some r) FU ?_ ?_))
      ·exact fun a ha=>⟨p,l,ha.sb rfl,cq,(cr.sel [0,1] rfl),c⟩
      ·rintro ay a bv ⟨ax,ah,ha,cx,cy,c⟩ h5 er
       refine BB ?_ ha
       cases ay with
       | zero=>exact Be c
       | succ ay =>
        obtain ⟨h6,cz⟩:∃ k,k = Bz ad ay:=⟨_,rfl⟩
        rw [Bz,← cz] at c
        refine Am fun _ es=>Al 4 rfl (A2 rfl c (fun _ c=>?_) (fun _ c=>?_))
        ·refine Au (es ?_)
         refine Am fun et eu=>?_
         obtain ⟨ev,ew,c⟩:=Ch c
         have c0:∀ (bc:Ae5) (bd:Ae) (_:ev bc = some r) (_:Bl (wE j) bd) (_:Sp (wE j) bd [A5 j (Bf [Ab A0 f d p]),Ab A0 f d bc]),∀ a,St 220 [(0,d),(10,(iv ad)),(13,(iv ah))] a → et a bd:=by
          intro bc bd c ex ey
          subst ew
          refine eu (As (Aq 3 rfl ?_))
          rw [cz] at c
          exact fun a ha=>er a _ ay (AB ay) ⟨bc,(Ag (ah + 1)),ha.sb rfl,ex,(ey.sel [0,1] rfl),c⟩
         refine Az (AR B2 f cx cy fun az _ c1 ap=>?_)
         have t:=KeepX.refl az f
         refine Ax 0 rfl g t (Ax 1 rfl g t (Ax 2 rfl g t (Ax 3 rfl g t (Ad 4 rfl g t (EA rfl rfl rfl (Ax 5 rfl g t (Ax 6 rfl g t (Ad 7 rfl g t (EA rfl rfl rfl (bB c fun v ez c=>(Ad 8 rfl g t (Bv (e:=A0) (i:=1) Tryz.underlying72 rfl rfl rfl ap rfl ez ?_))))))))))))
         rintro h7 _ rfl c2 h8
         refine Ax 10 rfl g t (Ax 11 rfl g t (bB c fun w e0 c=>(Ad 12 rfl g t (Bv (e:=A0) (i:=1) Tryz.underlying72 rfl rfl rfl ap rfl e0 ?_))))
         rintro h9 _ rfl c3 ia
         refine Cz (is:=[9,13]) (by kernel_rfl) rfl (Bd.2 ⟨⟨_,rfl,?_⟩,Bd.2 ⟨⟨_,rfl,?_⟩,fun _ h=>by cases h⟩⟩)
         ·refine BV BD rfl c2 rfl ?_
          refine Ah (Ap t (Av 13 rfl (BV BD rfl c3 rfl (Ah (Ap t (bB c fun ib c4 c=>(Ad 14 rfl g t (Bv (e:=A0) (i:=1) Tryz.underlying72 rfl rfl rfl ap rfl c4 ?_))))))))
          rintro ic _ rfl ie e1
          refine Av 15 rfl (BO (i:=1) (o:=0) (vs:=[(iv v.1),(iv v.2.1),(iv v.2.2.1),(iv v.2.2.2)]) (u':=v) Ct BD rfl rfl rfl rfl e1 c4 c1 ap rfl rfl ⟨rfl,rfl,rfl,rfl,trivial⟩ rfl fun ig bw e2 c5=>?_)
          have bx:=t.wr' bw.1 bw.2.1 (fun _ _ h=>h)
          have e3:∀ b,b < az.heap.size → b ∈ f → b ∈ f:=fun b hlt hb=>(bw.2.2 b hb).elim ((fun _ _ h=>h) b hlt) (fun h=>absurd hlt (AK.2 (Ay (Nat.le_refl az.heap.size) h)))
          refine Ah (Ap bx (Av 16 rfl (bB c fun ii c6 c=>(Cj (e:=A0) (i:=1) Tryz.underlying72 rfl rfl rfl c5 rfl c6 ?_))))
          rintro ij _ rfl ik e4
          refine Ah (Ap bx (Av 17 rfl (BO (i:=1) (o:=0) (vs:=[(iv w.1),(iv w.2.1),(iv w.2.2.1),(iv w.2.2.2)]) (u':=w) Ct BD rfl rfl rfl rfl e4 c6 e2 c5 rfl rfl ⟨rfl,rfl,rfl,rfl,trivial⟩ rfl fun il c7 e5 e6=>?_)))
          have e7:=bx.wr' c7.1 c7.2.1 (e3)
          refine Ah (Ap e7 (Ba ?_))
          exact jx (c0 ((BE (BE ax ah v) (Ag (ah + 1)) w)) _ c e5 (e6.sel [0,1] rfl)) rfl
         ·refine BV BD rfl c3 rfl ?_
          refine Ah (Ap t (Av 9 rfl (BV BD rfl c2 rfl (Ah (Ap t (bB c fun im c8 c=>(Ad 14 rfl g t (Bv (e:=A0) (i:=1) Tryz.underlying72 rfl rfl rfl ap rfl c8 ?_))))))))
          rintro io _ rfl ip e8
          refine Av 15 rfl (BO (i:=1) (o:=0) (vs:=[(iv v.1),(iv v.2.1),(iv v.2.2.1),(iv v.2.2.2)]) (u':=v) Ct BD rfl rfl rfl rfl e8 c8 c1 ap rfl rfl ⟨rfl,rfl,rfl,rfl,trivial⟩ rfl fun iq bz e9 c9=>?_)
          have b0:=t.wr' bz.1 bz.2.1 (fun _ _ h=>h)
          have fa:∀ b,b < az.heap.size → b ∈ f → b ∈ f:=fun b hlt hb=>(bz.2.2 b hb).elim ((fun _ _ h=>h) b hlt) (fun h=>absurd hlt (AK.2 (Ay (Nat.le_refl az.heap.size) h)))
          refine Ah (Ap b0 (Av 16 rfl (bB c fun ir da c=>(Cj (e:=A0) (i:=1) Tryz.underlying72 rfl rfl rfl c9 rfl da ?_))))
          rintro it _ rfl iu fb
          refine Ah (Ap b0 (Av 17 rfl (BO (i:=1) (o:=0) (vs:=[(iv w.1),(iv w.2.1),(iv w.2.2.1),(iv w.2.2.2)]) (u':=w) Ct BD rfl rfl rfl rfl fb da e9 c9 rfl rfl ⟨rfl,rfl,rfl,rfl,trivial⟩ rfl fun iw db fc fd=>?_)))
          have fe:=b0.wr' db.1 db.2.1 (fa)
          refine Ah (Ap fe (Ba ?_))
          exact jx (c0 ((BE (BE ax ah v) (Ag (ah + 1)) w)) _ c fc (fd.sel [0,1] rfl)) rfl
        ·refine Bc (eq ?_)
         refine Aw ?_
         obtain rfl:=Option.some.inj c
         exact J9 (vs:=[]) hQ rfl trivial ⟨rfl,cx,cy.sel [0,1] rfl⟩
  ·refine Au (ef ?_)
   refine Am fun _ ff=>Al 4 rfl (A2 rfl c (fun _ c=>?_) (fun _ c=>?_))
   ·refine Al 2 rfl ?_
    refine Al 2 rfl (Am fun _ fg=>(Az (AN (fun m a b1=>∃ (af:Int) (aq:Int),St 220 [(0,d),(2,(iv q)),(4,(.func (.func 115) #[] #[])),(14,(iv af)),(15,(iv aq))] a ∧ Bl (wE j) b1 ∧ Sp (wE j) b1 [A5 j (Bf [Ab A0 f d p]),Ab A0 f d p] ∧ AH p q m af aq = some r) FU ?_ ?_)))
    ·exact fun a ha=>⟨l,q,ha.sb rfl,hB,(hS.sel [0,1] rfl),c⟩
    ·rintro al a b1 ⟨af,aq,ha,dc,dd,c⟩ ix de
     refine BB ?_ ha
     cases al with
     | zero=>exact Be c
     | succ al =>
      obtain ⟨iy,b2⟩:∃ k,k = AH p q al:=⟨_,rfl⟩
      rw [AH,← b2] at c
      refine Am fun _ fh=>Al 3 rfl (A2 rfl c (fun _ c=>?_) (fun _ c=>?_))
      ·refine Au (fh ?_)
       refine Az (Ak fun _ fi=>(wp 3 rfl (DX Tryz.underlying3 Tryz.underlying117 rfl rfl (Gp rfl rfl rfl rfl (DX Tryz.underlying117 Tryz.underlying3 rfl rfl (Aq 1 rfl (fi (Am fun _ fj=>(AR B2 [] dc dd fun df _ fk b3=>?_)))))))))
       have ag:=KeepX.refl df []
       refine Ax 0 rfl g ag (Ax 1 rfl g ag (Ax 2 rfl g ag (bB c fun a0 fl c=>(Ad 3 rfl g ag (Bv (e:=A0) (i:=1) Tryz.underlying72 rfl rfl rfl b3 rfl fl ?_)))))
       rintro iz _ rfl fm i0
       refine Ad 4 rfl g ag (BJ BD rfl (fm.kx0) rfl (Ax 5 rfl g ag (Ax 6 rfl g ag (bB c fun a1 fn c=>(Ad 7 rfl g ag (Bv (e:=A0) (i:=1) Tryz.underlying72 rfl rfl rfl b3 rfl fn ?_))))))
       rintro i1 _ rfl fo i2
       refine Ad 8 rfl g ag (BJ BD rfl (fo.kx0) rfl (Av 9 rfl (bB c fun i3 fp c=>(PK (caps:=[]) (vs:=[(.agg #[(iv a0.1),(iv a0.2.1),(iv a0.2.2.1),(iv a0.2.2.2)]),(.agg #[(iv a1.1),(iv a1.2.1),(iv a1.2.2.1),(iv a1.2.2.2)])]) rfl rfl Tryz.call115 (GJ df a0 a1 _ fp) rfl ?_))))
       rintro _ i4 ⟨rfl,b4⟩
       refine ⟨_,rfl,?_⟩
       have dg:=tm fk b4
       have dh:=b3.below b4
       have b5:=ag.ext b4
       refine Ah (Ap b5 (Ad 10 rfl g b5 (Mf rfl rfl rfl (Ad 11 rfl g b5 (KT rfl rfl (Ba (fj (A2 rfl c (fun _ c=>?_) (fun _ c=>?_)))))))))
       ·refine As ?_
        refine Aq 3 rfl ?_
        rw [b2] at c
        exact fun a ha=>de a _ al (AB al) ⟨(Ag ((Ag (Br .u64 (Bh (Ag (af + aq))) 1)) + 1)),aq,ha.sb rfl,dg,(dh.sel [0,1] rfl),c⟩
       ·refine As ?_
        refine Aq 2 rfl ?_
        rw [b2] at c
        exact fun a ha=>de a _ al (AB al) ⟨af,(Ag (Br .u64 (Bh (Ag (af + aq))) 1)),ha.sb rfl,dg,(dh.sel [0,1] rfl),c⟩
      ·refine Bc (fg ?_)
       refine Am fun _ fq=>Al 2 rfl (Az (AN (fun m a b6=>∃ (a2:Ae5) (ai:Int),St 220 [(0,d),(14,(iv af)),(17,(iv ai))] a ∧ Bl (wE j) b6 ∧ Sp (wE j) b6 [A5 j (Bf [Ab A0 f d p]),Ab A0 f d a2] ∧ Bx af m a2 ai = some r) FU ?_ ?_))
       ·exact fun a ha=>⟨p,q,ha.sb rfl,dc,(dd.sel [0,1] rfl),c⟩
       ·rintro a3 a b6 ⟨a2,ai,ha,di,dj,c⟩ i5 fr
        refine BB ?_ ha
        cases a3 with
        | zero=>exact Be c
        | succ a3 =>
         obtain ⟨i6,dk⟩:∃ k,k = Bx af a3:=⟨_,rfl⟩
         rw [Bx,← dk] at c
         refine Am fun _ fs=>Al 3 rfl (A2 rfl c (fun _ c=>?_) (fun _ c=>?_))
         ·refine Au (fs ?_)
          refine Am fun ft fu=>?_
          obtain ⟨fv,fw,c⟩:=Ch c
          have dl:∀ (be:Ae5) (bf:Ae) (_:fv be = some r) (_:Bl (wE j) bf) (_:Sp (wE j) bf [A5 j (Bf [Ab A0 f d p]),Ab A0 f d be]),∀ a,St 220 [(0,d),(14,(iv af)),(17,(iv ai))] a → ft a bf:=by
           intro be bf c fx fy
           subst fw
           refine fu (As (Aq 3 rfl ?_))
           rw [dk] at c
           exact fun a ha=>fr a _ a3 (AB a3) ⟨be,(Ag (ai - 1)),ha.sb rfl,fx,(fy.sel [0,1] rfl),c⟩
          refine Az (AR B2 f di dj fun a4 _ dm ar=>?_)
          have u:=KeepX.refl a4 f
          refine Ax 0 rfl g u (Ax 1 rfl g u (Ax 2 rfl g u (Ax 3 rfl g u (Ad 4 rfl g u (GS rfl rfl rfl (Ax 5 rfl g u (Ax 6 rfl g u (Ad 7 rfl g u (GS rfl rfl rfl (bB c fun x fz c=>(Ad 8 rfl g u (Bv (e:=A0) (i:=1) Tryz.underlying72 rfl rfl rfl ar rfl fz ?_))))))))))))
          rintro i7 _ rfl dn i8
          refine Ax 10 rfl g u (Ax 11 rfl g u (bB c fun y f0 c=>(Ad 12 rfl g u (Bv (e:=A0) (i:=1) Tryz.underlying72 rfl rfl rfl ar rfl f0 ?_))))
          rintro i9 _ rfl dp ja
          refine Cz (is:=[9,13]) (by kernel_rfl) rfl (Bd.2 ⟨⟨_,rfl,?_⟩,Bd.2 ⟨⟨_,rfl,?_⟩,fun _ h=>by cases h⟩⟩)
          ·refine BV BD rfl dn rfl ?_
           refine Ah (Ap u (Av 13 rfl (BV BD rfl dp rfl (Ah (Ap u (bB c fun jb dq c=>(Ad 14 rfl g u (Bv (e:=A0) (i:=1) Tryz.underlying72 rfl rfl rfl ar rfl dq ?_))))))))
           rintro jc _ rfl jd f1
           refine Av 15 rfl (BO (i:=1) (o:=0) (vs:=[(iv x.1),(iv x.2.1),(iv x.2.2.1),(iv x.2.2.2)]) (u':=x) Ct BD rfl rfl rfl rfl f1 dq dm ar rfl rfl ⟨rfl,rfl,rfl,rfl,trivial⟩ rfl fun je b7 f2 dr=>?_)
           have b8:=u.wr' b7.1 b7.2.1 (fun _ _ h=>h)
           have f3:∀ b,b < a4.heap.size → b ∈ f → b ∈ f:=fun b hlt hb=>(b7.2.2 b hb).elim ((fun _ _ h=>h) b hlt) (fun h=>absurd hlt (AK.2 (Ay (Nat.le_refl a4.heap.size) h)))
           refine Ah (Ap b8 (Av 16 rfl (bB c fun jf ds c=>(Cj (e:=A0) (i:=1) Tryz.underlying72 rfl rfl rfl dr rfl ds ?_))))
           rintro jg _ rfl jh f4
           refine Ah (Ap b8 (Av 17 rfl (BO (i:=1) (o:=0) (vs:=[(iv y.1),(iv y.2.1),(iv y.2.2.1),(iv y.2.2.2)]) (u':=y) Ct BD rfl rfl rfl rfl f4 ds f2 dr rfl rfl ⟨rfl,rfl,rfl,rfl,trivial⟩ rfl fun ji dt f5 f6=>?_)))
           have f7:=b8.wr' dt.1 dt.2.1 (f3)
           refine Ah (Ap f7 (Ba ?_))
           exact jx (dl ((BE (BE a2 ai x) (Ag (ai - 1)) y)) _ c f5 (f6.sel [0,1] rfl)) rfl
          ·refine BV BD rfl dp rfl ?_
           refine Ah (Ap u (Av 9 rfl (BV BD rfl dn rfl (Ah (Ap u (bB c fun jj du c=>(Ad 14 rfl g u (Bv (e:=A0) (i:=1) Tryz.underlying72 rfl rfl rfl ar rfl du ?_))))))))
           rintro jk _ rfl jl f8
           refine Av 15 rfl (BO (i:=1) (o:=0) (vs:=[(iv x.1),(iv x.2.1),(iv x.2.2.1),(iv x.2.2.2)]) (u':=x) Ct BD rfl rfl rfl rfl f8 du dm ar rfl rfl ⟨rfl,rfl,rfl,rfl,trivial⟩ rfl fun jm b9 f9 dv=>?_)
           have ca:=u.wr' b9.1 b9.2.1 (fun _ _ h=>h)
           have ga:∀ b,b < a4.heap.size → b ∈ f → b ∈ f:=fun b hlt hb=>(b9.2.2 b hb).elim ((fun _ _ h=>h) b hlt) (fun h=>absurd hlt (AK.2 (Ay (Nat.le_refl a4.heap.size) h)))
           refine Ah (Ap ca (Av 16 rfl (bB c fun jn dw c=>(Cj (e:=A0) (i:=1) Tryz.underlying72 rfl rfl rfl dv rfl dw ?_))))
           rintro jo _ rfl jp gb
           refine Ah (Ap ca (Av 17 rfl (BO (i:=1) (o:=0) (vs:=[(iv y.1),(iv y.2.1),(iv y.2.2.1),(iv y.2.2.2)]) (u':=y) Ct BD rfl rfl rfl rfl gb dw f9 dv rfl rfl ⟨rfl,rfl,rfl,rfl,trivial⟩ rfl fun jq dx gc gd=>?_)))
           have ge:=ca.wr' dx.1 dx.2.1 (ga)
           refine Ah (Ap ge (Ba ?_))
           exact jx (dl ((BE (BE a2 ai x) (Ag (ai - 1)) y)) _ c gc (gd.sel [0,1] rfl)) rfl
         ·refine Bc (fq ?_)
          refine Aw ?_
          obtain rfl:=Option.some.inj c
          exact J9 (vs:=[]) hQ rfl trivial ⟨rfl,di,dj.sel [0,1] rfl⟩
   ·refine Au (ff ?_)
    refine Ak fun _ gf=>wp 3 rfl (DX Tryz.underlying3 Tryz.underlying117 rfl rfl (Gp rfl rfl rfl rfl (DX Tryz.underlying117 Tryz.underlying3 rfl rfl (Aq 1 rfl (gf (Al 4 rfl (Al 2 rfl (Am fun gg gh=>?_))))))))
    obtain ⟨gi,gj,c⟩:=Nd c
    have dy:∀ (bg:Int) (bh:Int) (bi:Ae) (_:gi bg bh = some r) (_:Bl (wE j) bi) (_:Sp (wE j) bi [A5 j (Bf [Ab A0 f d p]),Ab A0 f d p]),∀ a,St 220 [(0,d),(1,(iv l)),(2,(iv q)),(3,(iv n)),(4,(.func (.func 115) #[] #[])),(18,(iv (Ag (Br .u64 (Bh (Ag (l + n))) 1)))),(19,(iv (Ag ((Ag (Br .u64 (Bh (Ag (l + n))) 1)) + q)))),(20,(iv bg)),(21,(iv bh))] a → gg a bi:=by
     intro bg bh bi c gk gl
     subst gj
     refine gh (Al 3 rfl (Am fun _ gm=>(Az (AN (fun m a cb=>∃ (s:Int) (au:Int),St 220 [(0,d),(1,(iv l)),(2,(iv q)),(3,(iv n)),(4,(.func (.func 115) #[] #[])),(18,(iv (Ag (Br .u64 (Bh (Ag (l + n))) 1)))),(19,(iv (Ag ((Ag (Br .u64 (Bh (Ag (l + n))) 1)) + q)))),(20,(iv s)),(21,(iv au)),(22,(iv (Ag ((Ag ((Ag (Br .u64 (Bh (Ag (l + n))) 1)) + q)) - 1))))] a ∧ Bl (wE j) cb ∧ Sp (wE j) cb [A5 j (Bf [Ab A0 f d p]),Ab A0 f d p] ∧ AG p l n q rec m s au = some r) FU ?_ ?_))))
     ·exact fun a ha=>⟨bg,bh,ha.sb rfl,gk,(gl.sel [0,1] rfl),c⟩
     ·rintro am a cb ⟨s,au,ha,cc,cd,c⟩ jr dz
      refine BB ?_ ha
      cases am with
      | zero=>exact Be c
      | succ am =>
       obtain ⟨js,ce⟩:∃ k,k = AG p l n q rec am:=⟨_,rfl⟩
       rw [AG,← ce] at c
       refine Am fun _ gn=>Al 3 rfl (A2 rfl c (fun _ c=>?_) (fun _ c=>?_))
       ·refine Au (gn ?_)
        refine Az (Ak fun _ go=>(wp 3 rfl (DX Tryz.underlying3 Tryz.underlying117 rfl rfl (Gp rfl rfl rfl rfl (DX Tryz.underlying117 Tryz.underlying3 rfl rfl (Aq 1 rfl (go (Am fun _ gp=>(AR B2 [] cc cd fun d0 _ gq cf=>?_)))))))))
        have z:=KeepX.refl d0 []
        refine Ax 0 rfl g z (Ax 1 rfl g z (Ax 2 rfl g z (Ax 3 rfl g z (Ad 4 rfl g z (GS rfl rfl rfl (bB c fun a5 gr c=>(Ad 5 rfl g z (Bv (e:=A0) (i:=1) Tryz.underlying72 rfl rfl rfl cf rfl gr ?_))))))))
        rintro jt _ rfl gs ju
        refine Ad 6 rfl g z (BJ BD rfl (gs.kx0) rfl (Ax 7 rfl g z (Ax 8 rfl g z (bB c fun a6 gt c=>(Ad 9 rfl g z (Bv (e:=A0) (i:=1) Tryz.underlying72 rfl rfl rfl cf rfl gt ?_))))))
        rintro jv _ rfl gu jw
        refine Ad 10 rfl g z (BJ BD rfl (gu.kx0) rfl (Av 11 rfl (bB c fun jy gv c=>(PK (caps:=[]) (vs:=[(.agg #[(iv a5.1),(iv a5.2.1),(iv a5.2.2.1),(iv a5.2.2.2)]),(.agg #[(iv a6.1),(iv a6.2.1),(iv a6.2.2.1),(iv a6.2.2.2)])]) rfl rfl Tryz.call115 (GJ d0 a5 a6 _ gv) rfl ?_))))
        rintro _ jz ⟨rfl,cg⟩
        refine ⟨_,rfl,?_⟩
        have d1:=tm gq cg
        have d2:=cf.below cg
        have ch:=z.ext cg
        refine Ah (Ap ch (Ad 12 rfl g ch (Mf rfl rfl rfl (Ad 13 rfl g ch (KT rfl rfl (Ba (gp (A2 rfl c (fun _ c=>?_) (fun _ c=>?_)))))))))
        ·refine As ?_
         refine Aq 3 rfl ?_
         rw [ce] at c
         exact fun a ha=>dz a _ am (AB am) ⟨(Ag ((Ag (Br .u64 (Bh (Ag (s + au))) 1)) + 1)),au,ha.sb rfl,d1,(d2.sel [0,1] rfl),c⟩
        ·refine As ?_
         refine Aq 2 rfl ?_
         rw [ce] at c
         exact fun a ha=>dz a _ am (AB am) ⟨s,(Ag (Br .u64 (Bh (Ag (s + au))) 1)),ha.sb rfl,d1,(d2.sel [0,1] rfl),c⟩
       ·refine Bc (gm ?_)
        refine Al 4 rfl (Am fun gw gx=>?_)
        obtain ⟨gy,gz,c⟩:=Ch c
        have d3:∀ (aj:Ae5) (bj:Ae) (_:gy aj = some r) (_:Bl (wE j) bj) (_:Sp (wE j) bj [A5 j (Bf [Ab A0 f d p]),Ab A0 f d aj]),∀ a,St 220 [(0,d),(1,(iv l)),(3,(iv n)),(4,(.func (.func 115) #[] #[])),(18,(iv (Ag (Br .u64 (Bh (Ag (l + n))) 1)))),(20,(iv s)),(24,(iv (Ag ((Ag ((Ag (Br .u64 (Bh (Ag (l + n))) 1)) + q)) - s))))] a → gw a bj:=by
         intro aj bj c d4 d5
         subst gz
         refine gx (Am fun g0 g1=>?_)
         obtain ⟨g2,g3,c⟩:=Ch c
         have d6:∀ (an:Ae5) (bk:Ae) (_:g2 an = some r) (_:Bl (wE j) bk) (_:Sp (wE j) bk [A5 j (Bf [Ab A0 f d p]),Ab A0 f d an]),∀ a,St 220 [(0,d),(3,(iv n)),(4,(.func (.func 115) #[] #[])),(18,(iv (Ag (Br .u64 (Bh (Ag (l + n))) 1)))),(24,(iv (Ag ((Ag ((Ag (Br .u64 (Bh (Ag (l + n))) 1)) + q)) - s))))] a → g0 a bk:=by
          intro an bk c d7 d8
          subst g3
          refine g1 (Am fun g4 g5=>?_)
          obtain ⟨g6,g7,c⟩:=Ch c
          have d9:∀ (ci:Bool) (a7:Ae) (_:g6 ci = some r) (_:Bl (wE j) a7) (_:Sp (wE j) a7 [A5 j (Bf [Ab A0 f d p]),Ab A0 f d an]),∀ a,St 220 [(0,d),(3,(iv n)),(4,(.func (.func 115) #[] #[])),(18,(iv (Ag (Br .u64 (Bh (Ag (l + n))) 1)))),(24,(iv (Ag ((Ag ((Ag (Br .u64 (Bh (Ag (l + n))) 1)) + q)) - s)))),(213,(.bool ci))] a → g4 a a7:=by
           intro ci a7 c cj bl
           subst g7
           refine g5 (A2 rfl c (fun _ c=>?_) (fun _ c=>?_))
           ·refine As ?_
            refine wp 5 rfl (bB c fun ck g8 c=>(A7 rfl Tryz.call211 (ih a7 an d f (Ag (Br .u64 (Bh (Ag (l + n))) 1)) (Ag ((Ag ((Ag (Br .u64 (Bh (Ag (l + n))) 1)) + q)) - s)) n (bl.sel [1] rfl).base0 _ g8) rfl ?_))
            rintro _ g9 ⟨rfl,hc,ea⟩
            refine ⟨_,rfl,?_⟩
            have hd:=bl.mutB [1] rfl (M:=[Ab A0 f d an]) rfl (M':=[Ab A0 f d ck]) rfl cj cj.size hc ea
            have he:Sp (wE j) g9 [Ab A0 f d ck,A5 j (Bf [Ab A0 f d p])]:=bl.mut [1] [0] rfl (M:=[Ab A0 f d an]) rfl (M':=[Ab A0 f d ck]) rfl ea
            refine Ah ?_
            obtain rfl:=Option.some.inj c
            exact N3 (vs:=[]) hQn rfl trivial ⟨rfl,hd,he.sel [1,0] rfl⟩
           ·refine Au ?_
            obtain rfl:=Option.some.inj c
            exact N3 (vs:=[]) hQn rfl trivial ⟨rfl,cj,bl.sel [0,1] rfl⟩
          refine As (wp 4 rfl ?_)
          rcases bE (decide ((Ag (Br .u64 (Bh (Ag (l + n))) 1)) < (Ag ((Ag ((Ag (Br .u64 (Bh (Ag (l + n))) 1)) + q)) - s)))) with aa | aa
          ·replace c:=B9 aa c
           refine wn rfl aa (wp 1 rfl (wn rfl aa (wp 1 rfl (wn rfl aa (wp 1 rfl (AA rfl rfl aa rfl (Ah ?_)))))))
           exact jx (d9 ((decide ((Ag ((Ag ((Ag (Br .u64 (Bh (Ag (l + n))) 1)) + q)) - s)) < n))) _ c d7 (d8.sel [0,1] rfl)) rfl
          ·replace c:=Cf aa c
           refine wo rfl aa (wo rfl aa (wo rfl aa (A6 rfl rfl aa rfl (Ah ?_))))
           exact jx (d9 false _ c d7 (d8.sel [0,1] rfl)) rfl
         refine Am fun hf hg=>?_
         obtain ⟨hh,hi,c⟩:=Ch c
         have eb:∀ (cl:Bool) (a8:Ae) (_:hh cl = some r) (_:Bl (wE j) a8) (_:Sp (wE j) a8 [A5 j (Bf [Ab A0 f d p]),Ab A0 f d aj]),∀ a,St 220 [(0,d),(1,(iv l)),(3,(iv n)),(4,(.func (.func 115) #[] #[])),(18,(iv (Ag (Br .u64 (Bh (Ag (l + n))) 1)))),(20,(iv s)),(24,(iv (Ag ((Ag ((Ag (Br .u64 (Bh (Ag (l + n))) 1)) + q)) - s)))),(199,(.bool cl))] a → hf a a8:=by
          intro cl a8 c cm bm
          subst hi
          refine hg (A2 rfl c (fun _ c=>?_) (fun _ c=>?_))
          ·refine As ?_
           refine wp 5 rfl (bB c fun bn hj c=>(A7 rfl Tryz.call211 (ih a8 aj d f l s (Ag (Br .u64 (Bh (Ag (l + n))) 1)) (bm.sel [1] rfl).base0 _ hj) rfl ?_))
           rintro _ hk ⟨rfl,hl,ec⟩
           refine ⟨_,rfl,?_⟩
           have hm:=bm.mutB [1] rfl (M:=[Ab A0 f d aj]) rfl (M':=[Ab A0 f d bn]) rfl cm cm.size hl ec
           have hn:Sp (wE j) hk [Ab A0 f d bn,A5 j (Bf [Ab A0 f d p])]:=bm.mut [1] [0] rfl (M:=[Ab A0 f d aj]) rfl (M':=[Ab A0 f d bn]) rfl ec
           refine Ah ?_
           exact jx (d6 bn _ c hm (hn.sel [1,0] rfl)) rfl
          ·refine Au ?_
           exact jx (d6 aj _ c cm (bm.sel [0,1] rfl)) rfl
         refine As (wp 4 rfl ?_)
         rcases bE (decide (l < s)) with ab | ab
         ·replace c:=B9 ab c
          refine wn rfl ab (wp 1 rfl (wn rfl ab (wp 1 rfl (wn rfl ab (wp 1 rfl (AA rfl rfl ab rfl (Ah ?_)))))))
          exact jx (eb ((decide (s < (Ag (Br .u64 (Bh (Ag (l + n))) 1))))) _ c d4 (d5.sel [0,1] rfl)) rfl
         ·replace c:=Cf ab c
          refine wo rfl ab (wo rfl ab (wo rfl ab (A6 rfl rfl ab rfl (Ah ?_))))
          exact jx (eb false _ c d4 (d5.sel [0,1] rfl)) rfl
        refine Am fun ho hp=>?_
        obtain ⟨hq,hr,c⟩:=Ch c
        have ed:∀ (cn:Bool) (a9:Ae) (_:hq cn = some r) (_:Bl (wE j) a9) (_:Sp (wE j) a9 [A5 j (Bf [Ab A0 f d p]),Ab A0 f d p]),∀ a,St 220 [(0,d),(1,(iv l)),(2,(iv q)),(3,(iv n)),(4,(.func (.func 115) #[] #[])),(18,(iv (Ag (Br .u64 (Bh (Ag (l + n))) 1)))),(20,(iv s)),(24,(iv (Ag ((Ag ((Ag (Br .u64 (Bh (Ag (l + n))) 1)) + q)) - s)))),(185,(.bool cn))] a → ho a a9:=by
         intro cn a9 c co bo
         subst hr
         refine hp (A2 rfl c (fun _ c=>?_) (fun _ c=>?_))
         ·refine As ?_
          refine wp 5 rfl (bB c fun bp hs c=>(A7 rfl Tryz.call235 (Hm a9 p d f s q (Ag ((Ag ((Ag (Br .u64 (Bh (Ag (l + n))) 1)) + q)) - s)) (bo.sel [1] rfl).base0 _ hs) rfl ?_))
          rintro _ ht ⟨rfl,hu,ee⟩
          refine ⟨_,rfl,?_⟩
          have hv:=bo.mutB [1] rfl (M:=[Ab A0 f d p]) rfl (M':=[Ab A0 f d bp]) rfl co co.size hu ee
          have hw:Sp (wE j) ht [Ab A0 f d bp,A5 j (Bf [Ab A0 f d p])]:=bo.mut [1] [0] rfl (M:=[Ab A0 f d p]) rfl (M':=[Ab A0 f d bp]) rfl ee
          refine Ah ?_
          exact jx (d3 bp _ c hv (hw.sel [1,0] rfl)) rfl
         ·refine Au ?_
          exact jx (d3 p _ c co (bo.sel [0,1] rfl)) rfl
        refine As (wp 4 rfl ?_)
        rcases bE (decide (s < q)) with ac | ac
        ·replace c:=B9 ac c
         refine wn rfl ac (wp 1 rfl (wn rfl ac (wp 1 rfl (wn rfl ac (wp 1 rfl (AA rfl rfl ac rfl (Ah ?_)))))))
         exact jx (ed ((decide (q < (Ag ((Ag ((Ag (Br .u64 (Bh (Ag (l + n))) 1)) + q)) - s))))) _ c cc (cd.sel [0,1] rfl)) rfl
        ·replace c:=Cf ac c
         refine wo rfl ac (wo rfl ac (wo rfl ac (A6 rfl rfl ac rfl (Ah ?_))))
         exact jx (ed false _ c cc (cd.sel [0,1] rfl)) rfl
    refine Al 3 rfl (A2 rfl c (fun _ c=>?_) (fun _ c=>?_))
    ·refine Al 4 rfl ?_
     refine As (Aq 2 rfl ?_)
     exact jx (dy ((Ag ((Ag ((Ag (Br .u64 (Bh (Ag (l + n))) 1)) + q)) - n))) ((Ag (Br .u64 (Bh (Ag (l + n))) 1))) _ c hB (hS.sel [0,1] rfl)) rfl
    ·refine Al 2 rfl ?_
     refine As (Aq 2 rfl ?_)
     exact jx (dy l q _ c hB (hS.sel [0,1] rfl)) rfl
theorem Ea (a:Ae) (c:Ae5) (b:Ac) (d:An) (f:Int) (g:Int) (h:Int) (i:Sep 0 a [Ab A0 d b c]) (r:Ae5) (j:Cd c f g h = some r) :
  A1 211 [b,(iv f),(iv g),(iv h),(.func (.func 115) #[] #[])] a fun e w'=>e = .returned (.tuple #[]) ∧ Below 0 (wE a) w' ∧ Sep 0 w' [A5 a (Bf [Ab A0 d b c]),Ab A0 d b r] :=
 GQ FU a c b d f g h i r j
theorem Hl (f:Ae) (g:Ae5) (c:Ac) (d:An) (h:Int) (aw:Sep 0 f [Ab A0 d c g]) (r:Ae5) (b:C7 g h = some r) :
  A1 167 [c,(iv h),(.func (.func 115) #[] #[])] f fun e w'=>e = .returned (.tuple #[]) ∧ Below 0 (wE f) w' ∧ Sep 0 w' [A5 f (Bf [Ab A0 d c g]),Ab A0 d c r]:=by
 refine Jt Tryz.func167 rfl Tryz.ntmps167 rfl rfl fun Q hQn hQ hP=>?_
 have hB:Bl (wE f) f:=Ek f
 have hS:Sp (wE f) f [A5 f (Bf [Ab A0 d c g]),Ab A0 d c g]:=aw.rest
 unfold C7 at b
 refine Al 1 rfl (Al 3 rfl (Am fun _ az=>(Az (AN (fun m a t=>∃ (l:Ae5) (u:Int) (p:Int),St 63 [(0,c),(1,(iv h)),(2,(.func (.func 115) #[] #[])),(6,(iv 20)),(7,(iv u)),(8,(iv p))] a ∧ Bl (wE f) t ∧ Sp (wE f) t [A5 f (Bf [Ab A0 d c g]),Ab A0 d c l] ∧ AM h m l u p = some r) FU ?_ ?_))))
 ·exact fun a ha=>⟨g,0,20,ha.sb rfl,hB,(hS.sel [0,1] rfl),b⟩
 ·rintro v a t ⟨l,u,p,ha,aa,q,b⟩ b3 a0
  refine BB ?_ ha
  cases v with
  | zero=>exact Be b
  | succ v =>
   obtain ⟨b4,aj⟩:∃ k,k = AM h v:=⟨_,rfl⟩
   rw [AM] at b; try rw [← aj] at b
   refine Am fun _ a1=>Al 3 rfl (A2 rfl b (fun _ b=>?_) (fun _ b=>?_))
   ·refine Au (a1 ?_)
    refine Az (Ak fun _ a2=>(wp 4 rfl (bB b fun ab a3 b=>(A7 rfl Tryz.call210 (DA t l c d u p (q.sel [1] rfl).base0 _ a3) rfl ?_))))
    rintro _ a4 ⟨rfl,a5,ak⟩
    refine ⟨_,rfl,?_⟩
    have a6:=q.mutB [1] rfl (M:=[Ab A0 d c l]) rfl (M':=[Ab A0 d c ab]) rfl aa aa.size a5 ak
    have a7:Sp (wE f) a4 [Ab A0 d c ab,A5 f (Bf [Ab A0 d c g])]:=q.mut [1] [0] rfl (M:=[Ab A0 d c l]) rfl (M':=[Ab A0 d c ab]) rfl ak
    refine Ah (a2 (Al 2 rfl (As (Aq 4 rfl ?_))))
    rw [aj] at b
    exact fun a ha=>a0 a _ v (AB v) ⟨ab,p,(Ag (p + 20)),ha.sb rfl,a6,(a7.sel [1,0] rfl),b⟩
   ·refine Bc (az ?_)
    refine Ak fun _ a8=>wp 4 rfl (bB b fun ac a9 b=>(A7 rfl Tryz.call210 (DA t l c d u h (q.sel [1] rfl).base0 _ a9) rfl ?_))
    rintro _ ba ⟨rfl,bb,al⟩
    refine ⟨_,rfl,?_⟩
    have bc:=q.mutB [1] rfl (M:=[Ab A0 d c l]) rfl (M':=[Ab A0 d c ac]) rfl aa aa.size bb al
    have bd:Sp (wE f) ba [Ab A0 d c ac,A5 f (Bf [Ab A0 d c g])]:=q.mut [1] [0] rfl (M:=[Ab A0 d c l]) rfl (M':=[Ab A0 d c ac]) rfl al
    refine Ah (a8 (Az (AN (fun m a ai=>∃ (ad:Ae5) (i:Int),St 63 [(0,c),(1,(iv h)),(2,(.func (.func 115) #[] #[])),(6,(iv i))] a ∧ Bl (wE f) ai ∧ Sp (wE f) ai [A5 f (Bf [Ab A0 d c g]),Ab A0 d c ad] ∧ AF h m ad i = some r) FU ?_ ?_)))
    ·exact fun a ha=>⟨ac,20,ha.sb rfl,bc,(bd.sel [1,0] rfl),b⟩
    ·rintro w a ai ⟨ad,i,ha,am,an,b⟩ b5 be
     refine BB ?_ ha
     cases w with
     | zero=>exact Be b
     | succ w =>
      obtain ⟨ao,ap⟩:∃ k,k = AF h w:=⟨_,rfl⟩
      rw [AF] at b; try rw [← ap] at b
      refine Am fun _ bf=>Al 3 rfl (A2 rfl b (fun _ b=>?_) (fun _ b=>?_))
      ·refine Au (bf ?_)
       refine Az (Al 4 rfl (Am fun _ bg=>(Az (AN (fun m a x=>∃ (j:Ae5) (n:Int) (s:Int),St 63 [(0,c),(1,(iv h)),(2,(.func (.func 115) #[] #[])),(6,(iv i)),(7,(iv n)),(8,(iv s))] a ∧ Bl (wE f) x ∧ Sp (wE f) x [A5 f (Bf [Ab A0 d c g]),Ab A0 d c j] ∧ Bo h i ao m j n s = some r) FU ?_ ?_))))
       ·exact fun a ha=>⟨ad,0,(Ag (2 * i)),ha.sb rfl,am,(an.sel [0,1] rfl),b⟩
       ·rintro y a x ⟨j,n,s,ha,z,o,b⟩ b6 bh
        refine BB ?_ ha
        cases y with
        | zero=>exact Be b
        | succ y =>
         obtain ⟨b7,aq⟩:∃ k,k = Bo h i ao y:=⟨_,rfl⟩
         rw [Bo] at b; try rw [← aq] at b
         refine Am fun _ bi=>Al 3 rfl (A2 rfl b (fun _ b=>?_) (fun _ b=>?_))
         ·refine Au (bi ?_)
          refine Az (Ak fun _ bj=>(wp 7 rfl (bB b fun ae bk b=>(A7 rfl Tryz.call211 (Ea x j c d n (Ag (n + i)) s (o.sel [1] rfl).base0 _ bk) rfl ?_))))
          rintro _ bl ⟨rfl,bm,ar⟩
          refine ⟨_,rfl,?_⟩
          have bn:=o.mutB [1] rfl (M:=[Ab A0 d c j]) rfl (M':=[Ab A0 d c ae]) rfl z z.size bm ar
          have bo:Sp (wE f) bl [Ab A0 d c ae,A5 f (Bf [Ab A0 d c g])]:=o.mut [1] [0] rfl (M:=[Ab A0 d c j]) rfl (M':=[Ab A0 d c ae]) rfl ar
          refine Ah (bj (Al 2 rfl (As (Aq 5 rfl ?_))))
          rw [aq] at b
          exact fun a ha=>bh a _ y (AB y) ⟨ae,s,(Ag (s + (Ag (2 * i)))),ha.sb rfl,bn,(bo.sel [1,0] rfl),b⟩
         ·refine Bc (bg ?_)
          refine Am fun bp bq=>?_
          obtain ⟨br,bs,b⟩:=Ch b
          have au:∀ (af:Ae5) (ag:Ae) (_:br af = some r) (_:Bl (wE f) ag) (_:Sp (wE f) ag [A5 f (Bf [Ab A0 d c g]),Ab A0 d c af]),∀ a,St 63 [(0,c),(1,(iv h)),(2,(.func (.func 115) #[] #[])),(6,(iv i))] a → bp a ag:=by
           intro af ag b bt bu
           subst bs
           refine bq (As (Aq 3 rfl ?_))
           rw [ap] at b
           exact fun a ha=>be a _ w (AB w) ⟨af,(Ag (i * 2)),ha.sb rfl,bt,(bu.sel [0,1] rfl),b⟩
          refine Al 4 rfl (Al 3 rfl (A2 rfl b (fun _ b=>?_) (fun _ b=>?_)))
          ·refine As ?_
           refine wp 5 rfl (bB b fun ah bv b=>(A7 rfl Tryz.call211 (Ea x j c d n (Ag (n + i)) h (o.sel [1] rfl).base0 _ bv) rfl ?_))
           rintro _ bw ⟨rfl,bx,av⟩
           refine ⟨_,rfl,?_⟩
           have bz:=o.mutB [1] rfl (M:=[Ab A0 d c j]) rfl (M':=[Ab A0 d c ah]) rfl z z.size bx av
           have b0:Sp (wE f) bw [Ab A0 d c ah,A5 f (Bf [Ab A0 d c g])]:=o.mut [1] [0] rfl (M:=[Ab A0 d c j]) rfl (M':=[Ab A0 d c ah]) rfl av
           refine Ah ?_
           exact jx (au ah _ b bz (b0.sel [1,0] rfl)) rfl
          ·refine Au ?_
           exact jx (au j _ b z (o.sel [0,1] rfl)) rfl
      ·refine Bc ?_
       obtain rfl:=Option.some.inj b
       exact N3 (vs:=[]) hQn rfl trivial ⟨rfl,am,an.sel [0,1] rfl⟩
theorem FO (a:Ae) (d:Ae5) (b:Ac) (c:An) (l:Sep 0 a [Ab A0 c b d]) (r:Ae5) (f:B7 d = some r) :
  A1 114 [b,(.func (.func 115) #[] #[])] a fun e w'=>e = .returned (.tuple #[]) ∧ Below 0 (wE a) w' ∧ Sep 0 w' [A5 a (Bf [Ab A0 c b d]),Ab A0 c b r]:=by
 refine Jt Tryz.func114 rfl Tryz.ntmps114 rfl rfl fun Q hQn s t=>?_
 have j:Bl (wE a) a:=Ek a
 have g:Sp (wE a) a [A5 a (Bf [Ab A0 c b d]),Ab A0 c b d]:=l.rest
 unfold B7 at f
 refine As (wp 2 rfl (BQ (g.own_ro (i:=1) rfl) Tryz.underlying72 rfl (wp 1 rfl (bB f fun h m f=>(A7 rfl Tryz.call167 (Hl a d b c (List.length d:Int) (g.sel [1] rfl).base0 _ m) rfl ?_)))))
 rintro _ n ⟨rfl,o,k⟩
 refine ⟨_,rfl,?_⟩
 have p:=g.mutB [1] rfl (M:=[Ab A0 c b d]) rfl (M':=[Ab A0 c b h]) rfl j j.size o k
 have q:Sp (wE a) n [Ab A0 c b h,A5 a (Bf [Ab A0 c b d])]:=g.mut [1] [0] rfl (M:=[Ab A0 c b d]) rfl (M':=[Ab A0 c b h]) rfl k
 refine Ah ?_
 obtain rfl:=Option.some.inj f
 exact N3 (vs:=[]) hQn rfl trivial ⟨rfl,p,q.sel [1,0] rfl⟩
theorem O0 (g:Ae) (f:(Ae4 × Ae4 × Int × Ae4 × Ae5 × Ae7)) (j:Nat) (p:An) (x1:(List Aj)) (k:(List Int)) (m:Ac) (n:An) (ei:Sep 0 g [A3 AV 76 p j f,Ab Ao n m k]) (r:((List Aj) × (Ae4 × Ae4 × Int × Ae4 × Ae5 × Ae7))) (c:CG f x1 k = some r) :
  A1 85 [(.pointer (some ⟨j,0,none⟩)),(.string (B5 x1)),m] g fun e w'=>∃ (H_0:An),e = .returned (.string (B5 r.1)) ∧ Below 0 (wE g) w' ∧ Sep 0 w' [A5 g (Bf [A3 AV 76 p j f,Ab Ao n m k]),A3 AV 76 H_0 j r.2]:=by
 refine Gb Tryz.func85 rfl Tryz.ntmps85 rfl rfl fun Q hQ d=>?_
 have hB:Bl (wE g) g:=Ek g
 have hS:Sp (wE g) g [A5 g (Bf [A3 AV 76 p j f,Ab Ao n m k]),A3 AV 76 p j f,Ab Ao n m k]:=ei.rest
 unfold CG at c
 refine Al 1 rfl (Am fun _ ej=>(Al 1 rfl (Az (Ak fun _ ek=>(AQ rfl rfl rfl (Aq 1 rfl (ek (A2 rfl c (fun _ c=>?_) (fun _ c=>?_)))))))))
 ·refine Am fun K6 em=>?_
  obtain ⟨en,eo,c⟩:=Nd c
  have be:∀ (ag:(Ae4 × Ae4 × Int × Ae4 × Ae5 × Ae7)) (ao:Ae4) (bf:An) (ak:Ac) (b5:An) (ap:Ae) (_:en ag ao = some r) (_:Bl (wE g) ap) (_:Sp (wE g) ap [A5 g (Bf [A3 AV 76 p j f,Ab Ao n m k]),A3 AV 76 bf j ag,Ab BN b5 ak ao]),∀ a,St 93 [(0,(.pointer (some ⟨j,0,none⟩))),(7,ak)] a → K6 a ap:=by
   intro ag ao bf ak b5 ap c ep b6
   subst eo
   refine em (Am fun _ eq=>(Ak fun _ er=>(wp 1 rfl (bB c fun kh es c=>(Bs rfl Tryz.call44 ep b6 (PH ap ao ak (b6.own_ro (i:=2) rfl) _ es) rfl fun ki _ b7 b8=>(Aq 1 rfl (er (A2 rfl c (fun _ c=>?_) (fun _ c=>?_)))))))))
   ·refine Al 1 rfl ?_
    refine Aw (rt hQ rfl rfl (by cases c; exact ⟨bf,rfl,b7,b8.sel [0,1] rfl⟩))
   ·refine Au (eq ?_)
    refine Ak fun _ et=>wp 2 rfl (BP rfl rfl (Bq Ur rfl ?_))
    obtain ⟨eu,kj,ev,kk,ew,ex,ey,kl,ez,km,bg⟩:=Iw (b8.sel [1,0,2] rfl)
    refine BC (i:=0) (vs:=[ak]) (cs':=[eu,ev,(iv ag.2.2.1),ak,ey,ez]) R4 rfl rfl (Cl (bg.own_ro (i:=7) rfl).one) rfl b7 bg rfl rfl ⟨(bg.own_ro (i:=7) rfl).one,trivial⟩ rfl fun e0 _ e1 e2=>Ah (et (Al 1 rfl (Aw ?_)))
    obtain ⟨e3,e4⟩:∃ F,Sp (wE g) e0 [A3 AV 76 F j (ag.1,ag.2.1,ag.2.2.1,ao,ag.2.2.2.2.1,ag.2.2.2.2.2),Ab BN ex ew ag.2.2.2.1,A5 g (Bf [A3 AV 76 p j f,Ab Ao n m k])]:=⟨_,Du (e2.sel [0,1,2,7,4,5,3,6] rfl)⟩
    refine rt hQ rfl rfl (by cases c; exact ⟨e3,rfl,e1,e4.sel [2,0] rfl⟩)
  obtain ⟨kn,ko,kp,kq,kr,ks,kt,ku,kv,kw,e5⟩:=Iw (hS.sel [1,0,2] rfl)
  refine AR B2 [] hB e5 fun ac _ aw aj=>?_
  have t:=KeepX.refl ac []
  refine Ax 1 rfl d t (Ad 2 rfl d t (B6 rfl rfl (Ad 3 rfl d t (C5 Ur rfl (Ad 4 rfl d t (CJ 0 R4 rfl aj rfl (by simp) (Ax 6 rfl d t (bB c fun u e6 c=>(Ad 7 rfl d t (C8 (e:=Ao) (i:=7) Tryz.underlying36 rfl rfl rfl aj rfl e6 ?_))))))))))
  rintro kx _ rfl e7 ky
  refine Ad 8 rfl d t (BJ A4 rfl (fun w hw=>e7.keepS (fun b q=>(hw.blk b (((aj.get (i:=7) rfl).2.1 b q).2) (by simp))) (fun _ h=>h)) rfl (Ax 9 rfl d t (bB c fun v e8 c=>(Ad 10 rfl d t (C8 (e:=Ao) (i:=7) Tryz.underlying36 rfl rfl rfl aj rfl e8 ?_)))))
  rintro kz _ rfl e9 k0
  refine Ad 11 rfl d t (BJ A4 rfl (fun w hw=>e9.keepS (fun b q=>(hw.blk b (((aj.get (i:=7) rfl).2.1 b q).2) (by simp))) (fun _ h=>h)) rfl (Ad 12 rfl d t (HW (zs:=[(iv 0),(iv 0)]) (out:=[(iv u),(iv v)]) (vs:=[(iv u),(iv v)]) (css:=[[(iv u)],[(iv v)]]) GR VK rfl rfl rfl rfl rfl (Cz (is:=[0,13]) (by kernel_rfl) rfl (Bd.2 ⟨⟨_,rfl,?_⟩,Bd.2 ⟨⟨_,rfl,?_⟩,fun _ h=>by cases h⟩⟩)))))
  ·refine Bb (vs:=[]) (l:=[]) GM Tryz.underlying31 rfl rfl rfl rfl rfl rfl (Bg ac) (Sep.nil _ _) fun k1 fa b9 ax _ ca=>?_
   have bh:=tm aw ax
   have bi:=aj.join ax ca aw.size
   have ay:∀ b ∈ fa,ac.heap.size ≤ b:=fun b hb=>Ay (Nat.le_refl ac.heap.size) ((ca.1 _ (List.mem_cons_self ..)).2.1 b hb).1
   have bj:=t.ext ax
   have cb:=Ay (Nat.le_refl ac.heap.size) ax.size
   refine Ah (Ap bj (Cz (is:=[5,13]) (by kernel_rfl) rfl (Bd.2 ⟨⟨_,rfl,?_⟩,Bd.2 ⟨⟨_,rfl,?_⟩,fun _ h=>by cases h⟩⟩)))
   ·refine bB c fun k2 fb c=>?_
    refine AE (i:=0) (S:=(· < b9.heap.size)) GM Tryz.underlying31 rfl rfl rfl bh bi rfl (bi.own_ro (i:=4) rfl) fb fun k3 fc fd bk cc fe=>?_
    have cd:=bj.wr' bk.1 bk.2.1 (fun b hlt hb=>absurd hlt (AK.2 (ay b hb)))
    have ff:∀ b ∈ fc,ac.heap.size ≤ b:=fun b hb=>(bk.2.2 b hb).elim (ay b) fun h=>Ay cb h
    refine Ah (Ap cd (Av 13 rfl (Bb (vs:=[(.agg #[(iv u),(iv v)])]) (l:=[(u,v)]) GM Tryz.underlying31 rfl rfl rfl rfl rfl rfl (Bg fd) (Sep.nil _ _) fun fg fh fi bl _ fj=>?_)))
    have fk:=tm cc bl
    have ce:=fe.join bl fj cc.size
    have cf:=cd.ext bl
    refine Ah (Ap cf (Av 14 rfl (bB c fun cg fl c=>(AE (i:=1) (S:=(· < fi.heap.size)) GM Tryz.underlying31 rfl rfl rfl fk ce rfl (ce.own_ro (i:=0) rfl) fl fun ch ci fm cj fn fo=>?_))))
    have ck:=cf.wr' cj.1 cj.2.1 (fun b hlt hb=>absurd hlt (AK.2 (ff b hb)))
    refine Ah (Ap ck (Ad 15 rfl d ck (AD rfl rfl (Ba ?_))))
    obtain ⟨fp,fq⟩:∃ F,Sp (wE g) fm [A3 AV 76 F j f,Ab BN fh fg [(u,v)],Ab BN ci ch cg,A5 g (Bf [A3 AV 76 p j f,Ab Ao n m k]),Ab Ao n m k]:=⟨_,Du (fo.sel [2,3,4,5,6,7,0,1,8,9] rfl)⟩
    exact jx (be f cg fp ch ci _ c fn (fq.sel [3,0,2] rfl)) rfl
   ·refine Bb (vs:=[(.agg #[(iv u),(iv v)])]) (l:=[(u,v)]) GM Tryz.underlying31 rfl rfl rfl rfl rfl rfl (Bg b9) (Sep.nil _ _) fun fr fs ft az _ fu=>?_
    have fv:=tm bh az
    have cl:=bi.join az fu bh.size
    have cm:=bj.ext az
    have fw:=Ay cb az.size
    refine Ah (Ap cm (Av 5 rfl (bB c fun k4 fx c=>(AE (i:=1) (S:=(· < ft.heap.size)) GM Tryz.underlying31 rfl rfl rfl fv cl rfl (cl.own_ro (i:=5) rfl) fx fun k5 fy fz bm f0 cn=>?_))))
    have co:=cm.wr' bm.1 bm.2.1 (fun b hlt hb=>absurd hlt (AK.2 (ay b hb)))
    have f1:∀ b ∈ fy,ac.heap.size ≤ b:=fun b hb=>(bm.2.2 b hb).elim (ay b) fun h=>Ay fw h
    refine Ah (Ap co (Av 14 rfl (bB c fun cp f2 c=>(AE (i:=1) (S:=(· < fz.heap.size)) GM Tryz.underlying31 rfl rfl rfl f0 cn rfl (cn.own_ro (i:=0) rfl) f2 fun cq cr f3 cs f4 f5=>?_))))
    have ct:=co.wr' cs.1 cs.2.1 (fun b hlt hb=>absurd hlt (AK.2 (f1 b hb)))
    refine Ah (Ap ct (Ad 15 rfl d ct (AD rfl rfl (Ba ?_))))
    obtain ⟨f6,f7⟩:∃ F,Sp (wE g) f3 [A3 AV 76 F j f,Ab BN fs fr [(u,v)],Ab BN cr cq cp,A5 g (Bf [A3 AV 76 p j f,Ab Ao n m k]),Ab Ao n m k]:=⟨_,Du (f5.sel [2,3,4,5,6,7,0,1,8,9] rfl)⟩
    exact jx (be f cp f6 cq cr _ c f4 (f7.sel [3,0,2] rfl)) rfl
  ·refine Bb (vs:=[(.agg #[(iv u),(iv v)])]) (l:=[(u,v)]) GM Tryz.underlying31 rfl rfl rfl rfl rfl rfl (Bg ac) (Sep.nil _ _) fun f8 f9 ga a0 _ gb=>?_
   have cu:=tm aw a0
   have gc:=aj.join a0 gb aw.size
   have cv:=t.ext a0
   have cw:=Ay (Nat.le_refl ac.heap.size) a0.size
   refine Ah (Ap cv (Av 0 rfl (Bb (vs:=[]) (l:=[]) GM Tryz.underlying31 rfl rfl rfl rfl rfl rfl (Bg ga) (Sep.nil _ _) fun k6 gd ge a1 _ cx=>?_)))
   have gf:=tm cu a1
   have cy:=gc.join a1 cx cu.size
   have cz:∀ b ∈ gd,ac.heap.size ≤ b:=fun b hb=>Ay cw ((cx.1 _ (List.mem_cons_self ..)).2.1 b hb).1
   have c0:=cv.ext a1
   have gg:=Ay cw a1.size
   refine Ah (Ap c0 (Av 5 rfl (bB c fun k7 gh c=>(AE (i:=0) (S:=(· < ge.heap.size)) GM Tryz.underlying31 rfl rfl rfl gf cy rfl (cy.own_ro (i:=5) rfl) gh fun k8 gi gj bn gk c1=>?_))))
   have c2:=c0.wr' bn.1 bn.2.1 (fun b hlt hb=>absurd hlt (AK.2 (cz b hb)))
   have gl:∀ b ∈ gi,ac.heap.size ≤ b:=fun b hb=>(bn.2.2 b hb).elim (cz b) fun h=>Ay gg h
   refine Ah (Ap c2 (Av 14 rfl (bB c fun c3 gm c=>(AE (i:=0) (S:=(· < gj.heap.size)) GM Tryz.underlying31 rfl rfl rfl gk c1 rfl (c1.own_ro (i:=1) rfl) gm fun c4 c5 gn c6 go gp=>?_))))
   have c7:=c2.wr' c6.1 c6.2.1 (fun b hlt hb=>absurd hlt (AK.2 (gl b hb)))
   refine Ah (Ap c7 (Ad 15 rfl d c7 (AD rfl rfl (Ba ?_))))
   obtain ⟨gq,gr⟩:∃ F,Sp (wE g) gn [A3 AV 76 F j f,Ab BN c5 c4 c3,Ab BN f9 f8 [(u,v)],A5 g (Bf [A3 AV 76 p j f,Ab Ao n m k]),Ab Ao n m k]:=⟨_,Du (gp.sel [2,3,4,5,6,7,0,1,8,9] rfl)⟩
   exact jx (be f c3 gq c4 c5 _ c go (gr.sel [3,0,1] rfl)) rfl
 ·refine Ak fun _ gs=>?_
  refine AQ rfl rfl rfl (Aq 1 rfl (gs (A2 rfl c (fun _ c=>?_) (fun _ c=>?_))))
  ·refine Am fun gt gu=>?_
   obtain ⟨gv,gw,c⟩:=Nd c
   have bo:∀ (ad:(Ae4 × Ae4 × Int × Ae4 × Ae5 × Ae7)) (al:Ae5) (a2:An) (x:Ac) (ai:An) (aq:Ae) (_:gv ad al = some r) (_:Bl (wE g) aq) (_:Sp (wE g) aq [A5 g (Bf [A3 AV 76 p j f,Ab Ao n m k]),A3 AV 76 a2 j ad,Ab A0 ai x al]),∀ a,St 93 [(0,(.pointer (some ⟨j,0,none⟩))),(8,x)] a → gt a aq:=by
    intro ad al a2 x ai aq c c8 bp
    subst gw
    refine gu (Ak fun _ gx=>(wp 1 rfl (bB c fun ar gy c=>(A7 rfl Tryz.call114 (FO aq al x ai (bp.sel [2] rfl).base0 _ gy) rfl ?_))))
    rintro _ c9 ⟨rfl,gz,da⟩
    refine ⟨_,rfl,?_⟩
    have g0:=bp.mutB [2] rfl (M:=[Ab A0 ai x al]) rfl (M':=[Ab A0 ai x ar]) rfl c8 c8.size gz da
    have db:Sp (wE g) c9 [Ab A0 ai x ar,A5 g (Bf [A3 AV 76 p j f,Ab Ao n m k]),A3 AV 76 a2 j ad]:=bp.mut [2] [0,1] rfl (M:=[Ab A0 ai x al]) rfl (M':=[Ab A0 ai x ar]) rfl da
    refine Ah (gx (Am fun _ g1=>(Ak fun _ g2=>(wp 1 rfl (bB c fun k9 g3 c=>(Bs rfl Tryz.call116 g0 db (Nz c9 ar x (db.own_ro (i:=0) rfl) _ g3) rfl fun la _ dc dd=>(Aq 1 rfl (g2 (A2 rfl c (fun _ c=>?_) (fun _ c=>?_))))))))))
    ·refine Al 1 rfl ?_
     refine Aw (rt hQ rfl rfl (by cases c; exact ⟨a2,rfl,dc,dd.sel [1,2] rfl⟩))
    ·refine Au (g1 ?_)
     refine Ak fun _ g4=>wp 2 rfl (BP rfl rfl (Bq Uq rfl ?_))
     obtain ⟨g5,lb,g6,lc,g7,ld,g8,g9,ha,le,bq⟩:=Iw (dd.sel [2,0,1] rfl)
     refine BC (i:=0) (vs:=[x]) (cs':=[g5,g6,(iv ad.2.2.1),g7,x,ha]) R2 rfl rfl (Cl (bq.own_ro (i:=6) rfl).one) rfl dc bq rfl rfl ⟨(bq.own_ro (i:=6) rfl).one,trivial⟩ rfl fun hc _ hd he=>Ah (g4 (Al 1 rfl (Aw ?_)))
     obtain ⟨hf,hg⟩:∃ F,Sp (wE g) hc [A3 AV 76 F j (ad.1,ad.2.1,ad.2.2.1,ad.2.2.2.1,ar,ad.2.2.2.2.2),Ab A0 g9 g8 ad.2.2.2.2.1,A5 g (Bf [A3 AV 76 p j f,Ab Ao n m k])]:=⟨_,Du (he.sel [0,1,2,3,6,5,4,7] rfl)⟩
     refine rt hQ rfl rfl (by cases c; exact ⟨hf,rfl,hd,hg.sel [2,0] rfl⟩)
   obtain ⟨lf,lg,lh,li,lj,lk,ll,lm,ln,lo,hh⟩:=Iw (hS.sel [1,0,2] rfl)
   refine AR B2 [] hB hh fun ae _ a3 af=>?_
   have o:=KeepX.refl ae []
   refine Ax 1 rfl d o (Ad 2 rfl d o (B6 rfl rfl (Ad 3 rfl d o (C5 Uq rfl (Ad 4 rfl d o (CJ 0 R2 rfl af rfl (by simp) (Ax 6 rfl d o (bB c fun y hi c=>(Ad 7 rfl d o (C8 (e:=Ao) (i:=7) Tryz.underlying36 rfl rfl rfl af rfl hi ?_))))))))))
   rintro lp _ rfl hj lq
   refine Ad 8 rfl d o (BJ A4 rfl (fun w hw=>hj.keepS (fun b q=>(hw.blk b (((af.get (i:=7) rfl).2.1 b q).2) (by simp))) (fun _ h=>h)) rfl (Ax 9 rfl d o (bB c fun z hk c=>(Ad 10 rfl d o (C8 (e:=Ao) (i:=7) Tryz.underlying36 rfl rfl rfl af rfl hk ?_)))))
   rintro lr _ rfl hl ls
   refine Ad 11 rfl d o (BJ A4 rfl (fun w hw=>hl.keepS (fun b q=>(hw.blk b (((af.get (i:=7) rfl).2.1 b q).2) (by simp))) (fun _ h=>h)) rfl (Ax 12 rfl d o (bB c fun aa hm c=>(Ad 13 rfl d o (C8 (e:=Ao) (i:=7) Tryz.underlying36 rfl rfl rfl af rfl hm ?_)))))
   rintro lt _ rfl hn lu
   refine Ad 14 rfl d o (BJ A4 rfl (fun w hw=>hn.keepS (fun b q=>(hw.blk b (((af.get (i:=7) rfl).2.1 b q).2) (by simp))) (fun _ h=>h)) rfl (Ax 15 rfl d o (bB c fun ab ho c=>(Ad 16 rfl d o (C8 (e:=Ao) (i:=7) Tryz.underlying36 rfl rfl rfl af rfl ho ?_)))))
   rintro lv _ rfl hp lw
   refine Ad 17 rfl d o (BJ A4 rfl (fun w hw=>hp.keepS (fun b q=>(hw.blk b (((af.get (i:=7) rfl).2.1 b q).2) (by simp))) (fun _ h=>h)) rfl (Ad 18 rfl d o (HW (zs:=[(iv 0),(iv 0),(iv 0),(iv 0)]) (out:=[(iv y),(iv z),(iv aa),(iv ab)]) (vs:=[(iv y),(iv z),(iv aa),(iv ab)]) (css:=[[(iv y)],[(iv z)],[(iv aa)],[(iv ab)]]) BD Zd rfl rfl rfl rfl rfl (Cz (is:=[0,19]) (by kernel_rfl) rfl (Bd.2 ⟨⟨_,rfl,?_⟩,Bd.2 ⟨⟨_,rfl,?_⟩,fun _ h=>by cases h⟩⟩)))))
   ·refine Bb (vs:=[]) (l:=[]) Ct Tryz.underlying72 rfl rfl rfl rfl rfl rfl (Bg ae) (Sep.nil _ _) fun lx hq de a4 _ df=>?_
    have br:=tm a3 a4
    have bs:=af.join a4 df a3.size
    have a5:∀ b ∈ hq,ae.heap.size ≤ b:=fun b hb=>Ay (Nat.le_refl ae.heap.size) ((df.1 _ (List.mem_cons_self ..)).2.1 b hb).1
    have bt:=o.ext a4
    have dg:=Ay (Nat.le_refl ae.heap.size) a4.size
    refine Ah (Ap bt (Cz (is:=[5,19]) (by kernel_rfl) rfl (Bd.2 ⟨⟨_,rfl,?_⟩,Bd.2 ⟨⟨_,rfl,?_⟩,fun _ h=>by cases h⟩⟩)))
    ·refine bB c fun ly hr c=>?_
     refine AE (i:=0) (S:=(· < de.heap.size)) Ct Tryz.underlying72 rfl rfl rfl br bs rfl (bs.own_ro (i:=5) rfl) hr fun lz hs ht bu dh hu=>?_
     have di:=bt.wr' bu.1 bu.2.1 (fun b hlt hb=>absurd hlt (AK.2 (a5 b hb)))
     have hv:∀ b ∈ hs,ae.heap.size ≤ b:=fun b hb=>(bu.2.2 b hb).elim (a5 b) fun h=>Ay dg h
     refine Ah (Ap di (Av 19 rfl (Bb (vs:=[(.agg #[(iv y),(iv z),(iv aa),(iv ab)])]) (l:=[(y,z,aa,ab)]) Ct Tryz.underlying72 rfl rfl rfl rfl rfl rfl (Bg ht) (Sep.nil _ _) fun hx hy hz bv _ h1=>?_)))
     have h2:=tm dh bv
     have dj:=hu.join bv h1 dh.size
     have dk:=di.ext bv
     refine Ah (Ap dk (Av 20 rfl (bB c fun dl h3 c=>(AE (i:=1) (S:=(· < hz.heap.size)) Ct Tryz.underlying72 rfl rfl rfl h2 dj rfl (dj.own_ro (i:=0) rfl) h3 fun dm dn h4 dp h5 h6=>?_))))
     have dq:=dk.wr' dp.1 dp.2.1 (fun b hlt hb=>absurd hlt (AK.2 (hv b hb)))
     refine Ah (Ap dq (Ad 21 rfl d dq (AD rfl rfl (Ba ?_))))
     obtain ⟨h7,h8⟩:∃ F,Sp (wE g) h4 [A3 AV 76 F j f,Ab A0 hy hx [(y,z,aa,ab)],Ab A0 dn dm dl,A5 g (Bf [A3 AV 76 p j f,Ab Ao n m k]),Ab Ao n m k]:=⟨_,Du (h6.sel [2,3,4,5,6,7,0,1,8,9] rfl)⟩
     exact jx (bo f dl h7 dm dn _ c h5 (h8.sel [3,0,2] rfl)) rfl
    ·refine Bb (vs:=[(.agg #[(iv y),(iv z),(iv aa),(iv ab)])]) (l:=[(y,z,aa,ab)]) Ct Tryz.underlying72 rfl rfl rfl rfl rfl rfl (Bg de) (Sep.nil _ _) fun h9 ia ib a6 _ ic=>?_
     have ie:=tm br a6
     have dr:=bs.join a6 ic br.size
     have ds:=bt.ext a6
     have ig:=Ay dg a6.size
     refine Ah (Ap ds (Av 5 rfl (bB c fun l0 ih c=>(AE (i:=1) (S:=(· < ib.heap.size)) Ct Tryz.underlying72 rfl rfl rfl ie dr rfl (dr.own_ro (i:=6) rfl) ih fun l1 ii ij bw ik dt=>?_))))
     have du:=ds.wr' bw.1 bw.2.1 (fun b hlt hb=>absurd hlt (AK.2 (a5 b hb)))
     have il:∀ b ∈ ii,ae.heap.size ≤ b:=fun b hb=>(bw.2.2 b hb).elim (a5 b) fun h=>Ay ig h
     refine Ah (Ap du (Av 20 rfl (bB c fun dv im c=>(AE (i:=1) (S:=(· < ij.heap.size)) Ct Tryz.underlying72 rfl rfl rfl ik dt rfl (dt.own_ro (i:=0) rfl) im fun dw dx io dy ip iq=>?_))))
     have dz:=du.wr' dy.1 dy.2.1 (fun b hlt hb=>absurd hlt (AK.2 (il b hb)))
     refine Ah (Ap dz (Ad 21 rfl d dz (AD rfl rfl (Ba ?_))))
     obtain ⟨ir,it⟩:∃ F,Sp (wE g) io [A3 AV 76 F j f,Ab A0 ia h9 [(y,z,aa,ab)],Ab A0 dx dw dv,A5 g (Bf [A3 AV 76 p j f,Ab Ao n m k]),Ab Ao n m k]:=⟨_,Du (iq.sel [2,3,4,5,6,7,0,1,8,9] rfl)⟩
     exact jx (bo f dv ir dw dx _ c ip (it.sel [3,0,2] rfl)) rfl
   ·refine Bb (vs:=[(.agg #[(iv y),(iv z),(iv aa),(iv ab)])]) (l:=[(y,z,aa,ab)]) Ct Tryz.underlying72 rfl rfl rfl rfl rfl rfl (Bg ae) (Sep.nil _ _) fun iu iw ix a7 _ iy=>?_
    have d0:=tm a3 a7
    have iz:=af.join a7 iy a3.size
    have d1:=o.ext a7
    have d2:=Ay (Nat.le_refl ae.heap.size) a7.size
    refine Ah (Ap d1 (Av 0 rfl (Bb (vs:=[]) (l:=[]) Ct Tryz.underlying72 rfl rfl rfl rfl rfl rfl (Bg ix) (Sep.nil _ _) fun l2 i0 i1 a8 _ d3=>?_)))
    have i2:=tm d0 a8
    have d4:=iz.join a8 d3 d0.size
    have d5:∀ b ∈ i0,ae.heap.size ≤ b:=fun b hb=>Ay d2 ((d3.1 _ (List.mem_cons_self ..)).2.1 b hb).1
    have d6:=d1.ext a8
    have i3:=Ay d2 a8.size
    refine Ah (Ap d6 (Av 5 rfl (bB c fun l3 i4 c=>(AE (i:=0) (S:=(· < i1.heap.size)) Ct Tryz.underlying72 rfl rfl rfl i2 d4 rfl (d4.own_ro (i:=6) rfl) i4 fun l4 i5 i6 bx i7 d7=>?_))))
    have d8:=d6.wr' bx.1 bx.2.1 (fun b hlt hb=>absurd hlt (AK.2 (d5 b hb)))
    have i8:∀ b ∈ i5,ae.heap.size ≤ b:=fun b hb=>(bx.2.2 b hb).elim (d5 b) fun h=>Ay i3 h
    refine Ah (Ap d8 (Av 20 rfl (bB c fun d9 i9 c=>(AE (i:=0) (S:=(· < i6.heap.size)) Ct Tryz.underlying72 rfl rfl rfl i7 d7 rfl (d7.own_ro (i:=1) rfl) i9 fun ea eb ja ec jb jc=>?_))))
    have ed:=d8.wr' ec.1 ec.2.1 (fun b hlt hb=>absurd hlt (AK.2 (i8 b hb)))
    refine Ah (Ap ed (Ad 21 rfl d ed (AD rfl rfl (Ba ?_))))
    obtain ⟨jd,je⟩:∃ F,Sp (wE g) ja [A3 AV 76 F j f,Ab A0 eb ea d9,Ab A0 iw iu [(y,z,aa,ab)],A5 g (Bf [A3 AV 76 p j f,Ab Ao n m k]),Ab Ao n m k]:=⟨_,Du (jc.sel [2,3,4,5,6,7,0,1,8,9] rfl)⟩
    exact jx (bo f d9 jd ea eb _ c jb (je.sel [3,0,1] rfl)) rfl
  ·refine Au (ej ?_)
   refine Am fun _ jf=>?_
   obtain ⟨l5,l6,l7,l8,l9,ma,mb,mc,jg,md,jh⟩:=Iw (hS.sel [1,0,2] rfl)
   refine AR B2 [] hB jh fun ee _ ji ah=>?_
   have s:=KeepX.refl ee []
   refine Ax 0 rfl d s (Ad 1 rfl d s (B6 rfl rfl (Ad 2 rfl d s (C5 Up rfl (Ad 3 rfl d s (CJ 0 R3 rfl ah rfl (by simp) (Ax 4 rfl d s (bB c fun a9 jj c=>(Ad 5 rfl d s (C8 (e:=Ao) (i:=7) Tryz.underlying36 rfl rfl rfl ah rfl jj ?_))))))))))
   rintro me _ rfl jk mf
   refine Ad 6 rfl d s (BJ A4 rfl (fun w hw=>jk.keepS (fun b q=>(hw.blk b (((ah.get (i:=7) rfl).2.1 b q).2) (by simp))) (fun _ h=>h)) rfl (Ax 7 rfl d s (bB c fun ba jl c=>(Ad 8 rfl d s (C8 (e:=Ao) (i:=7) Tryz.underlying36 rfl rfl rfl ah rfl jl ?_)))))
   rintro mg _ rfl jm mh
   refine Ad 9 rfl d s (BJ A4 rfl (fun w hw=>jm.keepS (fun b q=>(hw.blk b (((ah.get (i:=7) rfl).2.1 b q).2) (by simp))) (fun _ h=>h)) rfl (Ax 10 rfl d s (bB c fun bb jn c=>(Ad 11 rfl d s (C8 (e:=Ao) (i:=7) Tryz.underlying36 rfl rfl rfl ah rfl jn ?_)))))
   rintro mi _ rfl jo mj
   refine Ad 12 rfl d s (BJ A4 rfl (fun w hw=>jo.keepS (fun b q=>(hw.blk b (((ah.get (i:=7) rfl).2.1 b q).2) (by simp))) (fun _ h=>h)) rfl (Ad 13 rfl d s (HW (zs:=[(iv 0),(iv 0),(iv 0)]) (out:=[(iv a9),(iv ba),(iv bb)]) (vs:=[(iv a9),(iv ba),(iv bb)]) (css:=[[(iv a9)],[(iv ba)],[(iv bb)]]) LC VJ rfl rfl rfl rfl rfl (Av 14 rfl (bB c fun au jp c=>(En rfl Tryz.call117 ji ah (RS ee f.2.2.2.2.2 jg (ah.own_ro (i:=5) rfl) (a9,ba,bb) _ jp) rfl fun bz jq jr js _ ef jt=>?_))))))
   have am:=s.ext js
   refine Ah (Ap am (Ax 15 rfl d am (Ad 16 rfl d am (AW rfl rfl rfl (Ad 17 rfl d am (AW rfl rfl rfl (Ad 18 rfl d am (AD rfl rfl (Ad 19 rfl d am (AD rfl rfl (Ba (jf (Am fun ju jv=>?_)))))))))))))
   obtain ⟨jw,eg⟩:∃ F,Sp (wE g) jr [A3 AV 76 F j f,Ab Cm jq bz au.1,A5 g (Bf [A3 AV 76 p j f,Ab Ao n m k]),Ab Ao n m k]:=⟨_,Du (jt.sel [1,2,3,4,5,6,0,7,8] rfl)⟩
   obtain ⟨jy,jz,c⟩:=Ch c
   have eh:∀ (b1:(Ae4 × Ae4 × Int × Ae4 × Ae5 × Ae7)) (b2:An) (av:Ae) (_:jy b1 = some r) (_:Bl (wE g) av) (_:Sp (wE g) av [A5 g (Bf [A3 AV 76 p j f,Ab Ao n m k]),A3 AV 76 b2 j b1]),∀ a,St 93 [(10,(.bool au.2))] a → ju a av:=by
    intro b1 b2 av c j0 j1
    subst jz
    refine jv (Ak fun _ j2=>(wp 1 rfl (bB c fun mk j3 c=>(Bs rfl Tryz.call118 j0 j1 (PE av au.2 _ j3) rfl fun ml _ j4 j5=>(Aq 1 rfl (j2 (Aw (rt hQ rfl rfl (by cases c; exact ⟨b2,rfl,j4,j5.sel [0,1] rfl⟩)))))))))
   refine Al 1 rfl (A2 rfl c (fun _ c=>?_) (fun _ c=>?_))
   ·refine As ?_
    refine wp 2 rfl (BP rfl rfl (Bq Up rfl ?_))
    obtain ⟨j6,mm,j7,mn,j8,mo,j9,mp,ka,kb,b3⟩:=Iw (eg.sel [0,1,2,3] rfl)
    refine BC (i:=0) (vs:=[bz]) (cs':=[j6,j7,(iv f.2.2.1),j8,j9,bz]) R3 rfl rfl (Cl (b3.own_ro (i:=6) rfl).one) rfl ef b3 rfl rfl ⟨(b3.own_ro (i:=6) rfl).one,trivial⟩ rfl fun kc _ kd ke=>Ah ?_
    obtain ⟨kf,kg⟩:∃ F,Sp (wE g) kc [A3 AV 76 F j (f.1,f.2.1,f.2.2.1,f.2.2.2.1,f.2.2.2.2.1,au.1),Ab Cm kb ka f.2.2.2.2.2,A5 g (Bf [A3 AV 76 p j f,Ab Ao n m k]),Ab Ao n m k]:=⟨_,Du (ke.sel [0,1,2,3,4,6,5,7,8] rfl)⟩
    exact jx (eh ((f.1,f.2.1,f.2.2.1,f.2.2.2.1,f.2.2.2.2.1,au.1)) kf _ c kd (kg.sel [2,0] rfl)) rfl
   ·refine Au ?_
    exact jx (eh f jw _ c ef (eg.sel [2,0] rfl)) rfl
theorem Ov (g:Ae) (h:Ae4) (l:Ac) (t:RO Ar g l h) (i:Ae4) (m:Ac) (u:RO Ar g m i) (n:Int) (r:Bool) (b:H7 h i n = some r) :
  A1 169 [l,m,(iv n)] g fun e w'=>e = .returned (.bool r) ∧ Bl g w':=by
 refine cm Tryz.func169 Tryz.ntmps169 rfl fun Q x hP v y=>?_
 unfold H7 at b
 refine Al 1 rfl (Am fun z aa=>?_)
 obtain ⟨k7,ac,b⟩:=Ch b
 have j:∀ (o:Bool) (k:Ae) (_:k7 o = some r) (_:Bl g k) (_:Sp g k []),∀ a,St 24 [(6,(.bool o))] a → z a k:=by
  intro o k b ad ap
  subst ac
  refine aa (Aw (rt x rfl rfl (by cases b; exact ⟨rfl,ad⟩)))
 refine As (wp 1 rfl (bB b fun u9 af b=>(Bs rfl Tryz.call43 v y (GK g h l (t.ro v) _ af) rfl fun ag _ p w=>(wp 1 rfl ?_))))
 rcases bE u9 with d | d
 ·replace b:=B9 d b
  refine wn rfl d (wp 1 rfl (wn rfl d (bB b fun ah ai b=>(Bs rfl Tryz.call43 p w (GK ag i m (u.ro p) _ ai) rfl fun aj _ q s=>(AA rfl rfl d rfl (wp 1 rfl ?_))))))
  rcases bE ah with c | c
  ·replace b:=B9 c b
   refine wn rfl c (wp 1 rfl (wn rfl c (BQ t Tryz.underlying26 rfl (wn rfl c (wp 1 rfl (wn rfl c (BQ u Tryz.underlying26 rfl (wn rfl c (wp 1 rfl (AA rfl rfl c rfl (wp 1 rfl ?_)))))))))))
   rcases bE ((List.length h:Int) == (List.length i:Int)) with f | f
   ·replace b:=B9 f b
    refine wn rfl f (wp 1 rfl (wn rfl f (bB b fun ak al b=>(Bs rfl Tryz.call60 q s (Cs aj n 1 64 _ al) rfl fun aq _ am an=>(AA rfl rfl f rfl (Aq 1 rfl ?_))))))
    exact jx (j ak _ b am (an.sel [] rfl)) rfl
   ·replace b:=Cf f b
    refine wo rfl f (wo rfl f (A6 rfl rfl f rfl (Aq 1 rfl ?_)))
    exact jx (j false _ b q (s.sel [] rfl)) rfl
  ·replace b:=Cf c b
   refine wo rfl c (wo rfl c (wo rfl c (wo rfl c (wo rfl c (A6 rfl rfl c rfl (wp 1 rfl (wo rfl rfl (wo rfl rfl (A6 rfl rfl rfl rfl (Aq 1 rfl ?_))))))))))
   exact jx (j false _ b q (s.sel [] rfl)) rfl
 ·replace b:=Cf d b
  refine wo rfl d (wo rfl d (A6 rfl rfl d rfl (wp 1 rfl (wo rfl rfl (wo rfl rfl (wo rfl rfl (wo rfl rfl (wo rfl rfl (A6 rfl rfl rfl rfl (wp 1 rfl (wo rfl rfl (wo rfl rfl (A6 rfl rfl rfl rfl (Aq 1 rfl ?_))))))))))))))
  exact jx (j false _ b p (w.sel [] rfl)) rfl
theorem Hg (d:Ae) (b:(Int × Int)) (c:(Int × Int)) (r:Int) (f:Eg b c = some r) :
  A1 183 [(.agg #[(iv b.1),(iv b.2)]),(.agg #[(iv c.1),(iv c.2)])] d fun e w'=>e = .returned (iv r) ∧ Bl d w':=by
 refine cm Tryz.func183 Tryz.ntmps183 rfl fun Q g o h i=>?_
 unfold Eg at f
 refine Ak fun _ j=>CM rfl h i fun p q _ k l=>CM rfl k l fun s t _ m a=>Aq 1 rfl (j (Ak fun _ n=>(Bq CL rfl (AU 1 A4 rfl a rfl rfl (Bq CL rfl (AU 0 A4 rfl a rfl rfl (wp 1 rfl (Bq CL rfl (AU 1 A4 rfl a rfl rfl (Bq CL rfl (AU 0 A4 rfl a rfl rfl (wp 2 rfl (Bq CK rfl (AU 1 A4 rfl a rfl rfl (Bq CK rfl (AU 0 A4 rfl a rfl rfl (wp 1 rfl (Bq CK rfl (AU 1 A4 rfl a rfl rfl (Bq CK rfl (AU 0 A4 rfl a rfl rfl (Aq 4 rfl (n (Aw (rt g rfl rfl (by cases f; exact ⟨rfl,m⟩))))))))))))))))))))))))))
theorem SL (c:Ae) (g:Ae4) (t:Ac) (ae:RO Ar c t g) (d:Ae4) (n:Ac) (af:RO Ar c n d) (r:Ae9) (b:IH g d = some r) :
  A1 172 [t,n] c fun e w'=>∃ (q0:Ac) (G0:An),e = .returned q0 ∧ Bl c w' ∧ Sp c w' [Ab Cn G0 q0 r]:=by
 refine cm Tryz.func172 Tryz.ntmps172 rfl fun Q hQ hP hB hS=>?_
 unfold IH at b
 refine Al 1 rfl (Ak fun _ au=>(TS (e:=Cn) Tryz.underlying155 rfl hB hS fun v3 F4 w5 _ ax ay=>(Aq 1 rfl (au (Am fun _ az=>(Ak fun _ a0=>(wp 1 rfl (BQ ae Tryz.underlying26 rfl (Aq 1 rfl (a0 (Az (AN (fun m a x=>∃ (h:Ae9) (f:Int) (j:Ac) (u:An),St 38 [(1,n),(5,j),(12,t),(13,(iv (List.length g:Int))),(14,(iv f))] a ∧ Bl c x ∧ Sp c x [Ab Cn u j h] ∧ DF g d m h f = some r) FU ?_ ?_))))))))))))
 ·exact fun a ha=>⟨[],0,v3,F4,ha.sb rfl,ax,(ay.sel [0] rfl),b⟩
 ·rintro o a x ⟨h,f,j,u,ha,y,ah,b⟩ ci a1
  refine BB ?_ ha
  cases o with
  | zero=>exact Be b
  | succ o =>
   obtain ⟨ai,aj⟩:∃ k,k = DF g d o:=⟨_,rfl⟩
   rw [DF,← aj] at b
   refine Al 1 rfl (Am fun _ a2=>(A2 rfl b (fun _ b=>?_) (fun _ b=>?_)))
   ·refine Au (a2 ?_)
    refine Am fun _ a3=>Az (Ak fun _ a4=>(bB b fun p a5 b=>(BM (e:=Ar) Tryz.underlying26 rfl rfl rfl ae a5 ?_)))
    rintro cj _ rfl a6
    refine BV Bt rfl (a6.ro y) rfl (Ep Bt rfl y ah fun ak ck _ a7 a8=>(Gq 0 Bt rfl rfl a7 a8 rfl rfl rfl fun cl _ a9 ba=>(Ah (a4 (Ak fun _ bb=>(Bb (vs:=[]) (l:=[]) Ca Tryz.underlying36 rfl rfl rfl rfl rfl rfl a9 ba fun bc bd cn _ be bf=>(Aq 1 rfl (bb (Am fun _ bg=>(Ak fun _ bh=>(wp 1 rfl (BQ af Tryz.underlying26 rfl (Aq 1 rfl (bh (Az (AN (fun m a z=>∃ (v:(List Int)) (w:Int) (q:Ac) (aa:An),St 38 [(1,n),(5,j),(7,(.pointer (some ⟨ak,0,none⟩))),(8,q),(12,t),(13,(iv (List.length g:Int))),(14,(iv f)),(19,n),(20,(iv (List.length d:Int))),(21,(iv w))] a ∧ Bl c z ∧ Sp c z [Ab Cn u j h,A9 ak 79 [(iv p.1),(iv p.2)],Ab Ao aa q v] ∧ Eu d p h ai f m v w = some r) FU ?_ ?_))))))))))))))))
    ·exact fun a ha=>⟨[],0,bc,bd,ha.sb rfl,be,(bf.sel [2,1,0] rfl),b⟩
    ·rintro s a z ⟨v,w,q,aa,ha,ab,ac,b⟩ co bi
     refine BB ?_ ha
     cases s with
     | zero=>exact Be b
     | succ s =>
      obtain ⟨cp,al⟩:∃ k,k = Eu d p h ai f s:=⟨_,rfl⟩
      rw [Eu,← al] at b
      refine Al 1 rfl (Am fun _ bj=>(A2 rfl b (fun _ b=>?_) (fun _ b=>?_)))
      ·refine Au (bj ?_)
       refine Am fun _ bk=>Az (Ak fun _ bl=>(bB b fun bm bn b=>(BM (e:=Ar) Tryz.underlying26 rfl rfl rfl af bn ?_)))
       rintro cq _ rfl bo
       refine BV Bt rfl (bo.ro ab) rfl (Ep Bt rfl ab ac fun cr cs _ bp bq=>(Gq 0 Bt rfl rfl bp bq rfl rfl rfl fun br _ bs ad=>(Ah (bl (As (wp 1 rfl (AU 2 Bt rfl ad rfl rfl (AU 0 Bt rfl ad rfl rfl (bB b fun am bt b=>(Bs rfl Tryz.call183 bs ad (Hg br p bm _ bt) rfl fun ct _ bu bv=>(Bb (vs:=[(iv am)]) (l:=[am]) Ca Tryz.underlying36 rfl rfl rfl rfl rfl rfl bu bv fun cu cv bw _ bx an=>(bB b fun bz b0 b=>(AE (i:=4) (S:=(· < bw.heap.size)) Ca Tryz.underlying36 rfl rfl rfl bx an rfl (an.own_ro (i:=0) rfl) b0 fun b1 b2 cw _ b3 b4=>(Aq 1 rfl (bk (As (Aq 2 rfl ?_)))))))))))))))))
       rw [al] at b
       exact fun a ha=>bi a _ s (AB s) ⟨bz,(Ag (w + 1)),b1,b2,ha.sb rfl,b3,(b4.sel [2,3,4] rfl),b⟩
      ·refine Bc (bg ?_)
       refine As (wp 2 rfl ?_)
       have b5:=ac.sel [2,0,1] rfl
       have b6:=b5.head (r':=Qi Cn aa [q] v) (rfl) fun _ h0=>⟨_,rfl,h0⟩
       refine NE (e:=Cn) (vs:=[q]) Tryz.underlying155 rfl rfl (Cl (ac.own_ro (i:=2) rfl).one) rfl ab b6 fun cx cy cz _ _ b8 b9=>bB b fun ca cb b=>Lk (e:=Cn) Tryz.underlying155 rfl rfl rfl b8 (b9.sel [1,0,2] rfl) cb fun cc cd c0 _ ce cf=>Aq 1 rfl (a3 (As (Aq 2 rfl ?_)))
       rw [aj] at b
       exact fun a ha=>a1 a _ o (AB o) ⟨ca,(Ag (f + 1)),cc,cd,ha.sb rfl,ce,(cf.sel [0] rfl),b⟩
   ·refine Bc (az ?_)
    refine Al 2 rfl (Aw (rt hQ rfl rfl (by cases b; exact ⟨j,u,rfl,y,ah.sel [0] rfl⟩)))
theorem Ru (a:Ae) (b:Int) (r:Int) (c:Lg b = some r) :
  A1 255 [(.int .u64 b)] a fun e w'=>e = .returned (iv r) ∧ Bl a w':=by
 refine cm Tryz.func255 Tryz.ntmps255 rfl fun Q d n f _=>?_
 unfold Lg at c
 refine Al 1 rfl (Ak fun _ g=>(wp 1 rfl (Gp rfl rfl rfl rfl (I7 rfl rfl rfl (wp 1 rfl (I7 rfl rfl rfl (Aq 2 rfl (g (Ak fun _ h=>(wp 1 rfl (Gp rfl rfl rfl rfl (I7 rfl rfl rfl (wp 1 rfl (I7 rfl rfl rfl (Aq 2 rfl (h (Ak fun _ i=>(wp 1 rfl (Gp rfl rfl rfl rfl (wp 2 rfl (I7 rfl rfl rfl (Aq 1 rfl (i (Ak fun _ j=>(wp 2 rfl (Gp rfl rfl rfl rfl (Aq 2 rfl (j (Ak fun _ k=>(wp 2 rfl (Gp rfl rfl rfl rfl (Aq 2 rfl (k (Ak fun _ l=>(wp 2 rfl (Gp rfl rfl rfl rfl (Aq 2 rfl (l (Ak fun _ m=>(wp 1 rfl (DX Tryz.underlying89 Tryz.underlying3 rfl rfl (I7 rfl rfl rfl (Aq 1 rfl (m (Aw (rt d rfl rfl (by cases c; exact ⟨rfl,f⟩)))))))))))))))))))))))))))))))))))))))))))))))
theorem ST (b:Ae) (c:Int) (r:Int) (a:H9 c = some r) :
  A1 236 [(.int .u64 c)] b fun e w'=>e = .returned (iv r) ∧ Bl b w':=by
 refine cm Tryz.func236 Tryz.ntmps236 rfl fun Q d l f _=>?_
 unfold H9 at a
 refine Al 1 rfl (Am fun _ g=>(Aa4 rfl rfl (Au (g (Ak fun _ h=>(wp 1 rfl (bB a fun m i a=>(A7 rfl Tryz.call255 (Ru b c _ i) rfl ?_))))))))
 rintro _ n ⟨rfl,j⟩
 refine ⟨_,rfl,?_⟩
 have k:=tm f j
 refine Aq 1 rfl (h (Aw (rt d rfl rfl (by cases a; exact ⟨rfl,k⟩))))
theorem SP (p:Ae) (q:Ae9) (x:Ac) (av:RO Cn p x q) (r:(List Int)) (c:IK q = some r) :
  A1 213 [x] p fun e w'=>∃ (q0:Ac) (G0:An),e = .returned q0 ∧ Bl p w' ∧ Sp p w' [Ab Ao G0 q0 r]:=by
 refine cm Tryz.func213 Tryz.ntmps213 rfl fun Q hQ f hB hS=>?_
 unfold IK at c
 refine Al 1 rfl (Ak fun _ bh=>(wp 1 rfl (BQ av Tryz.underlying155 rfl (Aq 1 rfl (bh (Ak fun _ bi=>(wp 1 rfl ?_)))))))
 have h4:=Hr c
 replace c:=B9 h4 c
 refine JE h4 rfl rfl rfl (bB c fun u5 bk c=>(ND (e:=Ao) Tryz.underlying36 rfl rfl bk hB hS fun v6 F7 w8 _ bn bo=>(Aq 1 rfl (bi (Am fun _ bp=>(Ak fun _ bq=>(wp 1 rfl (JE h4 rfl rfl rfl (Aq 2 rfl (bq (Az (AN (fun m a ad=>∃ (ae:(List Int)) (g:Int) (y:Ac) (af:An),St 60 [(0,x),(3,(iv (List.length q:Int))),(4,y),(5,(iv g))] a ∧ Bl p ad ∧ Sp p ad [Ab Ao af y ae] ∧ Ex q m ae g = some r) FU ?_ ?_))))))))))))
 ·exact fun a ha=>⟨u5,(Ag ((KD .i64 1 (List.length q:Int)) - 2)),v6,F7,ha.sb rfl,bn,(bo.sel [0] rfl),c⟩
 ·rintro z a ad ⟨ae,g,y,af,ha,ax,ay,c⟩ c5 br
  refine BB ?_ ha
  cases z with
  | zero=>exact Be c
  | succ z =>
   obtain ⟨az,a0⟩:∃ k,k = Ex q z:=⟨_,rfl⟩
   rw [Ex,← a0] at c
   refine Am fun _ bs=>Al 2 rfl (A2 rfl c (fun _ c=>?_) (fun _ c=>?_))
   ·refine Au (bs ?_)
    refine Am fun _ bt=>Az (Ak fun _ bu=>(wp 1 rfl (DX Tryz.underlying3 Tryz.underlying117 rfl rfl (bB c fun ag bv c=>(Bs rfl Tryz.call236 ax ay (ST ad (Bh g) _ bv) rfl fun c6 _ bw a1=>(Aq 1 rfl (bu (Ak fun _ bx=>(wp 2 rfl (bB c fun c7 a2 c=>(Cj (e:=Ao) (i:=0) Tryz.underlying36 rfl rfl rfl a1 rfl a2 ?_)))))))))))
    rintro c8 _ rfl c9 bz
    refine BO (i:=0) (o:=0) (vs:=[(iv 13194139533312)]) (u':=13194139533312) Ca A4 rfl rfl rfl rfl bz a2 bw a1 rfl rfl ⟨rfl,trivial⟩ rfl fun da _ b0 b1=>Ah (bx (Al 1 rfl (Az (AN (fun m a an=>∃ (t:(List Int)) (aa:Int) (u:Ac) (s:An),St 60 [(0,x),(3,(iv (List.length q:Int))),(4,u),(5,(iv g)),(6,(iv ag)),(7,(iv aa))] a ∧ Bl p an ∧ Sp p an [Ab Ao s u t] ∧ DH q g ag az m t aa = some r) FU ?_ ?_))))
    ·exact fun a ha=>⟨(BE ae g 13194139533312),0,y,af,ha.sb rfl,b0,(b1.sel [0] rfl),c⟩
    ·rintro ab a an ⟨t,aa,u,s,ha,ao,ap,c⟩ db b2
     refine BB ?_ ha
     cases ab with
     | zero=>exact Be c
     | succ ab =>
      obtain ⟨dc,a3⟩:∃ k,k = DH q g ag az ab:=⟨_,rfl⟩
      rw [DH,← a3] at c
      refine Am fun _ b3=>Al 3 rfl (A2 rfl c (fun _ c=>?_) (fun _ c=>?_))
      ·refine Au (b3 ?_)
       refine Am fun b4 b5=>?_
       obtain ⟨b6,b7,c⟩:=Ch c
       have ac:∀ (ah:(List Int)) (ai:Ac) (aq:An) (aj:Ae) (_:b6 ah = some r) (_:Bl p aj) (_:Sp p aj [Ab Ao aq ai ah]),∀ a,St 60 [(0,x),(3,(iv (List.length q:Int))),(4,ai),(5,(iv g)),(6,(iv ag)),(7,(iv aa))] a → b4 a aj:=by
        intro ah ai aq aj c b8 b9
        subst b7
        refine b5 (As (Aq 3 rfl ?_))
        rw [a3] at c
        exact fun a ha=>b2 a _ ab (AB ab) ⟨ah,(Ag (aa + 1)),ai,aq,ha.sb rfl,b8,(b9.sel [0] rfl),c⟩
       refine Az (Ak fun _ ca=>(wp 2 rfl ?_))
       have ak:=Hr c
       replace c:=B9 ak c
       refine Gp ak rfl rfl rfl (I7 rfl rfl rfl (Aq 1 rfl (ca (A2 rfl c (fun _ c=>?_) (fun _ c=>?_)))))
       ·refine AR B2 s ao ap fun cb _ v j=>?_
        have d:=KeepX.refl cb s
        refine Ax 0 rfl f d (Ax 1 rfl f d (Ax 2 rfl f d (Ax 3 rfl f d (bB c fun l cc c=>(Ad 4 rfl f d (Bv (e:=Ao) (i:=0) Tryz.underlying36 rfl rfl rfl j rfl cc ?_))))))
        rintro dd _ rfl al de
        refine Ax 6 rfl f d (Ax 7 rfl f d (bB c fun df cd c=>(Ad 8 rfl f d (BA (e:=Cn) Tryz.underlying155 rfl rfl rfl av cd ?_))))
        rintro dg _ ⟨dh,rfl,ce⟩ cf
        refine Ad 9 rfl f d (BJ EQ rfl (cf.kx v (fun b hb=>(((j.get (i:=0) rfl).2.1 b hb).1))) rfl (Ax 10 rfl f d (bB c fun n cg c=>(Ad 11 rfl f d (BA (e:=Ao) Tryz.underlying36 rfl rfl rfl ce cg ?_)))))
        rintro di _ rfl ch
        refine Ad 12 rfl f d (BJ A4 rfl (ch.kx v (fun b hb=>(((j.get (i:=0) rfl).2.1 b hb).1))) rfl (Ax 13 rfl f d (Ax 14 rfl f d (Ax 15 rfl f d (Cz (is:=[5,16]) (by kernel_rfl) rfl (Bd.2 ⟨⟨_,rfl,?_⟩,Bd.2 ⟨⟨_,rfl,?_⟩,fun _ h=>by cases h⟩⟩))))))
        ·refine BV A4 rfl al rfl ?_
         refine Ah (Ap d (Av 16 rfl (JE ak rfl rfl rfl (Ah (Ap d (Av 17 rfl (Rx rfl rfl rfl (Ah (Ap d (bB c fun ar ci c=>(Ad 18 rfl f d (Bv (e:=Ao) (i:=0) Tryz.underlying36 rfl rfl rfl j rfl ci ?_))))))))))))
         rintro dj _ rfl cj dk
         refine Av 19 rfl (BV A4 rfl cj rfl (Ah (Ap d (Ad 20 rfl f d (EA rfl rfl rfl (Ad 21 rfl f d (Tn rfl rfl rfl (bB c fun dl a4 c=>(Ad 22 rfl f d (Bv (e:=Ao) (i:=0) Tryz.underlying36 rfl rfl rfl j rfl a4 ?_))))))))))
         rintro dm _ rfl dn ck
         refine Av 23 rfl (BO (i:=0) (o:=0) (vs:=[(iv (Fr l (Ag (n + ar))))]) (u':=(Fr l (Ag (n + ar)))) Ca A4 rfl rfl rfl rfl ck a4 v j rfl rfl ⟨rfl,trivial⟩ rfl fun dp a5 cl cn=>?_)
         have co:=d.wr' a5.1 a5.2.1 (fun _ _ h=>h)
         refine Ah (Ap co (Ba ?_))
         exact jx (ac ((BE t g (Fr l (Ag (n + ar))))) u s _ c cl (cn.sel [0] rfl)) rfl
        ·refine JE ak rfl rfl rfl ?_
         refine Ah (Ap d (Cz (is:=[5,17]) (by kernel_rfl) rfl (Bd.2 ⟨⟨_,rfl,?_⟩,Bd.2 ⟨⟨_,rfl,?_⟩,fun _ h=>by cases h⟩⟩)))
         ·refine BV A4 rfl al rfl ?_
          refine Ah (Ap d (Av 17 rfl (Rx rfl rfl rfl (Ah (Ap d (bB c fun au cp c=>(Ad 18 rfl f d (Bv (e:=Ao) (i:=0) Tryz.underlying36 rfl rfl rfl j rfl cp ?_))))))))
          rintro dq _ rfl cq dr
          refine Av 19 rfl (BV A4 rfl cq rfl (Ah (Ap d (Ad 20 rfl f d (EA rfl rfl rfl (Ad 21 rfl f d (Tn rfl rfl rfl (bB c fun ds a6 c=>(Ad 22 rfl f d (Bv (e:=Ao) (i:=0) Tryz.underlying36 rfl rfl rfl j rfl a6 ?_))))))))))
          rintro dt _ rfl du cr
          refine Av 23 rfl (BO (i:=0) (o:=0) (vs:=[(iv (Fr l (Ag (n + au))))]) (u':=(Fr l (Ag (n + au)))) Ca A4 rfl rfl rfl rfl cr a6 v j rfl rfl ⟨rfl,trivial⟩ rfl fun dv a7 cs ct=>?_)
          have cu:=d.wr' a7.1 a7.2.1 (fun _ _ h=>h)
          refine Ah (Ap cu (Ba ?_))
          exact jx (ac ((BE t g (Fr l (Ag (n + au))))) u s _ c cs (ct.sel [0] rfl)) rfl
         ·refine Rx rfl rfl rfl ?_
          refine Ah (Ap d (bB c fun w cv c=>(Ad 18 rfl f d (Bv (e:=Ao) (i:=0) Tryz.underlying36 rfl rfl rfl j rfl cv ?_))))
          rintro dw _ rfl a8 dx
          refine Cz (is:=[5,19]) (by kernel_rfl) rfl (Bd.2 ⟨⟨_,rfl,?_⟩,Bd.2 ⟨⟨_,rfl,?_⟩,fun _ h=>by cases h⟩⟩)
          ·refine BV A4 rfl al rfl ?_
           refine Ah (Ap d (Av 19 rfl (BV A4 rfl a8 rfl (Ah (Ap d (Ad 20 rfl f d (EA rfl rfl rfl (Ad 21 rfl f d (Tn rfl rfl rfl (bB c fun dy a9 c=>(Ad 22 rfl f d (Bv (e:=Ao) (i:=0) Tryz.underlying36 rfl rfl rfl j rfl a9 ?_))))))))))))
           rintro dz _ rfl d0 cw
           refine Av 23 rfl (BO (i:=0) (o:=0) (vs:=[(iv (Fr l (Ag (n + w))))]) (u':=(Fr l (Ag (n + w)))) Ca A4 rfl rfl rfl rfl cw a9 v j rfl rfl ⟨rfl,trivial⟩ rfl fun d1 ba cx cy=>?_)
           have cz:=d.wr' ba.1 ba.2.1 (fun _ _ h=>h)
           refine Ah (Ap cz (Ba ?_))
           exact jx (ac ((BE t g (Fr l (Ag (n + w))))) u s _ c cx (cy.sel [0] rfl)) rfl
          ·refine BV A4 rfl a8 rfl ?_
           refine Ah (Ap d (Ad 20 rfl f d (EA rfl rfl rfl (Av 5 rfl (BV A4 rfl al rfl (Ah (Ap d (Ad 21 rfl f d (Tn rfl rfl rfl (bB c fun d2 bb c=>(Ad 22 rfl f d (Bv (e:=Ao) (i:=0) Tryz.underlying36 rfl rfl rfl j rfl bb ?_))))))))))))
           rintro d3 _ rfl d4 c0
           refine Av 23 rfl (BO (i:=0) (o:=0) (vs:=[(iv (Fr l (Ag (n + w))))]) (u':=(Fr l (Ag (n + w)))) Ca A4 rfl rfl rfl rfl c0 bb v j rfl rfl ⟨rfl,trivial⟩ rfl fun d5 bc c1 c2=>?_)
           have c3:=d.wr' bc.1 bc.2.1 (fun _ _ h=>h)
           refine Ah (Ap c3 (Ba ?_))
           exact jx (ac ((BE t g (Fr l (Ag (n + w))))) u s _ c c1 (c2.sel [0] rfl)) rfl
       ·refine Au ?_
        exact jx (ac t u s _ c ao (ap.sel [0] rfl)) rfl
      ·refine Bc (bt ?_)
       refine As (Aq 3 rfl ?_)
       rw [a0] at c
       exact fun a ha=>br a _ z (AB z) ⟨t,(Ag (g - 1)),u,s,ha.sb rfl,ao,(ap.sel [0] rfl),c⟩
   ·refine Bc (bp ?_)
    refine Al 2 rfl (Aw (rt hQ rfl rfl (by cases c; exact ⟨y,af,rfl,ax,ay.sel [0] rfl⟩)))
theorem Ql (g:Ae) (h:Ae9) (u:Ac) (y:RO Cn g u h) (r:(List Int)) (b:GZ h = some r) :
  A1 171 [u] g fun e w'=>∃ (q0:Ac) (G0:An),e = .returned q0 ∧ Bl g w' ∧ Sp g w' [Ab Ao G0 q0 r]:=by
 refine cm Tryz.func171 Tryz.ntmps171 rfl fun Q hQ f hB hS=>?_
 unfold GZ at b
 refine Al 1 rfl (Ak fun _ a6=>(wp 1 rfl (bB b fun q a7 b=>(En rfl Tryz.call213 hB hS (SP g h u (y.ro hB) _ a7) rfl fun s z w6 _ _ a8 a9=>(Bb (vs:=[]) (l:=[]) Ca Tryz.underlying36 rfl rfl rfl rfl rfl rfl a8 a9 fun ba bb ck _ bc bd=>(Aq 3 rfl (a6 (Am fun _ be=>(Ak fun _ bf=>(wp 1 rfl (BQ y Tryz.underlying155 rfl (Aq 1 rfl (bf (Az (AN (fun m a ah=>∃ (n:Int) (t:(List Int)) (j:Int) (p:Ac) (v:An),St 59 [(0,u),(3,s),(4,(iv n)),(5,p),(12,(iv (List.length h:Int))),(13,(iv j))] a ∧ Bl g ah ∧ Sp g ah [Ab Ao z s q,Ab Ao v p t] ∧ Dy h q m n t j = some r) FU ?_ ?_)))))))))))))))
 ·exact fun a ha=>⟨0,[],0,ba,bb,ha.sb rfl,bc,(bd.sel [1,0] rfl),b⟩
 ·rintro w a ah ⟨n,t,j,p,v,ha,ap,aq,b⟩ cl bg
  refine BB ?_ ha
  cases w with
  | zero=>exact Be b
  | succ w =>
   obtain ⟨cn,ar⟩:∃ k,k = Dy h q w:=⟨_,rfl⟩
   rw [Dy,← ar] at b
   refine Al 1 rfl (Am fun _ bh=>(A2 rfl b (fun _ b=>?_) (fun _ b=>?_)))
   ·refine Au (bh ?_)
    refine Am fun bi bj=>?_
    obtain ⟨ai,bk,b⟩:=Nd b
    have au:∀ (aa:Int) (ab:(List Int)) (ac:Ac) (aj:An) (ad:Ae) (_:ai aa ab = some r) (_:Bl g ad) (_:Sp g ad [Ab Ao z s q,Ab Ao aj ac ab]),∀ a,St 59 [(0,u),(3,s),(4,(iv aa)),(5,ac),(12,(iv (List.length h:Int))),(13,(iv j))] a → bi a ad:=by
     intro aa ab ac aj ad b bl bm
     subst bk
     refine bj (As (Aq 2 rfl ?_))
     rw [ar] at b
     exact fun a ha=>bg a _ w (AB w) ⟨aa,ab,(Ag (j + 1)),ac,aj,ha.sb rfl,bl,(bm.sel [0,1] rfl),b⟩
    refine Az (Al 2 rfl (Ak fun _ bn=>(wp 1 rfl (BQ y Tryz.underlying155 rfl (Aq 1 rfl (bn (Az (AN (fun m a ak=>∃ (o:Int),St 59 [(0,u),(3,s),(4,(iv n)),(5,p),(6,(iv j)),(12,(iv (List.length h:Int))),(13,(iv j)),(17,(iv (List.length h:Int))),(18,(iv o))] a ∧ Bl g ak ∧ Sp g ak [Ab Ao z s q,Ab Ao v p t] ∧ Dx h t ai n j q m o = some r) FU ?_ ?_))))))))
    ·exact fun a ha=>⟨0,ha.sb rfl,ap,(aq.sel [0,1] rfl),b⟩
    ·rintro x a ak ⟨o,ha,av,aw,b⟩ co bo
     refine BB ?_ ha
     cases x with
     | zero=>exact Be b
     | succ x =>
      obtain ⟨cp,ax⟩:∃ k,k = Dx h t ai n j q x:=⟨_,rfl⟩
      rw [Dx,← ax] at b
      refine Al 1 rfl (Am fun _ bp=>(A2 rfl b (fun _ b=>?_) (fun _ b=>?_)))
      ·refine Au (bp ?_)
       refine Am fun _ bq=>Az (Al 2 rfl (Am fun br bs=>?_))
       obtain ⟨bt,bu,b⟩:=Ch b
       have ay:∀ (al:Bool) (ae:Ae) (_:bt al = some r) (_:Bl g ae) (_:Sp g ae [Ab Ao z s q,Ab Ao v p t]),∀ a,St 59 [(0,u),(3,s),(4,(iv n)),(5,p),(6,(iv j)),(7,(iv o)),(12,(iv (List.length h:Int))),(13,(iv j)),(17,(iv (List.length h:Int))),(18,(iv o)),(47,(.bool al))] a → br a ae:=by
        intro al ae b az a0
        subst bu
        refine bs (A2 rfl b (fun _ b=>?_) (fun _ b=>?_))
        ·refine Ak fun _ bv=>?_
         refine wp 2 rfl (Bb (vs:=[(iv o)]) (l:=[o]) Ca Tryz.underlying36 rfl rfl rfl rfl rfl rfl az a0 fun cq cr bw _ bx a1=>(bB b fun bz b0 b=>(AE (i:=2) (S:=(· < bw.heap.size)) Ca Tryz.underlying36 rfl rfl rfl bx a1 rfl (a1.own_ro (i:=0) rfl) b0 fun b1 b2 cs _ b3 b4=>(Aq 1 rfl (bv (Ak fun _ b5=>(wp 2 rfl ?_)))))))
         have a2:=Hr b
         replace b:=B9 a2 b
         refine JE a2 rfl rfl rfl (Rx rfl rfl rfl (Aq 1 rfl (b5 (Bc ?_))))
         exact jx (au ((Tr .i64 n (KD .i64 1 o))) bz b1 b2 _ b b3 (b4.sel [1,2] rfl)) rfl
        ·refine Au (bq ?_)
         refine As (Aq 2 rfl ?_)
         rw [ax] at b
         exact fun a ha=>bo a _ x (AB x) ⟨(Ag (o + 1)),ha.sb rfl,az,(a0.sel [0,1] rfl),b⟩
       refine AR B2 [] av aw fun b6 _ af ag=>?_
       have c:=KeepX.refl b6 []
       refine Ax 0 rfl f c (Ax 1 rfl f c (Av 2 rfl ?_))
       have am:=Hr b
       replace b:=B9 am b
       refine Gp am rfl rfl rfl (Ah (Ap c (Av 3 rfl (I7 rfl rfl rfl (Ah (Ap c (Ad 4 rfl f c (Pv rfl rfl rfl (Ax 5 rfl f c ?_)))))))))
       rcases bE ((B3 .i64 (Br .i64 n o) 1) == 0) with d | d
       ·replace b:=B9 d b
        refine BF 6 rfl f d c (Da rfl rfl (BF 7 rfl f d c (Da rfl rfl (bB b fun ct b7 b=>(BF 8 rfl f d c (BA (e:=Cn) Tryz.underlying155 rfl rfl rfl y b7 ?_))))))
        rintro cu _ ⟨cv,rfl,b8⟩ b9
        refine BF 9 rfl f d c (BJ EQ rfl (b9.kx af (by simp)) rfl (BF 10 rfl f d c (Da rfl rfl (bB b fun ca cb b=>(BF 11 rfl f d c (BA (e:=Ao) Tryz.underlying36 rfl rfl rfl b8 cb ?_))))))
        rintro cw _ rfl cc
        refine BF 12 rfl f d c (BJ A4 rfl (cc.kx af (by simp)) rfl (BF 13 rfl f d c (Da rfl rfl (BF 14 rfl f d c (Da rfl rfl (BF 15 rfl f d c (Da rfl rfl (BF 21 rfl f d c (Da rfl rfl (BF 22 rfl f d c (Da rfl rfl (bB b fun cd ce b=>(BF 23 rfl f d c (Bv (e:=Ao) (i:=0) Tryz.underlying36 rfl rfl rfl ag rfl ce ?_))))))))))))))
        rintro cx _ rfl cf cy
        refine BF 24 rfl f d c (BJ A4 rfl (cf.kx0) rfl (Av 16 rfl (wn rfl d (JE am rfl rfl rfl (Ah (Ap c (Av 17 rfl (wn rfl d (Rx rfl rfl rfl (Ah (Ap c (bB b fun cg ch b=>(BF 18 rfl f d c (Bv (e:=Ao) (i:=0) Tryz.underlying36 rfl rfl rfl ag rfl ch ?_))))))))))))))
        rintro cz _ rfl ci c0
        refine BF 19 rfl f d c (BJ A4 rfl (ci.kx0) rfl (BF 20 rfl f d c (EA rfl rfl rfl (BF 25 rfl f d c (Pv rfl rfl rfl (Ad 26 rfl f c (Es rfl rfl d rfl (Ba ?_))))))))
        exact jx (ay (((Ag (ca + cg)) == cd)) _ b af (ag.sel [0,1] rfl)) rfl
       ·replace b:=Cf d b
        refine AZ 6 rfl f d c (AZ 7 rfl f d c (AZ 8 rfl f d c (AZ 9 rfl f d c (AZ 10 rfl f d c (AZ 11 rfl f d c (AZ 12 rfl f d c (AZ 13 rfl f d c (AZ 14 rfl f d c (AZ 15 rfl f d c (AZ 16 rfl f d c (AZ 17 rfl f d c (AZ 18 rfl f d c (AZ 19 rfl f d c (AZ 20 rfl f d c (AZ 21 rfl f d c (AZ 22 rfl f d c (AZ 23 rfl f d c (AZ 24 rfl f d c (AZ 25 rfl f d c (Ad 26 rfl f c (Ga rfl rfl d rfl (Ba ?_))))))))))))))))))))))
        exact jx (ay false _ b af (ag.sel [0,1] rfl)) rfl
      ·refine Bc ?_
       exact jx (au n t p v _ b av (aw.sel [0,1] rfl)) rfl
   ·refine Bc (be ?_)
    refine Al 2 rfl (Aw (rt hQ rfl rfl (by cases b; exact ⟨p,v,rfl,ap,aq.sel [1] rfl⟩)))
theorem Mx (a:Ae) (c:(List Int)) (d:Ac) (h:RO Ao a d c) (r:(List Int)) (b:Fx c = some r) :
  A1 212 [d] a fun e w'=>∃ (f:Ac) (j:An),e = .returned f ∧ Bl a w' ∧ Sp a w' [Ab Ao j f r]:=by
 refine cm Tryz.func212 Tryz.ntmps212 rfl fun Q k x m n=>?_
 unfold Fx at b
 refine Al 1 rfl (Ak fun _ o=>(Bb (vs:=[]) (l:=[]) Ca Tryz.underlying36 rfl rfl rfl rfl rfl rfl m n fun y z p _ g q=>(wp 1 rfl (bB b fun u9 s b=>(AE (i:=0) (S:=(· < p.heap.size)) Ca Tryz.underlying36 rfl rfl rfl g q rfl (h.ro g) s fun t u ab _ v w=>(Aq 1 rfl (o (Aw (rt k rfl rfl (by cases b; exact ⟨t,u,rfl,v,w.sel [0] rfl⟩))))))))))
theorem Kh (h:Ae) (m:Ae4) (n:Ac) (y:RO Ar h n m) (o:Ae4) (p:Ac) (z:RO Ar h p o) (a:Int) (j:(List Int)) (k:Ac) (aa:RO Ao h k j) (r:(Ae4 × Ae4 × Int × (List Int))) (b:EN m o a j = some r) :
  A1 170 [n,p,(iv a),k] h fun e w'=>∃ (q:Ac) (G0:An) (s:Ac) (G1:An) (t:Ac) (G2:An),e = .returned (.agg #[q,s,(iv r.2.2.1),t]) ∧ Bl h w' ∧ Sp h w' [Ab Ar G0 q r.1,Ab Ar G1 s r.2.1,Ab Ao G2 t r.2.2.2]:=by
 refine cm Tryz.func170 Tryz.ntmps170 rfl fun Q hQ hP hB hS=>?_
 unfold EN at b
 refine Ak fun _ ah=>Ep Bp rfl hB hS fun b2 w3 _ ai aj=>Ah (ah (Ak fun _ ak=>(Bb (vs:=[]) (l:=[]) CC Tryz.underlying26 rfl rfl rfl rfl rfl rfl ai aj fun v8 F9 al _ u am=>(wp 1 rfl (bB b fun a8 an b=>(AE (i:=0) (S:=(· < al.heap.size)) CC Tryz.underlying26 rfl rfl rfl u am rfl (y.ro u) an fun c ao a9 _ ap aq=>(Bb (vs:=[]) (l:=[]) CC Tryz.underlying26 rfl rfl rfl rfl rfl rfl ap aq fun ba bb ar _ v au=>(wp 1 rfl (bB b fun bc av b=>(AE (i:=0) (S:=(· < ar.heap.size)) CC Tryz.underlying26 rfl rfl rfl v au rfl (z.ro v) av fun d aw ax _ w ay=>(wp 2 rfl (bB b fun bd az b=>(En rfl Tryz.call212 w ay (Mx ax j k (aa.ro w) _ az) rfl fun f a0 be _ _ a1 g=>DY (zs:=[(.slice none 0 0),(.slice none 0 0),(iv 0),(.slice none 0 0)]) (out:=[c,d,(iv a),f]) (vs:=[c,d,(iv a),f]) (css:=[[c],[d],[(iv a)],[f]]) Bp Pw rfl rfl (by simp only [List.map_cons,List.map_nil,Cl ((g.own_ro (i:=2) rfl).one),Cl ((g.own_ro (i:=1) rfl).one),Cl ((g.own_ro (i:=0) rfl).one)] <;> rfl) rfl rfl (BC (i:=3) (vs:=[c,d,(iv a),f]) (cs':=[c,d,(iv a),f]) Bp rfl rfl rfl rfl a1 g rfl rfl ⟨(g.own_ro (i:=2) rfl).one,(g.own_ro (i:=1) rfl).one,rfl,(g.own_ro (i:=0) rfl).one,trivial⟩ rfl fun bf _ a2 x=>(Ah (ak (Aw ?_)))))))))))))))))
 obtain rfl:=Option.some.inj b
 exact J9 (vs:=[(.agg #[c,d,(iv a),f])]) hQ rfl ⟨Hh (i:=3) Bp rfl x rfl rfl rfl,trivial⟩ ⟨c,ao,d,aw,f,a0,rfl,a2,x.sel [2,1,0] rfl⟩
theorem LB (b:Ae) (c:Ae4) (d:Ac) (p:RO Ar b d c) (f:Ae4) (g:Ac) (q:RO Ar b g f) (h:Int) (r:((Ae4 × Ae4 × Int × (List Int)) × Bool)) (a:Gv c f h = some r) :
  A1 119 [d,g,(iv h)] b fun e w'=>∃ (u:Ac) (G0:An) (v:Ac) (G1:An) (w:Ac) (G2:An),e = .returned (.tuple #[(.agg #[u,v,(iv r.1.2.2.1),w]),(.bool r.2)]) ∧ Bl b w' ∧ Sp b w' [Ab Ar G0 u r.1.1,Ab Ar G1 v r.1.2.1,Ab Ao G2 w r.1.2.2.2]:=by
 refine cm Tryz.func119 Tryz.ntmps119 rfl fun Q x hP hB hS=>?_
 unfold Gv at a
 refine Ak fun _ aj=>Ep Bp rfl hB hS fun b2 w3 _ s al=>Aq 1 rfl (aj (Am fun _ am=>(Ak fun _ an=>(wp 3 rfl (bB a fun u9 ao a=>(Bs rfl Tryz.call169 s al (Ov w3 c d (p.ro s) f g (q.ro s) h _ ao) rfl fun ap _ j y=>(Aq 1 rfl (an (A2 rfl a (fun _ a=>?_) (fun _ a=>?_))))))))))
 ·refine Ak fun _ aq=>?_
  refine DY (zs:=[(.slice none 0 0),(.slice none 0 0),(iv 0),(.slice none 0 0)]) (out:=[(.slice none 0 0),(.slice none 0 0),(iv 0),(.slice none 0 0)]) (vs:=[]) (css:=[]) Bp Pw rfl rfl rfl rfl rfl (Gq 0 Bp rfl rfl j y rfl rfl rfl fun bh _ ar z=>(Aq 1 rfl (aq (Aw ?_))))
  have au:=z.push0 (r:=Ab Ar [] (.slice none 0 0) []) rfl fun _=>.inl ⟨rfl,rfl,rfl⟩
  have av:=au.push0 (r:=Ab Ar [] (.slice none 0 0) []) rfl fun _=>.inl ⟨rfl,rfl,rfl⟩
  have aw:=av.push0 (r:=Ab Ao [] (.slice none 0 0) []) rfl fun _=>.inl ⟨rfl,rfl,rfl⟩
  obtain rfl:=Option.some.inj a
  exact J9 (vs:=[(.agg #[(.slice none 0 0),(.slice none 0 0),(iv 0),(.slice none 0 0)]),(.bool false)]) x rfl ⟨Hh (i:=0) Bp rfl z rfl rfl rfl,Ki rfl,trivial⟩ ⟨(.slice none 0 0),[],(.slice none 0 0),[],(.slice none 0 0),[],rfl,ar,aw.sel [2,1,0] rfl⟩
 ·refine Au (am ?_)
  refine Ak fun _ ax=>wp 5 rfl (bB a fun ay az a=>(En rfl Tryz.call172 j y (SL ap c d (p.ro j) f g (q.ro j) _ az) rfl fun a0 bi a1 _ _ a2 aa=>(bB a fun a3 a4 a=>(En rfl Tryz.call171 a2 aa (Ql a1 ay a0 (aa.own_ro (i:=0) rfl) _ a4) rfl fun a5 bj a6 _ _ k ab=>(bB a fun t a7 a=>(A7 rfl Tryz.call170 (Kh a6 c d (p.ro k) f g (q.ro k) h a3 a5 (ab.own_ro (i:=0) rfl) _ a7) rfl ?_))))))
  rintro _ bk ⟨l,a8,m,a9,n,ba,rfl,ac,bb⟩
  refine ⟨_,rfl,?_⟩
  have bc:=tm k ac
  have o:=ab.join ac bb k.size
  refine BC (i:=5) (vs:=[l,m,(iv t.2.2.1),n]) (cs':=[l,m,(iv t.2.2.1),n]) Bp rfl rfl rfl rfl bc o rfl rfl ⟨(o.own_ro (i:=0) rfl).one,(o.own_ro (i:=1) rfl).one,rfl,(o.own_ro (i:=2) rfl).one,trivial⟩ rfl fun bl _ bd ad=>Aq 1 rfl (ax (Aw ?_))
  obtain rfl:=Option.some.inj a
  exact J9 (vs:=[(.agg #[l,m,(iv t.2.2.1),n]),(.bool true)]) x rfl ⟨Hh (i:=5) Bp rfl ad rfl rfl rfl,Ki rfl,trivial⟩ ⟨l,a8,m,a9,n,ba,rfl,bd,ad.sel [0,1,2] rfl⟩
theorem RQ (d:Ae) (g:(List Int)) (h:Ac) (q:RO Ao d h g) (f:Int) (r:Bool) (b:Il g f = some r) :
  A1 214 [h,(iv f)] d fun e w'=>e = .returned (.bool r) ∧ Bl d w':=by
 refine cm Tryz.func214 Tryz.ntmps214 rfl fun Q u hP hB hS=>?_
 unfold Il at b
 refine Al 1 rfl (Al 1 rfl (Am fun _ ae=>(Ak fun _ af=>(wp 1 rfl (BQ q Tryz.underlying36 rfl (Aq 1 rfl (af (Az (AN (fun m a n=>∃ (i:Int) (j:Int),St 35 [(0,h),(1,(iv f)),(5,(iv i)),(8,h),(9,(iv (List.length g:Int))),(10,(iv j))] a ∧ Bl d n ∧ Sp d n [] ∧ Ei g f m i j = some r) FU ?_ ?_)))))))))
 ·exact fun a ha=>⟨0,0,ha.sb rfl,hB,(hS.sel [] rfl),b⟩
 ·rintro l a n ⟨i,j,ha,s,ag,b⟩ az ah
  refine BB ?_ ha
  cases l with
  | zero=>exact Be b
  | succ l =>
   obtain ⟨a0,v⟩:∃ k,k = Ei g f l:=⟨_,rfl⟩
   rw [Ei,← v] at b
   refine Al 1 rfl (Am fun _ ai=>(A2 rfl b (fun _ b=>?_) (fun _ b=>?_)))
   ·refine Au (ai ?_)
    refine Am fun _ aj=>Az (Ak fun _ ak=>(bB b fun o al b=>(BM (e:=Ao) Tryz.underlying36 rfl rfl rfl q al ?_)))
    rintro a1 _ rfl am
    refine BV A4 rfl (am.ro s) rfl (Aq 1 rfl (ak (Am fun _ an=>(Am fun ao ap=>?_))))
    obtain ⟨aq,ar,b⟩:=Ch b
    have w:∀ (t:Bool) (p:Ae) (_:aq t = some r) (_:Bl d p) (_:Sp d p []),∀ a,St 35 [(0,h),(1,(iv f)),(5,(iv i)),(7,(iv o)),(8,h),(9,(iv (List.length g:Int))),(10,(iv j)),(25,(.bool t))] a → ao a p:=by
     intro t p b x au
     subst ar
     refine ap (A2 rfl b (fun _ b=>?_) (fun _ b=>?_))
     ·refine Al 1 rfl ?_
      refine Aw (rt u rfl rfl (by cases b; exact ⟨rfl,x⟩))
     ·refine Au (an ?_)
      refine As (wp 2 rfl ?_)
      have y:=Hr b
      replace b:=B9 y b
      refine JE y rfl rfl rfl (Rx rfl rfl rfl (Aq 1 rfl (aj (As (Aq 2 rfl ?_)))))
      rw [v] at b
      exact fun a ha=>ah a _ l (AB l) ⟨(Tr .i64 i (KD .i64 1 o)),(Ag (j + 1)),ha.sb rfl,x,(au.sel [] rfl),b⟩
    refine As (wp 3 rfl (bB b fun av aw b=>(Bs rfl Tryz.call60 s ag (Cs n o 0 (Ag (f - 1)) _ aw) rfl fun a2 _ z aa=>(wp 2 rfl ?_))))
    rcases bE (!av) with c | c
    ·replace b:=B9 c b
     refine wo rfl c (wo rfl c (wo rfl c (wo rfl c (wo rfl c (AA rfl rfl c rfl (Ah ?_))))))
     exact jx (w true _ b z (aa.sel [] rfl)) rfl
    ·replace b:=Cf c b
     refine wn rfl c (wp 1 rfl (wn rfl c (wp 1 rfl (wn rfl c ?_))))
     have ab:=Hr b
     replace b:=B9 ab b
     refine Gp ab rfl rfl rfl (wn rfl c (I7 rfl rfl rfl (wn rfl c (wp 1 rfl (A6 rfl rfl c rfl (Ah ?_))))))
     exact jx (w (((B3 .i64 (Br .i64 i o) 1) == 1)) _ b z (aa.sel [] rfl)) rfl
   ·refine Bc (ae ?_)
    refine Ak fun _ ax=>wp 1 rfl (BQ q Tryz.underlying36 rfl (Aq 3 rfl (ax (Aw (rt u rfl rfl (by cases b; exact ⟨rfl,s⟩))))))
theorem KH (i:Ae) (f:(Ae4 × Ae4 × Int × (List Int))) (n:Ac) (o:RO Ar i n f.1) (p:Ac) (x:RO Ar i p f.2.1) (q:Ac) (aa:RO Ao i q f.2.2.2) (r:Bool) (b:Fu f = some r) :
  A1 173 [(.agg #[n,p,(iv f.2.2.1),q])] i fun e w'=>e = .returned (.bool r) ∧ Bl i w':=by
 refine cm Tryz.func173 Tryz.ntmps173 rfl fun Q hQ hP hB hS=>?_
 unfold Fu at b
 refine Ak fun _ ae=>CM rfl hB hS fun b2 w3 _ y z=>Aq 1 rfl (ae (Am fun K7 ah=>?_))
 obtain ⟨ai,aj,b⟩:=Ch b
 have k:∀ (s:Bool) (l:Ae) (_:ai s = some r) (_:Bl i l) (_:Sp i l []),∀ a,St 33 [(2,(.bool s))] a → K7 a l:=by
  intro s l b ak a2
  subst aj
  refine ah (Aw (rt hQ rfl rfl (by cases b; exact ⟨rfl,ak⟩)))
 refine As (Bq E2 rfl (AU 0 Cp rfl z rfl rfl (bB b fun al am b=>(Bs rfl Tryz.call43 y z (GK w3 f.1 n (o.ro y) _ am) rfl fun an _ t u=>(wp 1 rfl ?_)))))
 rcases bE al with g | g
 ·replace b:=B9 g b
  refine wn rfl g (Bq KZ rfl (wn rfl g (AU 0 Cp rfl u rfl rfl (wn rfl g (bB b fun ao ap b=>(Bs rfl Tryz.call43 t u (GK an f.2.1 p (x.ro t) _ ap) rfl fun aq _ v j=>(AA rfl rfl g rfl (wp 1 rfl ?_))))))))
  rcases bE ao with c | c
  ·replace b:=B9 c b
   refine wn rfl c (Bq E2 rfl (wn rfl c (AU 0 Cp rfl j rfl rfl (wn rfl c (BQ o Tryz.underlying26 rfl (wn rfl c (Bq KZ rfl (wn rfl c (AU 0 Cp rfl j rfl rfl (wn rfl c (BQ x Tryz.underlying26 rfl (wn rfl c (wp 1 rfl (AA rfl rfl c rfl (wp 1 rfl ?_)))))))))))))))
   rcases bE ((List.length f.1:Int) == (List.length f.2.1:Int)) with h | h
   ·replace b:=B9 h b
    refine wn rfl h (Bq KY rfl (wn rfl h (AU 0 A4 rfl j rfl rfl (wn rfl h (bB b fun ar au b=>(Bs rfl Tryz.call60 v j (Cs aq f.2.2.1 1 64 _ au) rfl fun av _ w m=>(AA rfl rfl h rfl (wp 1 rfl ?_))))))))
    rcases bE ar with d | d
    ·replace b:=B9 d b
     refine wn rfl d (Bq Gz rfl (wn rfl d (AU 0 EQ rfl m rfl rfl (wn rfl d (Bq E2 rfl (wn rfl d (AU 0 Cp rfl m rfl rfl (wn rfl d (BQ o Tryz.underlying26 rfl (wn rfl d (bB b fun aw ax b=>(Bs rfl Tryz.call214 w m (RQ av f.2.2.2 q (aa.ro w) (List.length f.1:Int) _ ax) rfl fun a3 _ ay az=>(AA rfl rfl d rfl (Aq 1 rfl ?_))))))))))))))
     exact jx (k aw _ b ay (az.sel [] rfl)) rfl
    ·replace b:=Cf d b
     refine wo rfl d (wo rfl d (wo rfl d (wo rfl d (wo rfl d (wo rfl d (A6 rfl rfl d rfl (Aq 1 rfl ?_)))))))
     exact jx (k false _ b w (m.sel [] rfl)) rfl
   ·replace b:=Cf h b
    refine wo rfl h (wo rfl h (wo rfl h (A6 rfl rfl h rfl (wp 1 rfl (wo rfl rfl (wo rfl rfl (wo rfl rfl (wo rfl rfl (wo rfl rfl (wo rfl rfl (A6 rfl rfl rfl rfl (Aq 1 rfl ?_))))))))))))
    exact jx (k false _ b v (j.sel [] rfl)) rfl
  ·replace b:=Cf c b
   refine wo rfl c (wo rfl c (wo rfl c (wo rfl c (wo rfl c (wo rfl c (wo rfl c (A6 rfl rfl c rfl (wp 1 rfl (wo rfl rfl (wo rfl rfl (wo rfl rfl (A6 rfl rfl rfl rfl (wp 1 rfl (wo rfl rfl (wo rfl rfl (wo rfl rfl (wo rfl rfl (wo rfl rfl (wo rfl rfl (A6 rfl rfl rfl rfl (Aq 1 rfl ?_)))))))))))))))))))))
   exact jx (k false _ b v (j.sel [] rfl)) rfl
 ·replace b:=Cf g b
  refine wo rfl g (wo rfl g (wo rfl g (A6 rfl rfl g rfl (wp 1 rfl (wo rfl rfl (wo rfl rfl (wo rfl rfl (wo rfl rfl (wo rfl rfl (wo rfl rfl (wo rfl rfl (A6 rfl rfl rfl rfl (wp 1 rfl (wo rfl rfl (wo rfl rfl (wo rfl rfl (A6 rfl rfl rfl rfl (wp 1 rfl (wo rfl rfl (wo rfl rfl (wo rfl rfl (wo rfl rfl (wo rfl rfl (wo rfl rfl (A6 rfl rfl rfl rfl (Aq 1 rfl ?_))))))))))))))))))))))))))
  exact jx (k false _ b t (u.sel [] rfl)) rfl
theorem SM (g:Ae) (f:(Ae4 × Ae4 × Int × (List Int))) (n:Ac) (aa:RO Ar g n f.1) (o:Ac) (ab:RO Ar g o f.2.1) (i:Ac) (v:RO Ao g i f.2.2.2) (r:Int) (b:II f = some r) :
  A1 174 [(.agg #[n,o,(iv f.2.2.1),i])] g fun e w'=>e = .returned (iv r) ∧ Bl g w':=by
 refine cm Tryz.func174 Tryz.ntmps174 rfl fun Q hQ c hB hS=>?_
 unfold II at b
 refine Ak fun _ af=>CM rfl hB hS fun w w3 _ ag x=>Aq 1 rfl (af (Al 1 rfl (Am fun _ ah=>(Ak fun _ ai=>(Bq Gz rfl (AU 0 EQ rfl x rfl rfl (BQ v Tryz.underlying36 rfl (Aq 1 rfl (ai (Az (AN (fun m a p=>∃ (j:Int) (l:Int),St 29 [(1,(.pointer (some ⟨w,0,none⟩))),(3,(iv j)),(7,i),(8,(iv (List.length f.2.2.2:Int))),(9,(iv l))] a ∧ Bl g p ∧ Sp g p [A9 w 128 [n,o,(iv f.2.2.1),i]] ∧ Ev f m j l = some r) FU ?_ ?_)))))))))))
 ·exact fun a ha=>⟨0,0,ha.sb rfl,ag,(x.sel [0] rfl),b⟩
 ·rintro h a p ⟨j,l,ha,q,aj,b⟩ a4 ak
  refine BB ?_ ha
  cases h with
  | zero=>exact Be b
  | succ h =>
   obtain ⟨a5,y⟩:∃ k,k = Ev f h:=⟨_,rfl⟩
   rw [Ev,← y] at b
   refine Al 1 rfl (Am fun _ al=>(A2 rfl b (fun _ b=>?_) (fun _ b=>?_)))
   ·refine Au (al ?_)
    refine Am fun _ am=>Az (Ak fun _ an=>(wp 1 rfl (bB b fun a6 ao b=>(BM (e:=Ao) Tryz.underlying36 rfl rfl rfl v ao ?_))))
    rintro a7 _ rfl ap
    refine BV A4 rfl (ap.ro q) rfl (Aq 2 rfl (an (AR B2 [] q aj fun z _ s t=>?_)))
    have d:=KeepX.refl z []
    refine Ax 0 rfl c d (Ad 1 rfl c d (C5 E2 rfl (Ad 2 rfl c d (CJ 0 Cp rfl t rfl (by simp) (Ax 3 rfl c d (bB b fun aq ar b=>(Ad 4 rfl c d (BA (e:=Ar) Tryz.underlying26 rfl rfl rfl aa ar ?_))))))))
    rintro a8 _ rfl au
    refine Ad 5 rfl c d (BJ Bt rfl (au.kx s (by simp)) rfl (Ad 6 rfl c d (C5 KZ rfl (Ad 7 rfl c d (CJ 0 Cp rfl t rfl (by simp) (Ax 8 rfl c d (bB b fun av aw b=>(Ad 9 rfl c d (BA (e:=Ar) Tryz.underlying26 rfl rfl rfl ab aw ?_)))))))))
    rintro a9 _ rfl ax
    refine Ad 10 rfl c d (BJ Bt rfl (ax.kx s (by simp)) rfl (Av 11 rfl (bB b fun ay az b=>(Bs rfl Tryz.call183 s t (Hg z aq av _ az) rfl fun ba a0 a1 a2=>?_))))
    have u:=d.ext a0
    refine Ah (Ap u (Ad 12 rfl c u (EA rfl rfl rfl (Ad 13 rfl c u (AD rfl rfl (Ba (am (As (Aq 2 rfl ?_)))))))))
    rw [y] at b
    exact fun a ha=>ak a _ h (AB h) ⟨(Ag (j + ay)),(Ag (l + 1)),ha.sb rfl,a1,(a2.sel [0] rfl),b⟩
   ·refine Bc (ah ?_)
    refine Al 2 rfl (Aw (rt hQ rfl rfl (by cases b; exact ⟨rfl,q⟩)))
theorem SQ (c:Ae) (b:(Ae4 × Ae4 × Int × (List Int))) (f:Ac) (j:RO Ar c f b.1) (g:Ac) (k:RO Ar c g b.2.1) (h:Ac) (l:RO Ao c h b.2.2.2) (r:(Int × Bool)) (a:H8 b = some r) :
  A1 121 [(.agg #[f,g,(iv b.2.2.1),h])] c fun e w'=>e = .returned (.tuple #[(iv r.1),(.bool r.2)]) ∧ Bl c w':=by
 refine cm Tryz.func121 Tryz.ntmps121 rfl fun Q m hP o p=>?_
 unfold H8 at a
 refine Ak fun _ q=>CM rfl o p fun b2 s _ i n=>Aq 2 rfl (q (Am fun _ t=>(Ak fun _ u=>(AU 0 Bp rfl n rfl rfl (bB a fun u9 v a=>(Bs rfl Tryz.call173 i n (KH s b f (j.ro i) g (k.ro i) h (l.ro i) _ v) rfl fun w _ d x=>(Aq 1 rfl (u (A2 rfl a (fun _ a=>?_) (fun _ a=>?_))))))))))
 ·refine Al 2 rfl ?_
  refine Aw (rt m rfl rfl (by cases a; exact ⟨rfl,d⟩))
 ·refine Au (t ?_)
  refine Ak fun _ y=>AU 0 Bp rfl x rfl rfl (bB a fun af z a=>(A7 rfl Tryz.call174 (SM w b f (j.ro d) g (k.ro d) h (l.ro d) _ z) rfl ?_))
  rintro _ ag ⟨rfl,aa⟩
  refine ⟨_,rfl,?_⟩
  have ab:=tm d aa
  refine Aq 2 rfl (y (Aw (rt m rfl rfl (by cases a; exact ⟨rfl,ab⟩))))
theorem J6 (b:Ae) (h:Tab b) (c:Int) (f:Bool) (r:(List Aj)) (a:Fw c f = some r) :
  A1 120 [(iv c),(.bool f)] b fun e w'=>e = .returned (.string (B5 r)) ∧ Bl b w':=by
 refine cm Tryz.func120 Tryz.ntmps120 rfl fun Q g n d _=>?_
 unfold Fw at a
 refine Al 1 rfl (Am fun _ i=>(Al 1 rfl (A2 rfl a (fun _ a=>?_) (fun _ a=>?_))))
 ·refine Ak fun _ j=>?_
  refine wp 1 rfl (bB a fun o k a=>(A7 rfl Tryz.call130 (E4 b (h.st d) c _ k) rfl ?_))
  rintro _ p ⟨rfl,l⟩
  refine ⟨_,rfl,?_⟩
  have m:=tm d l
  refine Aq 1 rfl (j (Aw (rt g rfl rfl (by cases a; exact ⟨rfl,m⟩))))
 ·refine Au (i ?_)
  refine Al 1 rfl (Aw (rt g rfl rfl (by cases a; exact ⟨rfl,d⟩)))
theorem HD (c:Ae) (d:Ae4) (j:Ac) (y:RO Ar c j d) (g:Ae4) (n:Ac) (ac:RO Ar c n g) (f:Int) (r:((Ae4 × Ae4 × Int × (List Int)) × Bool)) (b:EV d g f = some r) :
  A1 123 [j,n,(iv f)] c fun e w'=>∃ (q0:Ac) (G0:An) (q1:Ac) (G1:An) (q2:Ac) (G2:An),e = .returned (.tuple #[(.agg #[q0,q1,(iv r.1.2.2.1),q2]),(.bool r.2)]) ∧ Bl c w' ∧ Sp c w' [Ab Ar G0 q0 r.1.1,Ab Ar G1 q1 r.1.2.1,Ab Ao G2 q2 r.1.2.2.2]:=by
 refine cm Tryz.func123 Tryz.ntmps123 rfl fun Q hQ hP hB hS=>?_
 unfold EV at b
 refine Ak fun _ ax=>Ep Bp rfl hB hS fun b2 w3 _ z az=>Aq 1 rfl (ax (Am fun _ a0=>(Ak fun _ a1=>(wp 3 rfl (bB b fun u9 a2 b=>(Bs rfl Tryz.call169 z az (Ov w3 d j (y.ro z) g n (ac.ro z) f _ a2) rfl fun b1 _ ai aj=>(Aq 1 rfl (a1 (A2 rfl b (fun _ b=>?_) (fun _ b=>?_))))))))))
 ·refine Ak fun _ a3=>?_
  refine DY (zs:=[(.slice none 0 0),(.slice none 0 0),(iv 0),(.slice none 0 0)]) (out:=[(.slice none 0 0),(.slice none 0 0),(iv 0),(.slice none 0 0)]) (vs:=[]) (css:=[]) Bp Pw rfl rfl rfl rfl rfl (Gq 0 Bp rfl rfl ai aj rfl rfl rfl fun b3 _ a4 ak=>(Aq 1 rfl (a3 (Aw ?_))))
  have a5:=ak.push0 (r:=Ab Ar [] (.slice none 0 0) []) rfl fun _=>.inl ⟨rfl,rfl,rfl⟩
  have a6:=a5.push0 (r:=Ab Ar [] (.slice none 0 0) []) rfl fun _=>.inl ⟨rfl,rfl,rfl⟩
  have a7:=a6.push0 (r:=Ab Ao [] (.slice none 0 0) []) rfl fun _=>.inl ⟨rfl,rfl,rfl⟩
  obtain rfl:=Option.some.inj b
  exact J9 (vs:=[(.agg #[(.slice none 0 0),(.slice none 0 0),(iv 0),(.slice none 0 0)]),(.bool false)]) hQ rfl ⟨Hh (i:=0) Bp rfl ak rfl rfl rfl,Ki rfl,trivial⟩ ⟨(.slice none 0 0),[],(.slice none 0 0),[],(.slice none 0 0),[],rfl,a4,a7.sel [2,1,0] rfl⟩
 ·refine Au (a0 ?_)
  refine Ak fun _ a8=>Bb (vs:=[]) (l:=[]) Ca Tryz.underlying36 rfl rfl rfl rfl rfl rfl ai aj fun a9 ba b4 _ bb bc=>Aq 1 rfl (a8 (Am fun _ bd=>(Ak fun _ be=>(wp 1 rfl (BQ y Tryz.underlying26 rfl (Aq 1 rfl (be (Az (AN (fun m a q=>∃ (s:(List Int)) (h:Int) (t:Ac) (al:An),St 32 [(0,j),(1,n),(2,(iv f)),(6,(.pointer (some ⟨b2,0,none⟩))),(8,t),(18,(iv (List.length d:Int))),(19,(iv h))] a ∧ Bl c q ∧ Sp c q [A9 b2 128 [(.slice none 0 0),(.slice none 0 0),(iv 0),(.slice none 0 0)],Ab Ao al t s] ∧ Dg d g f m s h = some r) FU ?_ ?_)))))))))
  ·exact fun a ha=>⟨[],0,a9,ba,ha.sb rfl,bb,(bc.sel [1,0] rfl),b⟩
  ·rintro o a q ⟨s,h,t,al,ha,p,aa,b⟩ b5 bf
   refine BB ?_ ha
   cases o with
   | zero=>exact Be b
   | succ o =>
    obtain ⟨b6,am⟩:∃ k,k = Dg d g f o:=⟨_,rfl⟩
    rw [Dg,← am] at b
    refine Al 1 rfl (Am fun _ bg=>(A2 rfl b (fun _ b=>?_) (fun _ b=>?_)))
    ·refine Au (bg ?_)
     refine Am fun _ bh=>Az (Al 2 rfl (As (wp 2 rfl (Bb (vs:=[(iv h)]) (l:=[h]) Ca Tryz.underlying36 rfl rfl rfl rfl rfl rfl p aa fun b7 b8 bi _ bj an=>(bB b fun bk bl b=>(AE (i:=2) (S:=(· < bi.heap.size)) Ca Tryz.underlying36 rfl rfl rfl bj an rfl (an.own_ro (i:=0) rfl) bl fun bm bn b9 _ bo bp=>(Aq 1 rfl (bh (As (Aq 2 rfl ?_))))))))))
     rw [am] at b
     exact fun a ha=>bf a _ o (AB o) ⟨bk,(Ag (h + 1)),bm,bn,ha.sb rfl,bo,(bp.sel [1,2] rfl),b⟩
    ·refine Bc (bd ?_)
     refine Ak fun _ bq=>wp 4 rfl (bB b fun ab br b=>(A7 rfl Tryz.call170 (Kh q d j (y.ro p) g n (ac.ro p) f s t (aa.own_ro (i:=1) rfl) _ br) rfl ?_))
     rintro _ ca ⟨u,bs,v,bt,w,bu,rfl,ao,bv⟩
     refine ⟨_,rfl,?_⟩
     have bw:=tm p ao
     have x:=aa.join ao bv p.size
     refine BC (i:=3) (vs:=[u,v,(iv ab.2.2.1),w]) (cs':=[u,v,(iv ab.2.2.1),w]) Bp rfl rfl rfl rfl bw x rfl rfl ⟨(x.own_ro (i:=0) rfl).one,(x.own_ro (i:=1) rfl).one,rfl,(x.own_ro (i:=2) rfl).one,trivial⟩ rfl fun cb _ bx ap=>Aq 1 rfl (bq (Aw ?_))
     obtain rfl:=Option.some.inj b
     exact J9 (vs:=[(.agg #[u,v,(iv ab.2.2.1),w]),(.bool true)]) hQ rfl ⟨Hh (i:=3) Bp rfl ap rfl rfl rfl,Ki rfl,trivial⟩ ⟨u,bs,v,bt,w,bu,rfl,bx,ap.sel [0,1,2] rfl⟩
theorem PF (b:Ae) (c:Int) (r:Bool) (a:I5 c = some r) :
  A1 178 [(iv c)] b fun e w'=>e = .returned (.bool r) ∧ Bl b w':=by
 refine cm Tryz.func178 Tryz.ntmps178 rfl fun Q d k f _=>?_
 unfold I5 at a
 refine Al 1 rfl (Ak fun _ g=>(wp 1 rfl (bB a fun l h a=>(A7 rfl Tryz.call60 (Cs b c 0 80 _ h) rfl ?_))))
 rintro _ m ⟨rfl,i⟩
 refine ⟨_,rfl,?_⟩
 have j:=tm f i
 refine Aq 1 rfl (g (Aw (rt d rfl rfl (by cases a; exact ⟨rfl,j⟩))))
theorem MO (q:Ae) (g:(Ae4 × Ae4 × Int × (List Int))) (z:Ac) (ap:RO Ar q z g.1) (aa:Ac) (aq:RO Ar q aa g.2.1) (v:Ac) (af:RO Ao q v g.2.2.2) (r:(List Ae6)) (c:H6 g = some r) :
  A1 219 [(.agg #[z,aa,(iv g.2.2.1),v])] q fun e w'=>∃ (q0:Ac) (G0:An),e = .returned q0 ∧ Bl q w' ∧ Sp q w' [Ab C3 G0 q0 r]:=by
 refine cm Tryz.func219 Tryz.ntmps219 rfl fun Q hQ d hB hS=>?_
 unfold H6 at c
 refine Ak fun _ ax=>CM rfl hB hS fun s w3 _ ay az=>Aq 1 rfl (ax (Ak fun _ a0=>(Bb (vs:=[]) (l:=[]) Rd Tryz.underlying184 rfl rfl rfl rfl rfl rfl ay az fun v8 F9 bq _ a3 ah=>(Aq 1 rfl (a0 (Am fun _ a4=>(Ak fun _ a5=>(Bq Gz rfl (AU 1 EQ rfl ah rfl rfl (BQ af Tryz.underlying36 rfl (Aq 1 rfl (a5 (Az (AN (fun m a ab=>∃ (ac:(List Ae6)) (w:Int) (x:Ac) (t:An),St 33 [(1,(.pointer (some ⟨s,0,none⟩))),(3,x),(8,v),(9,(iv (List.length g.2.2.2:Int))),(10,(iv w))] a ∧ Bl q ab ∧ Sp q ab [A9 s 128 [z,aa,(iv g.2.2.1),v],Ab C3 t x ac] ∧ Fo g m ac w = some r) FU ?_ ?_))))))))))))))
 ·exact fun a ha=>⟨[],0,v8,F9,ha.sb rfl,a3,(ah.sel [1,0] rfl),c⟩
 ·rintro u a ab ⟨ac,w,x,t,ha,ad,ai,c⟩ br a6
  refine BB ?_ ha
  cases u with
  | zero=>exact Be c
  | succ u =>
   obtain ⟨bs,aj⟩:∃ k,k = Fo g u:=⟨_,rfl⟩
   rw [Fo,← aj] at c
   refine Al 1 rfl (Am fun _ a7=>(A2 rfl c (fun _ c=>?_) (fun _ c=>?_)))
   ·refine Au (a7 ?_)
    refine Am fun _ a8=>Az (Ak fun _ a9=>(wp 1 rfl (bB c fun bt ba c=>(BM (e:=Ao) Tryz.underlying36 rfl rfl rfl af ba ?_))))
    rintro bu _ rfl bb
    refine BV A4 rfl (bb.ro ad) rfl (Aq 2 rfl (a9 (AR B2 t ad ai fun ak _ y n=>?_)))
    have f:=KeepX.refl ak t
    refine Ax 0 rfl d f (Ad 1 rfl d f (C5 E2 rfl (Ad 2 rfl d f (CJ 0 Cp rfl n rfl (n.disj (i:=0) (j:=1) rfl rfl rfl s (by simp [A9])) (Ax 3 rfl d f (bB c fun o bc c=>(Ad 4 rfl d f (BA (e:=Ar) Tryz.underlying26 rfl rfl rfl ap bc ?_))))))))
    rintro bv _ rfl bd
    refine Ad 5 rfl d f (BJ Bt rfl (bd.kx y (fun b hb=>(((n.get (i:=1) rfl).2.1 b hb).1))) rfl (Ad 6 rfl d f (C5 KZ rfl (Ad 7 rfl d f (CJ 0 Cp rfl n rfl (n.disj (i:=0) (j:=1) rfl rfl rfl s (by simp [A9])) (Ax 8 rfl d f (bB c fun p be c=>(Ad 9 rfl d f (BA (e:=Ar) Tryz.underlying26 rfl rfl rfl aq be ?_)))))))))
    rintro bw _ rfl bf
    refine Ad 10 rfl d f (BJ Bt rfl (bf.kx y (fun b hb=>(((n.get (i:=1) rfl).2.1 b hb).1))) rfl (Ad 11 rfl d f (C5 KY rfl (Ad 12 rfl d f (CJ 0 A4 rfl n rfl (n.disj (i:=0) (j:=1) rfl rfl rfl s (by simp [A9])) (Ad 13 rfl d f (HW (zs:=[(iv 0),(iv 0),(iv 0),(iv 0),(iv 0)]) (out:=[(iv o.1),(iv o.2),(iv p.1),(iv p.2),(iv g.2.2.1)]) (vs:=[(.agg #[(iv o.1),(iv o.2)]),(.agg #[(iv p.1),(iv p.2)]),(iv g.2.2.1)]) (css:=[[(iv o.1),(iv o.2)],[(iv p.1),(iv p.2)],[(iv g.2.2.1)]]) Cy Zc rfl rfl rfl rfl rfl (Av 14 rfl (Bb (vs:=[(.agg #[(iv o.1),(iv o.2),(iv p.1),(iv p.2),(iv g.2.2.1)])]) (l:=[(o,p,g.2.2.1)]) Rd Tryz.underlying184 rfl rfl rfl rfl rfl rfl (Bg ak) (Sep.nil _ _) fun bx bz bg ae _ bh=>?_)))))))))
    have bi:=tm y ae
    have al:=n.join ae bh y.size
    have am:=f.ext ae
    refine Ah (Ap am (Av 15 rfl (bB c fun bj bk c=>(AE (i:=2) (S:=(· < bg.heap.size)) Rd Tryz.underlying184 rfl rfl rfl bi al rfl (al.own_ro (i:=0) rfl) bk fun bl bm b0 an bn bo=>?_))))
    have ao:=am.wr' an.1 an.2.1 (fun _ _ h=>h)
    refine Ah (Ap ao (Ad 16 rfl d ao (AD rfl rfl (Ba (a8 (As (Aq 2 rfl ?_)))))))
    rw [aj] at c
    exact fun a ha=>a6 a _ u (AB u) ⟨bj,(Ag (w + 1)),bl,bm,ha.sb rfl,bn,(bo.sel [1,2] rfl),c⟩
   ·refine Bc (a4 ?_)
    refine Al 2 rfl (Aw (rt hQ rfl rfl (by cases c; exact ⟨x,t,rfl,ad,ai.sel [1] rfl⟩)))
theorem UV (o:Ae) (a:Ae6) (b:Ae6) (r:((Int × Int) × (Int × Int) × Int × Int)) (p:Lt a b = some r) :
  A1 272 [(.agg #[(iv a.1.1),(iv a.1.2),(iv a.2.1.1),(iv a.2.1.2),(iv a.2.2)]),(.agg #[(iv b.1.1),(iv b.1.2),(iv b.2.1.1),(iv b.2.1.2),(iv b.2.2)])] o fun e w'=>e = .returned (.tuple #[(.agg #[(iv r.1.1),(iv r.1.2)]),(.agg #[(iv r.2.1.1),(iv r.2.1.2)]),(iv r.2.2.1),(iv r.2.2.2)]) ∧ Bl o w':=by
 refine cm Tryz.func272 Tryz.ntmps272 rfl fun Q x d y z=>?_
 unfold Lt at p
 refine Ak fun _ aa=>CM rfl y z fun b2 w3 _ ab ac=>CM rfl ab ac fun b7 w8 _ ad ae=>Ep Bt rfl ad ae fun q a3 _ af ag=>Ep Bt rfl af ag fun s a4 _ ah m=>Aq 2 rfl (aa (Ak fun _ ai=>(Bq FD rfl (Bq CL rfl (AU 3 A4 rfl m rfl rfl (Bq FD rfl (Bq CL rfl (AU 2 A4 rfl m rfl rfl (wp 1 rfl (Bq FD rfl (Bq CK rfl (AU 3 A4 rfl m rfl rfl (Bq FD rfl (Bq CK rfl (AU 2 A4 rfl m rfl rfl (wp 1 rfl (DY (zs:=[(iv 0),(iv 0)]) (out:=[(iv (Ag (a.1.1 - b.1.1))),(iv (Ag (a.1.2 - b.1.2)))]) (vs:=[(iv (Ag (a.1.1 - b.1.1))),(iv (Ag (a.1.2 - b.1.2)))]) (css:=[[(iv (Ag (a.1.1 - b.1.1)))],[(iv (Ag (a.1.2 - b.1.2)))]]) Bt LE rfl rfl rfl rfl rfl (Ep Bt rfl ah m fun l a5 _ aj ak=>(Gq 0 Bt rfl rfl aj ak rfl rfl rfl fun a6 _ al k=>(Ah (ai (Ak fun _ am=>(Bq Gy rfl (Bq CL rfl (AU 4 A4 rfl k rfl rfl (Bq Gy rfl (Bq CL rfl (AU 3 A4 rfl k rfl rfl (wp 1 rfl (Bq CL rfl (AU 0 A4 rfl k rfl rfl (wp 1 rfl (Bq Gy rfl (Bq CK rfl (AU 4 A4 rfl k rfl rfl (Bq Gy rfl (Bq CK rfl (AU 3 A4 rfl k rfl rfl (wp 1 rfl (Bq CK rfl (AU 0 A4 rfl k rfl rfl (wp 1 rfl (DY (zs:=[(iv 0),(iv 0)]) (out:=[(iv (Ag ((Ag (a.2.1.1 - b.2.1.1)) - (Ag (a.1.1 - b.1.1))))),(iv (Ag ((Ag (a.2.1.2 - b.2.1.2)) - (Ag (a.1.2 - b.1.2)))))]) (vs:=[(iv (Ag ((Ag (a.2.1.1 - b.2.1.1)) - (Ag (a.1.1 - b.1.1))))),(iv (Ag ((Ag (a.2.1.2 - b.2.1.2)) - (Ag (a.1.2 - b.1.2)))))]) (css:=[[(iv (Ag ((Ag (a.2.1.1 - b.2.1.1)) - (Ag (a.1.1 - b.1.1)))))],[(iv (Ag ((Ag (a.2.1.2 - b.2.1.2)) - (Ag (a.1.2 - b.1.2)))))]]) Bt LE rfl rfl rfl rfl rfl (Ep Bt rfl al k fun g a7 _ an ao=>(Gq 0 Bt rfl rfl an ao rfl rfl rfl fun a8 _ ap aq=>(Ah (am (Am fun _ ar=>(AR B2 ([s] ++ [q]) ap aq fun au _ av c=>?_)))))))))))))))))))))))))))))))))))))))))))))))))
 have f:=KeepX.refl au ([s] ++ [q])
 refine Ad 0 rfl d f (CJ 1 Bt rfl c rfl (fun hb=>(AP.1 hb).elim (c.disj (i:=1) (j:=2) rfl rfl rfl l (by simp [A9])) (c.disj (i:=1) (j:=3) rfl rfl rfl l (by simp [A9]))) (Ad 1 rfl d f (CJ 0 Bt rfl c rfl (fun hb=>(AP.1 hb).elim (c.disj (i:=0) (j:=2) rfl rfl rfl g (by simp [A9])) (c.disj (i:=0) (j:=3) rfl rfl rfl g (by simp [A9]))) (Ad 2 rfl d f (C5 CL rfl (Ad 3 rfl d f (CJ 1 A4 rfl c rfl (fun hb=>(AP.1 hb).elim (c.disj (i:=1) (j:=2) rfl rfl rfl l (by simp [A9])) (c.disj (i:=1) (j:=3) rfl rfl rfl l (by simp [A9]))) (Ad 4 rfl d f (C5 CL rfl (Ad 5 rfl d f (CJ 0 A4 rfl c rfl (fun hb=>(AP.1 hb).elim (c.disj (i:=0) (j:=2) rfl rfl rfl g (by simp [A9])) (c.disj (i:=0) (j:=3) rfl rfl rfl g (by simp [A9]))) (Ad 6 rfl d f (Jp rfl rfl rfl (Ad 7 rfl d f (C5 CK rfl (Ad 8 rfl d f (CJ 1 A4 rfl c rfl (fun hb=>(AP.1 hb).elim (c.disj (i:=1) (j:=2) rfl rfl rfl l (by simp [A9])) (c.disj (i:=1) (j:=3) rfl rfl rfl l (by simp [A9]))) (Ad 9 rfl d f (C5 CK rfl (Ad 10 rfl d f (CJ 0 A4 rfl c rfl (fun hb=>(AP.1 hb).elim (c.disj (i:=0) (j:=2) rfl rfl rfl g (by simp [A9])) (c.disj (i:=0) (j:=3) rfl rfl rfl g (by simp [A9]))) (Ad 11 rfl d f (Jp rfl rfl rfl (Ad 12 rfl d f (EA rfl rfl rfl (Ad 13 rfl d f (C5 CL rfl (Ad 14 rfl d f (CJ 0 A4 rfl c rfl (fun hb=>(AP.1 hb).elim (c.disj (i:=0) (j:=2) rfl rfl rfl g (by simp [A9])) (c.disj (i:=0) (j:=3) rfl rfl rfl g (by simp [A9]))) (Ad 15 rfl d f (C5 CL rfl (Ad 16 rfl d f (CJ 0 A4 rfl c rfl (fun hb=>(AP.1 hb).elim (c.disj (i:=0) (j:=2) rfl rfl rfl g (by simp [A9])) (c.disj (i:=0) (j:=3) rfl rfl rfl g (by simp [A9]))) (Ad 17 rfl d f (Jp rfl rfl rfl (Ad 18 rfl d f (C5 CK rfl (Ad 19 rfl d f ?_))))))))))))))))))))))))))))))))))))))
 refine CJ 0 A4 rfl c rfl (fun hb=>(AP.1 hb).elim (c.disj (i:=0) (j:=2) rfl rfl rfl g (by simp [A9])) (c.disj (i:=0) (j:=3) rfl rfl rfl g (by simp [A9]))) (Ad 20 rfl d f (C5 CK rfl (Ad 21 rfl d f (CJ 0 A4 rfl c rfl (fun hb=>(AP.1 hb).elim (c.disj (i:=0) (j:=2) rfl rfl rfl g (by simp [A9])) (c.disj (i:=0) (j:=3) rfl rfl rfl g (by simp [A9]))) (Ad 22 rfl d f (Jp rfl rfl rfl (Ad 23 rfl d f (EA rfl rfl rfl (Av 24 rfl (Gq 3 Bt rfl rfl av c rfl rfl rfl fun a9 t aw ax=>?_))))))))))
 have u:=f.wr' t.1 t.2.1 (fun _ _ h=>Bi _ h)
 refine Ah (Ap u (Av 25 rfl (Gq 2 Bt rfl rfl aw ax rfl rfl rfl fun ba v ay w=>?_)))
 have n:=u.wr' v.1 v.2.1 (fun _ _ h=>At _ (h))
 refine Ah (Ap n (Ad 26 rfl d n (AD rfl rfl (Ad 27 rfl d n (AD rfl rfl (Ba (ar (Aw ?_))))))))
 obtain rfl:=Option.some.inj p
 exact J9 (vs:=[(.agg #[(iv (Ag (a.1.1 - b.1.1))),(iv (Ag (a.1.2 - b.1.2)))]),(.agg #[(iv (Ag ((Ag (a.2.1.1 - b.2.1.1)) - (Ag (a.1.1 - b.1.1))))),(iv (Ag ((Ag (a.2.1.2 - b.2.1.2)) - (Ag (a.1.2 - b.1.2)))))]),(iv (Ag ((Ag ((Ag (a.1.1 - b.1.1)) * (Ag ((Ag (a.2.1.1 - b.2.1.1)) - (Ag (a.1.1 - b.1.1)))))) + (Ag ((Ag (a.1.2 - b.1.2)) * (Ag ((Ag (a.2.1.2 - b.2.1.2)) - (Ag (a.1.2 - b.1.2))))))))),(iv (Ag ((Ag ((Ag ((Ag (a.2.1.1 - b.2.1.1)) - (Ag (a.1.1 - b.1.1)))) * (Ag ((Ag (a.2.1.1 - b.2.1.1)) - (Ag (a.1.1 - b.1.1)))))) + (Ag ((Ag ((Ag (a.2.1.2 - b.2.1.2)) - (Ag (a.1.2 - b.1.2)))) * (Ag ((Ag (a.2.1.2 - b.2.1.2)) - (Ag (a.1.2 - b.1.2)))))))))]) x rfl ⟨Hh (i:=3) Bt rfl w rfl rfl rfl,Hh (i:=2) Bt rfl w rfl rfl rfl,Ki rfl,Ki rfl,trivial⟩ ⟨rfl,ay⟩
theorem Xl (h:Ae) (i:Int) (j:Int) (r:Int) (b:Mw i j = some r) :
  A1 274 [(iv i),(iv j)] h fun e w'=>e = .returned (iv r) ∧ Bl h w':=by
 refine cm Tryz.func274 Tryz.ntmps274 rfl fun Q s c t u=>?_
 unfold Mw at b
 refine Al 1 rfl (Ak fun _ v=>(wp 3 rfl (Pn rfl rfl rfl (wp 3 rfl (Pn rfl rfl rfl (Aq 2 rfl (v (Am fun _ w=>(Az (AN (fun m a o=>∃ (l:Int) (d:Int),St 20 [(0,(iv l)),(1,(iv d))] a ∧ Bl h o ∧ Sp h o [] ∧ Ha m l d = some r) FU ?_ ?_))))))))))
 ·exact fun a ha=>⟨(FB i (Ag (0 - i))),(FB j (Ag (0 - j))),ha.sb rfl,t,(u.sel [] rfl),b⟩
 ·rintro g a o ⟨l,d,ha,p,x,b⟩ ad y
  refine BB ?_ ha
  cases g with
  | zero=>exact Be b
  | succ g =>
   obtain ⟨ae,q⟩:∃ k,k = Ha g:=⟨_,rfl⟩
   rw [Ha,← q] at b
   refine Am fun _ z=>Al 2 rfl (A2 rfl b (fun _ b=>?_) (fun _ b=>?_))
   ·refine Au (z ?_)
    refine Az (AR B2 [] p x fun aa _ ab ac=>?_)
    have f:=KeepX.refl aa []
    refine Ax 0 rfl c f (Ax 1 rfl c f (Ax 2 rfl c f ?_))
    have n:d ≠ 0:=fun n=>Be (B9 n b)
    replace b:=Lz n b
    refine Ad 3 rfl c f (Tm rfl rfl rfl n (Ad 4 rfl c f (AD rfl rfl (Ad 5 rfl c f (AD rfl rfl (Ba ?_))))))
    rw [q] at b
    exact fun a ha=>y a _ g (AB g) ⟨d,(Int.tmod l d),ha.sb rfl,ab,(ac.sel [] rfl),b⟩
   ·refine Bc (w ?_)
    refine Al 2 rfl (Aw (rt s rfl rfl (by cases b; exact ⟨rfl,p⟩)))
theorem Lh (g:Ae) (h:Int) (i:Int) (r:(Int × Int)) (a:FK h i = some r) :
  A1 261 [(iv h),(iv i)] g fun e w'=>e = .returned (.tuple #[(iv r.1),(iv r.2)]) ∧ Bl g w':=by
 refine cm Tryz.func261 Tryz.ntmps261 rfl fun Q k b l m=>?_
 unfold FK at a
 refine Al 2 rfl (Ak fun _ n=>(wp 2 rfl (bB a fun j o a=>(Bs rfl Tryz.call274 l m (Xl g h i _ o) rfl fun v _ p q=>(Aq 1 rfl (n (Am fun _ s=>(AR B2 [] p q fun t _ u _=>?_))))))))
 have c:=KeepX.refl t []
 refine Ax 0 rfl b c (Ax 1 rfl b c ?_)
 have d:j ≠ 0:=fun d=>Be (B9 d a)
 replace a:=Lz d a
 refine Ad 2 rfl b c (Me rfl rfl rfl d (Ax 3 rfl b c (Ax 4 rfl b c ?_)))
 have f:j ≠ 0:=fun f=>Be (B9 f a)
 replace a:=Lz f a
 refine Ad 5 rfl b c (Me rfl rfl rfl f (Ad 6 rfl b c (AD rfl rfl (Ad 7 rfl b c (AD rfl rfl (Ba (s (Aw (rt k rfl rfl (by cases a; exact ⟨rfl,u⟩))))))))))
theorem RN (j:Ae) (d:Ae6) (f:Ae6) (r:(Int × Int)) (a:Ik d f = some r) :
  A1 256 [(.agg #[(iv d.1.1),(iv d.1.2),(iv d.2.1.1),(iv d.2.1.2),(iv d.2.2)]),(.agg #[(iv f.1.1),(iv f.1.2),(iv f.2.1.1),(iv f.2.1.2),(iv f.2.2)])] j fun e w'=>e = .returned (.tuple #[(iv r.1),(iv r.2)]) ∧ Bl j w':=by
 refine cm Tryz.func256 Tryz.ntmps256 rfl fun Q g hP l m=>?_
 unfold Ik at a
 refine Ak fun _ n=>CM rfl l m fun b2 w3 _ o p=>CM rfl o p fun b7 q _ s h=>Aq 2 rfl (n (Ak fun _ t=>(AU 1 Cy rfl h rfl rfl (AU 0 Cy rfl h rfl rfl (bB a fun c u a=>(Bs rfl Tryz.call272 s h (UV q d f _ u) rfl fun au _ v w=>(wp 5 rfl (Ep Bt rfl v w fun av aw _ x y=>(Ep Bt rfl x y fun ax ay _ z aa=>(Gq 1 Bt rfl rfl z aa rfl rfl rfl fun az _ ab ac=>(Gq 0 Bt rfl rfl ab ac rfl rfl rfl fun k _ i b=>(Aq 2 rfl (t (Am fun _ ad=>(Az (Al 3 rfl (A2 rfl a (fun _ a=>?_) (fun _ a=>?_))))))))))))))))))
 ·refine Ak fun _ ae=>?_
  refine Bq CL rfl (AU 1 A4 rfl b rfl rfl (Bq CL rfl (AU 1 A4 rfl b rfl rfl (wp 1 rfl (Bq CK rfl (AU 1 A4 rfl b rfl rfl (Bq CK rfl (AU 1 A4 rfl b rfl rfl (Aq 4 rfl (ae (Aw (rt g rfl rfl (by cases a; exact ⟨rfl,i⟩)))))))))))))
 ·refine Al 5 rfl ?_
  refine A2 rfl a (fun _ a=>?_) (fun _ a=>?_)
  ·refine Ak fun _ af=>?_
   refine Bq Gy rfl (AU 3 Bt rfl b rfl rfl (Bq Gy rfl (AU 2 Bt rfl b rfl rfl (bB a fun a0 ag a=>(A7 rfl Tryz.call183 (Hg k d.2.1 f.2.1 _ ag) rfl ?_)))))
   rintro _ a1 ⟨rfl,ah⟩
   refine ⟨_,rfl,?_⟩
   have ai:=tm i ah
   refine Aq 2 rfl (af (Aw (rt g rfl rfl (by cases a; exact ⟨rfl,ai⟩))))
  ·refine Au (ad ?_)
   refine Ak fun _ aj=>Bq CL rfl (AU 1 A4 rfl b rfl rfl (Bq CK rfl (AU 0 A4 rfl b rfl rfl (wp 1 rfl (Bq CK rfl (AU 1 A4 rfl b rfl rfl (Bq CL rfl (AU 0 A4 rfl b rfl rfl (Aq 3 rfl (aj (Ak fun _ ak=>(wp 4 rfl (bB a fun a2 al a=>(A7 rfl Tryz.call261 (Lh k (Ag ((Ag ((Ag (c.1.1 * c.2.1.2)) - (Ag (c.1.2 * c.2.1.1)))) * (Ag ((Ag (c.1.1 * c.2.1.2)) - (Ag (c.1.2 * c.2.1.1)))))) c.2.2.2 _ al) rfl ?_))))))))))))))
   rintro _ a3 ⟨rfl,am⟩
   refine ⟨_,rfl,?_⟩
   have an:=tm i am
   refine Aq 4 rfl (ak (Aw (rt g rfl rfl (by cases a; exact ⟨rfl,an⟩))))
theorem SK (d:Ae) (a:Ae6) (b:Ae6) (f:Int) (r:Bool) (c:IG a b f = some r) :
  A1 237 [(.agg #[(iv a.1.1),(iv a.1.2),(iv a.2.1.1),(iv a.2.1.2),(iv a.2.2)]),(.agg #[(iv b.1.1),(iv b.1.2),(iv b.2.1.1),(iv b.2.1.2),(iv b.2.2)]),(iv f)] d fun e w'=>e = .returned (.bool r) ∧ Bl d w':=by
 refine cm Tryz.func237 Tryz.ntmps237 rfl fun Q h u i j=>?_
 unfold IG at c
 refine Ak fun _ k=>CM rfl i j fun v w _ l m=>CM rfl l m fun x n _ o g=>Aq 1 rfl (k (Ak fun _ p=>(AU 1 Cy rfl g rfl rfl (AU 0 Cy rfl g rfl rfl (bB c fun y q c=>(A7 rfl Tryz.call256 (RN n a b _ q) rfl ?_))))))
 rintro _ z ⟨rfl,s⟩
 refine ⟨_,rfl,?_⟩
 have t:=tm o s
 refine Aq 5 rfl (p (Al 8 rfl (Aw (rt h rfl rfl (by cases c; exact ⟨rfl,t⟩)))))
theorem Qm (d:Ae) (n:(Ae4 × Ae4 × Int × (List Int))) (ac:Ac) (a3:RO Ar d ac n.1) (ad:Ac) (a4:RO Ar d ad n.2.1) (ae:Ac) (a5:RO Ao d ae n.2.2.2) (f:Int) (r:Ae9) (b:Hc n f = some r) :
  A1 215 [(.agg #[ac,ad,(iv n.2.2.1),ae]),(iv f)] d fun e w'=>∃ (q0:Ac) (G0:An),e = .returned q0 ∧ Bl d w' ∧ Sp d w' [Ab Cn G0 q0 r]:=by
 refine cm Tryz.func215 Tryz.ntmps215 rfl fun Q hQ g hB hS=>?_
 unfold Hc at b
 refine Ak fun _ ba=>CM rfl hB hS fun b2 w3 _ v am=>Aq 1 rfl (ba (Ak fun _ bc=>(AU 0 Bp rfl am rfl rfl (bB b fun u8 bd b=>(En rfl Tryz.call219 v am (MO w3 n ac (a3.ro v) ad (a4.ro v) ae (a5.ro v) _ bd) rfl fun o af co _ _ be bf=>(TS (e:=Cn) Tryz.underlying155 rfl be bf fun bg bh cp _ bi an=>(Aq 2 rfl (bc (Am fun _ bj=>(Ak fun _ bk=>(wp 1 rfl (BQ (an.own_ro (i:=1) rfl) Tryz.underlying184 rfl (Aq 1 rfl (bk (Az (AN (fun m a ag=>∃ (w:Ae9) (c:Int) (p:Ac) (x:An),St 44 [(1,(iv f)),(5,o),(6,p),(13,(iv (List.length u8:Int))),(14,(iv c))] a ∧ Bl d ag ∧ Sp d ag [Ab C3 af o u8,Ab Cn x p w] ∧ D0 u8 f m w c = some r) FU ?_ ?_))))))))))))))))
 ·exact fun a ha=>⟨[],0,bg,bh,ha.sb rfl,bi,(an.sel [1,0] rfl),b⟩
 ·rintro q a ag ⟨w,c,p,x,ha,ao,ap,b⟩ cq bl
  refine BB ?_ ha
  cases q with
  | zero=>exact Be b
  | succ q =>
   obtain ⟨aq,ar⟩:∃ k,k = D0 u8 f q:=⟨_,rfl⟩
   rw [D0,← ar] at b
   refine Al 1 rfl (Am fun _ bm=>(A2 rfl b (fun _ b=>?_) (fun _ b=>?_)))
   ·refine Au (bm ?_)
    refine Am fun _ bn=>Az (Al 2 rfl (Al 3 rfl (Az (AN (fun m a ah=>∃ (s:Ae9) (j:Int) (t:Ac) (y:An),St 44 [(1,(iv f)),(5,o),(6,t),(7,(iv c)),(8,(iv j)),(13,(iv (List.length u8:Int))),(14,(iv c))] a ∧ Bl d ah ∧ Sp d ah [Ab C3 af o u8,Ab Cn y t s] ∧ Dz u8 c f aq m s j = some r) FU ?_ ?_))))
    ·exact fun a ha=>⟨w,(Ag (c + 1)),p,x,ha.sb rfl,ao,(ap.sel [0,1] rfl),b⟩
    ·rintro u a ah ⟨s,j,t,y,ha,au,ai,b⟩ cr bo
     refine BB ?_ ha
     cases u with
     | zero=>exact Be b
     | succ u =>
      obtain ⟨cs,av⟩:∃ k,k = Dz u8 c f aq u:=⟨_,rfl⟩
      rw [Dz,← av] at b
      refine Am fun _ bp=>Ak fun _ bq=>wp 2 rfl (BQ (ai.own_ro (i:=0) rfl) Tryz.underlying184 rfl (Aq 1 rfl (bq (A2 rfl b (fun _ b=>?_) (fun _ b=>?_)))))
      ·refine Au (bp ?_)
       refine Am fun br bs=>?_
       obtain ⟨bt,bu,b⟩:=Ch b
       have aw:∀ (z:Ae9) (aa:Ac) (aj:An) (ab:Ae) (_:bt z = some r) (_:Bl d ab) (_:Sp d ab [Ab C3 af o u8,Ab Cn aj aa z]),∀ a,St 44 [(1,(iv f)),(5,o),(6,aa),(7,(iv c)),(8,(iv j)),(13,(iv (List.length u8:Int))),(14,(iv c))] a → br a ab:=by
        intro z aa aj ab b bv bw
        subst bu
        refine bs (As (Aq 3 rfl ?_))
        rw [av] at b
        exact fun a ha=>bo a _ u (AB u) ⟨z,(Ag (j + 1)),aa,aj,ha.sb rfl,bv,(bw.sel [0,1] rfl),b⟩
       refine Az (Am fun _ bx=>(AR B2 [] au ai fun ax _ bz ak=>?_))
       have h:=KeepX.refl ax []
       refine Ax 0 rfl g h (Ax 1 rfl g h (bB b fun b0 b1 b=>(Ad 2 rfl g h (Bv (e:=C3) (i:=0) Tryz.underlying184 rfl rfl rfl ak rfl b1 ?_))))
       rintro ct _ rfl b3 cu
       refine Ad 3 rfl g h (BJ Cy rfl (b3.kx0) rfl (Ax 4 rfl g h (Ax 5 rfl g h (bB b fun b4 b5 b=>(Ad 6 rfl g h (Bv (e:=C3) (i:=0) Tryz.underlying184 rfl rfl rfl ak rfl b5 ?_))))))
       rintro cv _ rfl b6 cw
       refine Ad 7 rfl g h (BJ Cy rfl (b6.kx0) rfl (Ax 8 rfl g h (Av 9 rfl (bB b fun cx b7 b=>(Bs rfl Tryz.call237 bz ak (SK ax b0 b4 f _ b7) rfl fun cy b8 ay az=>?_)))))
       have a0:=h.ext b8
       refine Ah (Ap a0 (Ad 10 rfl g a0 (KT rfl rfl (Ba (bx (A2 rfl b (fun _ b=>?_) (fun _ b=>?_)))))))
       ·refine As ?_
        refine wp 3 rfl (Bb (vs:=[(iv c),(iv j)]) (l:=[c,j]) Ca Tryz.underlying36 rfl rfl rfl rfl rfl rfl ay az fun a1 b9 cz _ ca a2=>?_)
        have cb:=a2.sel [0,1,2] rfl
        have cc:=cb.head (r':=Qi Cn b9 [a1] [c,j]) (rfl) fun _ h0=>⟨_,rfl,h0⟩
        refine NE (e:=Cn) (vs:=[a1]) Tryz.underlying155 rfl rfl (Cl (a2.own_ro (i:=0) rfl).one) rfl ca cc fun c0 c1 c2 _ _ ce cf=>bB b fun cg ch b=>Lk (e:=Cn) Tryz.underlying155 rfl rfl rfl ce (cf.sel [2,0,1] rfl) ch fun ci cj c3 _ ck cl=>Aq 1 rfl ?_
        exact jx (aw cg ci cj _ b ck (cl.sel [1,0] rfl)) rfl
       ·refine Au ?_
        exact jx (aw s t y _ b ay (az.sel [0,1] rfl)) rfl
      ·refine Bc (bn ?_)
       refine As (Aq 2 rfl ?_)
       rw [ar] at b
       exact fun a ha=>bl a _ q (AB q) ⟨s,(Ag (c + 1)),t,y,ha.sb rfl,au,(ai.sel [0,1] rfl),b⟩
   ·refine Bc (bj ?_)
    refine Al 2 rfl (Aw (rt hQ rfl rfl (by cases b; exact ⟨p,x,rfl,ao,ap.sel [1] rfl⟩)))
theorem Qn (d:Ae) (f:(Ae4 × Ae4 × Int × (List Int))) (g:Ac) (p:RO Ar d g f.1) (h:Ac) (q:RO Ar d h f.2.1) (i:Ac) (s:RO Ao d i f.2.2.2) (j:Int) (r:(Ae9 × Bool)) (b:Hd f j = some r) :
  A1 175 [(.agg #[g,h,(iv f.2.2.1),i]),(iv j)] d fun e w'=>∃ (t:Ac) (G0:An),e = .returned (.tuple #[t,(.bool r.2)]) ∧ Bl d w' ∧ Sp d w' [Ab Cn G0 t r.1]:=by
 refine cm Tryz.func175 Tryz.ntmps175 rfl fun Q u hP hB hS=>?_
 unfold Hd at b
 refine Ak fun _ ad=>CM rfl hB hS fun v w3 _ m w=>Aq 2 rfl (ad (Am fun _ af=>(Am fun K8 ah=>?_)))
 obtain ⟨ai,aj,b⟩:=Ch b
 have x:∀ (n:Bool) (k:Ae) (_:ai n = some r) (_:Bl d k) (_:Sp d k [A9 v 128 [g,h,(iv f.2.2.1),i]]),∀ a,St 17 [(1,(iv j)),(2,(.pointer (some ⟨v,0,none⟩))),(13,(.bool n))] a → K8 a k:=by
  intro n k b l o
  subst aj
  refine ah (A2 rfl b (fun _ b=>?_) (fun _ b=>?_))
  ·refine Al 2 rfl ?_
   refine Aw ?_
   have ak:=o.push0 (r:=Ab Cn [] (.slice none 0 0) []) rfl fun _=>.inl ⟨rfl,rfl,rfl⟩
   refine rt u rfl rfl (by cases b; exact ⟨(.slice none 0 0),[],rfl,l,ak.sel [0] rfl⟩)
  ·refine Au (af ?_)
   refine Ak fun _ al=>AU 0 Bp rfl o rfl rfl (wp 1 rfl (bB b fun a1 am b=>(En rfl Tryz.call215 l o (Qm k f g (p.ro l) h (q.ro l) i (s.ro l) j _ am) rfl fun an ao a2 _ _ ap aq=>(Aq 2 rfl (al (Aw (rt u rfl rfl (by cases b; exact ⟨an,ao,rfl,ap,aq.sel [0] rfl⟩))))))))
 refine As (AU 0 Bp rfl w rfl rfl (bB b fun ar au b=>(Bs rfl Tryz.call173 m w (KH w3 f g (p.ro m) h (q.ro m) i (s.ro m) _ au) rfl fun av _ y z=>(wp 2 rfl ?_))))
 rcases bE (!ar) with c | c
 ·replace b:=B9 c b
  refine wo rfl c (wo rfl c (wo rfl c (AA rfl rfl c rfl (Ah ?_))))
  exact jx (x true _ b y (z.sel [0] rfl)) rfl
 ·replace b:=Cf c b
  refine wn rfl c (wp 1 rfl (wn rfl c (bB b fun aw ax b=>(Bs rfl Tryz.call178 y z (PF av j _ ax) rfl fun a3 _ ay az=>(wn rfl c (wp 1 rfl (A6 rfl rfl c rfl (Ah ?_))))))))
  exact jx (x ((!aw)) _ b ay (az.sel [0] rfl)) rfl
theorem NB (f:Ae) (s:Tab f) (j:(Ae4 × Ae4 × Int × Ae4 × Ae5 × Ae7)) (p0:Addr) (af:Ac) (bx:RO Ar f af j.1) (ag:Ac) (bz:RO Ar f ag j.2.1) (b0:Ac) (gm:RO BN f b0 j.2.2.2.1) (b1:Ac) (gn:RO A0 f b1 j.2.2.2.2.1) (b2:Ac) (go:RO Cm f b2 j.2.2.2.2.2) (a4:EAt (· < f.heap.size) f p0 [af,ag,(iv j.2.2.1),b0,b1,b2]) (x1:Int) (r:(List Aj)) (c:GO j x1 = some r) :
  A1 122 [(.pointer (some p0)),(iv x1)] f fun e w'=>e = .returned (.string (B5 r)) ∧ Bl f w':=by
 refine cm Tryz.func122 Tryz.ntmps122 rfl fun Q hQ d hB hS=>?_
 unfold GO at c
 refine Al 1 rfl (Am fun K2 dh=>?_)
 obtain ⟨di,dj,c⟩:=jE4 c
 have b3:∀ (l7:Ae4) (aj:Ae4) (ak:Int) (al:(List Int)) (v8:Ac) (F9:An) (an:Ac) (b5:An) (ao:Ac) (b7:An) (b6:Nat) (y:Ae) (_:di l7 aj ak al = some r) (_:Bl f y) (_:Sp f y [Ab Ar F9 v8 l7,Ab Ar b5 an aj,Ab Ao b7 ao al,A9 b6 128 [v8,an,(iv ak),ao]]),∀ a,St 62 [(1,(iv x1)),(5,(.pointer (some ⟨b6,0,none⟩)))] a → K2 a y:=by
  intro l7 aj ak al v8 F9 an b5 ao b7 b6 y c dk z
  subst dj
  refine dh (Ak fun _ dl=>(AU 3 Bp rfl z rfl rfl (wp 1 rfl (bB c fun t dm c=>(En rfl Tryz.call175 dk z (Qn y (l7,aj,ak,al) v8 (z.own_ro (i:=0) rfl) an (z.own_ro (i:=1) rfl) ao (z.own_ro (i:=2) rfl) x1 _ dm) rfl fun ap b8 gp _ _ a7 b9=>(Aq 5 rfl (dl (Am fun _ dn=>(Al 2 rfl (A2 rfl c (fun _ c=>?_) (fun _ c=>?_)))))))))))
  ·refine Al 1 rfl ?_
   refine Aw (rt hQ rfl rfl (by cases c; exact ⟨rfl,a7⟩))
  ·refine Au (dn ?_)
   refine Am fun _ dp=>Ak fun _ dq=>wp 1 rfl (BQ (b9.own_ro (i:=0) rfl) Tryz.underlying155 rfl (Aq 1 rfl (dq (A2 rfl c (fun _ c=>?_) (fun _ c=>?_)))))
   ·refine Al 1 rfl ?_
    refine Aw (rt hQ rfl rfl (by cases c; exact ⟨rfl,a7⟩))
   ·refine Au (dp ?_)
    refine Ak fun _ dr=>Bb (vs:=[]) (l:=[]) IB Tryz.underlying61 rfl rfl rfl rfl rfl rfl a7 b9 fun ds dt gq _ du ca=>Aq 1 rfl (dr (Am fun _ dv=>(Ak fun _ dw=>(wp 1 rfl (BQ (ca.own_ro (i:=1) rfl) Tryz.underlying155 rfl (Aq 1 rfl (dw (Az (AN (fun m a aq=>∃ (ar:(List (List Aj))) (aa:Int) (au:Ac) (ab:An),St 62 [(9,au),(40,ap),(41,(iv (List.length t.1:Int))),(42,(iv aa))] a ∧ Bl f aq ∧ Sp f aq [Ab Cx ab au ar,Ab Cn b8 ap t.1] ∧ CD t m ar aa = some r) FU ?_ ?_)))))))))
    ·exact fun a ha=>⟨[],0,ds,dt,ha.sb rfl,du,(ca.sel [0,1] rfl),c⟩
    ·rintro ac a aq ⟨ar,aa,au,ab,ha,cb,a8,c⟩ gr dx
     refine BB ?_ ha
     cases ac with
     | zero=>exact Be c
     | succ ac =>
      obtain ⟨gs,cc⟩:∃ k,k = CD t ac:=⟨_,rfl⟩
      rw [CD,← cc] at c
      refine Al 1 rfl (Am fun _ dy=>(A2 rfl c (fun _ c=>?_) (fun _ c=>?_)))
      ·refine Au (dy ?_)
       refine Am fun dz d0=>?_
       obtain ⟨d1,d2,c⟩:=Ch c
       have a9:∀ (av:(List (List Aj))) (aw:Ac) (ba:An) (ax:Ae) (_:d1 av = some r) (_:Bl f ax) (_:Sp f ax [Ab Cx ba aw av,Ab Cn b8 ap t.1]),∀ a,St 62 [(9,aw),(40,ap),(41,(iv (List.length t.1:Int))),(42,(iv aa))] a → dz a ax:=by
        intro av aw ba ax c d3 d4
        subst d2
        refine d0 (As (Aq 2 rfl ?_))
        rw [cc] at c
        exact fun a ha=>dx a _ ac (AB ac) ⟨av,(Ag (aa + 1)),aw,ba,ha.sb rfl,d3,(d4.sel [0,1] rfl),c⟩
       refine Az (Ak fun _ d5=>(bB c fun gt d6 c=>(Cj (e:=Cn) (i:=1) Tryz.underlying155 rfl rfl rfl a8 rfl d6 ?_)))
       rintro gu _ ⟨gv,rfl,ay⟩ d7 gw
       refine BV EQ rfl d7 rfl (Aq 1 rfl (d5 (AR B2 ab cb a8 fun u d8 v bb=>?_)))
       have ay:=ay.ro d8
       have n:=KeepX.refl u ab
       refine Ax 0 rfl d n (Ax 1 rfl d n (bB c fun bc d9 c=>(Ad 2 rfl d n (BA (e:=Ao) Tryz.underlying36 rfl rfl rfl ay d9 ?_))))
       rintro gx _ rfl cd
       refine Ax 6 rfl d n (bB c fun bd ea c=>(Ad 7 rfl d n (BA (e:=Ao) Tryz.underlying36 rfl rfl rfl ay ea ?_)))
       rintro gy _ rfl be
       refine Cz (is:=[3,8]) (by kernel_rfl) rfl (Bd.2 ⟨⟨_,rfl,?_⟩,Bd.2 ⟨⟨_,rfl,?_⟩,fun _ h=>by cases h⟩⟩)
       ·refine BV A4 rfl cd rfl ?_
        refine Ah (Ap n (Cz (is:=[4,8]) (by kernel_rfl) rfl (Bd.2 ⟨⟨_,rfl,?_⟩,Bd.2 ⟨⟨_,rfl,?_⟩,fun _ h=>by cases h⟩⟩)))
        ·refine bB c fun gz eb c=>?_
         refine Bs rfl Tryz.call130 v bb (E4 u (s.st v) bc _ eb) rfl fun ce cf cg ec=>?_
         have az:=n.ext cf
         have ed:Below u.heap.size u ce:=cf
         refine Ah (Ap az (bB c fun g0 ee c=>(Ad 5 rfl d az (EW rfl rfl rfl ee (Av 8 rfl (BV A4 rfl (be.ro ed) rfl (Ah (Ap az (Av 9 rfl (bB c fun g1 ef c=>(Bs rfl Tryz.call130 cg ec (E4 ce (s.st cg) bd _ ef) rfl fun eg eh ch ei=>?_)))))))))))
         have bf:=az.ext eh
         refine Ah (Ap bf (bB c fun ci ej c=>(Ad 10 rfl d bf (EW rfl rfl rfl ej (Av 11 rfl (Bb (vs:=[(.string (B5 ci))]) (l:=[ci]) IB Tryz.underlying61 rfl rfl rfl rfl rfl rfl (Bg eg) (Sep.nil _ _) fun g2 g3 ek bg _ el=>?_))))))
         have em:=tm ch bg
         have cj:=ei.join bg el ch.size
         have ck:=bf.ext bg
         refine Ah (Ap ck (Av 12 rfl (bB c fun en eo c=>(AE (i:=1) (S:=(· < ek.heap.size)) IB Tryz.underlying61 rfl rfl rfl em cj rfl (cj.own_ro (i:=0) rfl) eo fun ep eq g4 cl er es=>?_))))
         have cn:=ck.wr' cl.1 cl.2.1 (fun _ _ h=>h)
         refine Ah (Ap cn (Ad 13 rfl d cn (AD rfl rfl (Ba ?_))))
         exact jx (a9 en ep eq _ c er (es.sel [1,2] rfl)) rfl
        ·refine BV A4 rfl be rfl ?_
         refine Ah (Ap n (Av 4 rfl (bB c fun g5 et c=>(Bs rfl Tryz.call130 v bb (E4 u (s.st v) bc _ et) rfl fun eu ev co ew=>?_))))
         have bh:=n.ext ev
         refine Ah (Ap bh (bB c fun g6 ex c=>(Ad 5 rfl d bh (EW rfl rfl rfl ex (Av 9 rfl (bB c fun g7 ey c=>(Bs rfl Tryz.call130 co ew (E4 eu (s.st co) bd _ ey) rfl fun ez e0 cp e1=>?_)))))))
         have bi:=bh.ext e0
         refine Ah (Ap bi (bB c fun cq e2 c=>(Ad 10 rfl d bi (EW rfl rfl rfl e2 (Av 11 rfl (Bb (vs:=[(.string (B5 cq))]) (l:=[cq]) IB Tryz.underlying61 rfl rfl rfl rfl rfl rfl (Bg ez) (Sep.nil _ _) fun g8 g9 e3 bj _ e4=>?_))))))
         have e5:=tm cp bj
         have cr:=e1.join bj e4 cp.size
         have cs:=bi.ext bj
         refine Ah (Ap cs (Av 12 rfl (bB c fun e6 e7 c=>(AE (i:=1) (S:=(· < e3.heap.size)) IB Tryz.underlying61 rfl rfl rfl e5 cr rfl (cr.own_ro (i:=0) rfl) e7 fun e8 e9 hc ct fa fb=>?_))))
         have cu:=cs.wr' ct.1 ct.2.1 (fun _ _ h=>h)
         refine Ah (Ap cu (Ad 13 rfl d cu (AD rfl rfl (Ba ?_))))
         exact jx (a9 e6 e8 e9 _ c fa (fb.sel [1,2] rfl)) rfl
       ·refine BV A4 rfl be rfl ?_
        refine Ah (Ap n (Av 3 rfl (BV A4 rfl cd rfl (Ah (Ap n (Av 4 rfl (bB c fun hd fc c=>(Bs rfl Tryz.call130 v bb (E4 u (s.st v) bc _ fc) rfl fun fd fe cv ff=>?_))))))))
        have bk:=n.ext fe
        refine Ah (Ap bk (bB c fun he fg c=>(Ad 5 rfl d bk (EW rfl rfl rfl fg (Av 9 rfl (bB c fun hf fh c=>(Bs rfl Tryz.call130 cv ff (E4 fd (s.st cv) bd _ fh) rfl fun fi fj cw fk=>?_)))))))
        have bl:=bk.ext fj
        refine Ah (Ap bl (bB c fun cx fl c=>(Ad 10 rfl d bl (EW rfl rfl rfl fl (Av 11 rfl (Bb (vs:=[(.string (B5 cx))]) (l:=[cx]) IB Tryz.underlying61 rfl rfl rfl rfl rfl rfl (Bg fi) (Sep.nil _ _) fun hg hh fm bm _ fn=>?_))))))
        have fo:=tm cw bm
        have cy:=fk.join bm fn cw.size
        have cz:=bl.ext bm
        refine Ah (Ap cz (Av 12 rfl (bB c fun fp fq c=>(AE (i:=1) (S:=(· < fm.heap.size)) IB Tryz.underlying61 rfl rfl rfl fo cy rfl (cy.own_ro (i:=0) rfl) fq fun fr fs hi c0 ft fu=>?_))))
        have c1:=cz.wr' c0.1 c0.2.1 (fun _ _ h=>h)
        refine Ah (Ap c1 (Ad 13 rfl d c1 (AD rfl rfl (Ba ?_))))
        exact jx (a9 fp fr fs _ c ft (fu.sel [1,2] rfl)) rfl
      ·refine Bc (dv ?_)
       refine Ak fun _ fv=>wp 1 rfl (bB c fun hj fw c=>(A7 rfl Tryz.call176 (P6 aq ar au ab (a8.ok (i:=0) rfl) [32] _ fw) rfl ?_))
       rintro _ hk ⟨rfl,fx⟩
       refine ⟨_,rfl,?_⟩
       have fy:=tm cb fx
       refine Aq 1 rfl (fv (Aw (rt hQ rfl rfl (by cases c; exact ⟨rfl,fy⟩))))
 refine AR B2 [] hB hS fun q _ p c2=>?_
 have g:=KeepX.refl q []
 refine Ax 0 rfl d g (Ad 1 rfl d g (B6 rfl rfl (Ad 2 rfl d g (C6 (o:=1) RE rfl rfl (Ad 3 rfl d g (BJ Cp rfl (EAt.addk (a4.kx p (by simp)) 1) rfl (Ax 4 rfl d g (Ad 5 rfl d g (B6 rfl rfl (Ad 6 rfl d g (C6 (o:=0) HR rfl rfl (Ad 7 rfl d g (BJ Cp rfl (EAt.addk (a4.kx p (by simp)) 0) rfl (Ax 8 rfl d g (Ad 9 rfl d g (B6 rfl rfl (Ad 10 rfl d g (C6 (o:=2) RD rfl rfl (Ad 11 rfl d g (BJ A4 rfl (EAt.addk (a4.kx p (by simp)) 2) rfl (Cz (is:=[12,16]) (by kernel_rfl) rfl (Bd.2 ⟨⟨_,rfl,?_⟩,Bd.2 ⟨⟨_,rfl,?_⟩,fun _ h=>by cases h⟩⟩))))))))))))))))))))))
 ·refine bB c fun w fz c=>?_
  refine A7 rfl Tryz.call123 (HD q j.2.1 ag (bz.ro p) j.1 af (bx.ro p) j.2.2.1 _ fz) rfl ?_
  rintro _ f0 ⟨bn,f1,bo,f2,bp,f3,rfl,a0,f4⟩
  refine ⟨_,rfl,?_⟩
  have c3:=tm p a0
  have f5:=c2.join a0 f4 p.size
  have ad:=g.ext a0
  have f6:=Ay (Nat.le_refl q.heap.size) a0.size
  refine Ah (Ap ad (Ax 13 rfl d ad (Ad 14 rfl d ad (AW rfl rfl rfl (Ad 15 rfl d ad (AW rfl rfl rfl (Av 16 rfl (Ep Bp rfl (Bg f0) (Sep.nil _ _) fun c4 hl bq _ c5=>?_))))))))
  have f7:=tm c3 bq
  have a1:=f5.join bq c5 c3.size
  have f8:∀ b ∈ [c4],q.heap.size ≤ b:=fun b hb=>Ay f6 ((c5.1 _ (List.mem_cons_self ..)).2.1 b hb).1
  have c6:=ad.ext bq
  refine Ah (Ap c6 (Av 17 rfl (BC (i:=0) (vs:=[bn,bo,(iv w.1.2.2.1),bp]) (cs':=[bn,bo,(iv w.1.2.2.1),bp]) Bp rfl rfl rfl rfl f7 a1 rfl rfl ⟨(a1.own_ro (i:=1) rfl).one,(a1.own_ro (i:=2) rfl).one,rfl,(a1.own_ro (i:=3) rfl).one,trivial⟩ rfl fun hm c7 f9 ga=>?_)))
  have c8:=c6.wr' c7.1 c7.2.1 (fun b hlt hb=>absurd hlt (AK.2 (f8 b hb)))
  refine Ah (Ap c8 (Ad 18 rfl d c8 (AD rfl rfl (Ba ?_))))
  exact jx (b3 (w.1.1) (w.1.2.1) (w.1.2.2.1) (w.1.2.2.2) bn f1 bo f2 bp f3 c4 _ c f9 (ga.sel [1,2,3,0] rfl)) rfl
 ·refine Ep Bp rfl (Bg q) (Sep.nil _ _) fun c9 gb br _ da=>?_
  have a2:=tm p br
  have gc:=c2.join br da p.size
  have gd:∀ b ∈ [c9],q.heap.size ≤ b:=fun b hb=>Ay (Nat.le_refl q.heap.size) ((da.1 _ (List.mem_cons_self ..)).2.1 b hb).1
  have db:=g.ext br
  refine Ah (Ap db (Av 12 rfl (bB c fun x ge c=>(A7 rfl Tryz.call123 (HD gb j.2.1 ag (bz.ro a2) j.1 af (bx.ro a2) j.2.2.1 _ ge) rfl ?_))))
  rintro _ hn ⟨bs,gf,bt,gg,bu,gh,rfl,bv,gi⟩
  refine ⟨_,rfl,?_⟩
  have gj:=tm a2 bv
  have a3:=gc.join bv gi a2.size
  have ae:=db.ext bv
  refine Ah (Ap ae (Ax 13 rfl d ae (Ad 14 rfl d ae (AW rfl rfl rfl (Ad 15 rfl d ae (AW rfl rfl rfl (Av 17 rfl (BC (i:=3) (vs:=[bs,bt,(iv x.1.2.2.1),bu]) (cs':=[bs,bt,(iv x.1.2.2.1),bu]) Bp rfl rfl rfl rfl gj a3 rfl rfl ⟨(a3.own_ro (i:=0) rfl).one,(a3.own_ro (i:=1) rfl).one,rfl,(a3.own_ro (i:=2) rfl).one,trivial⟩ rfl fun ho dc gk gl=>?_))))))))
  have dd:=ae.wr' dc.1 dc.2.1 (fun b hlt hb=>absurd hlt (AK.2 (gd b hb)))
  refine Ah (Ap dd (Ad 18 rfl d dd (AD rfl rfl (Ba ?_))))
  exact jx (b3 (x.1.1) (x.1.2.1) (x.1.2.2.1) (x.1.2.2.2) bs gf bt gg bu gh c9 _ c gk (gl.sel [0,1,2,3] rfl)) rfl
theorem RP (g:Ae) (f:(Ae4 × Ae4 × Int × (List Int))) (k:Ac) (q:RO Ar g k f.1) (l:Ac) (t:RO Ar g l f.2.1) (m:Ac) (u:RO Ao g m f.2.2.2) (r:Bool) (b:JC f = some r) :
  A1 177 [(.agg #[k,l,(iv f.2.2.1),m])] g fun e w'=>e = .returned (.bool r) ∧ Bl g w':=by
 refine cm Tryz.func177 Tryz.ntmps177 rfl fun Q v hP w x=>?_
 unfold JC at b
 refine Ak fun _ y=>CM rfl w x fun b2 z _ i s=>Aq 1 rfl (y (Am fun K7 ab=>?_))
 obtain ⟨ac,ad,b⟩:=Ch b
 have n:∀ (o:Bool) (j:Ae) (_:ac o = some r) (_:Bl g j) (_:Sp g j []),∀ a,St 16 [(2,(.bool o))] a → K7 a j:=by
  intro o j b ae aj
  subst ad
  refine ab (Aw (rt v rfl rfl (by cases b; exact ⟨rfl,ae⟩)))
 refine As (AU 0 Bp rfl s rfl rfl (bB b fun af ag b=>(Bs rfl Tryz.call173 i s (KH z f k (q.ro i) l (t.ro i) m (u.ro i) _ ag) rfl fun ak _ p h=>(wp 1 rfl ?_))))
 rcases bE af with d | d
 ·replace b:=B9 d b
  refine wn rfl d (Bq KY rfl (wn rfl d (AU 0 A4 rfl h rfl rfl (wn rfl d (wp 1 rfl (AA rfl rfl d rfl (wp 1 rfl ?_)))))))
  rcases bE (decide (f.2.2.1 ≤ 16)) with c | c
  ·replace b:=B9 c b
   refine wn rfl c (Bq E2 rfl (wn rfl c (AU 0 Cp rfl h rfl rfl (wn rfl c (BQ q Tryz.underlying26 rfl (wn rfl c (wp 1 rfl (AA rfl rfl c rfl (Aq 1 rfl ?_)))))))))
   exact jx (n ((decide ((List.length f.1:Int) ≤ 6))) _ b p (h.sel [] rfl)) rfl
  ·replace b:=Cf c b
   refine wo rfl c (wo rfl c (wo rfl c (wo rfl c (A6 rfl rfl c rfl (Aq 1 rfl ?_)))))
   exact jx (n false _ b p (h.sel [] rfl)) rfl
 ·replace b:=Cf d b
  refine wo rfl d (wo rfl d (wo rfl d (A6 rfl rfl d rfl (wp 1 rfl (wo rfl rfl (wo rfl rfl (wo rfl rfl (wo rfl rfl (A6 rfl rfl rfl rfl (Aq 1 rfl ?_))))))))))
  exact jx (n false _ b p (h.sel [] rfl)) rfl
theorem MN (f:Ae) (d:Ae6) (g:Int) (r:(Int × Int)) (h:FSx d g = some r) :
  A1 258 [(.agg #[(iv d.1.1),(iv d.1.2),(iv d.2.1.1),(iv d.2.1.2),(iv d.2.2)]),(iv g)] f fun e w'=>e = .returned (.tuple #[(iv r.1),(iv r.2)]) ∧ Bl f w':=by
 refine cm Tryz.func258 Tryz.ntmps258 rfl fun Q i a j k=>?_
 unfold FSx at h
 refine Ak fun _ l=>CM rfl j k fun s t _ m n=>Aq 2 rfl (l (Am fun _ o=>(AR B2 [] m n fun p _ q c=>?_)))
 have b:=KeepX.refl p []
 refine Ad 0 rfl a b (C5 FD rfl (Ad 1 rfl a b (C5 CL rfl (Ad 2 rfl a b (CJ 0 A4 rfl c rfl (by simp) (Ad 3 rfl a b (C5 HX rfl (Ad 4 rfl a b (CJ 0 A4 rfl c rfl (by simp) (Ad 5 rfl a b (Jp rfl rfl rfl (Ax 6 rfl a b (Ad 7 rfl a b (C5 Gy rfl (Ad 8 rfl a b (C5 CL rfl (Ad 9 rfl a b (CJ 0 A4 rfl c rfl (by simp) (Ad 10 rfl a b (C5 FD rfl (Ad 11 rfl a b (C5 CL rfl (Ad 12 rfl a b (CJ 0 A4 rfl c rfl (by simp) (Ad 13 rfl a b (GS rfl rfl rfl (Ad 14 rfl a b (Jp rfl rfl rfl (Ad 15 rfl a b (EA rfl rfl rfl (Ad 16 rfl a b (C5 FD rfl (Ad 17 rfl a b (C5 CK rfl (Ad 18 rfl a b (CJ 0 A4 rfl c rfl (by simp) (Ad 19 rfl a b (C5 HX rfl (Ad 20 rfl a b (CJ 0 A4 rfl c rfl (by simp) (Ad 21 rfl a b (Jp rfl rfl rfl (Ax 22 rfl a b (Ad 23 rfl a b (C5 Gy rfl (Ad 24 rfl a b (C5 CK rfl (Ad 25 rfl a b (CJ 0 A4 rfl c rfl (by simp) (Ad 26 rfl a b (C5 FD rfl (Ad 27 rfl a b (C5 CK rfl (Ad 28 rfl a b (CJ 0 A4 rfl c rfl (by simp) (Ad 29 rfl a b (GS rfl rfl rfl (Ad 30 rfl a b (Jp rfl rfl rfl (Ad 31 rfl a b (EA rfl rfl rfl (Ad 32 rfl a b (AD rfl rfl (Ad 33 rfl a b (AD rfl rfl (Ba (o (Aw (rt i rfl rfl (by cases h; exact ⟨rfl,q⟩))))))))))))))))))))))))))))))))))))))))))))))))))))))))))))))))))))))
theorem M6 (f:Ae) (a:Ae6) (c:Int) (d:Int) (r:(Int × Int)) (b:Gj a c d = some r) :
  A1 259 [(.agg #[(iv a.1.1),(iv a.1.2),(iv a.2.1.1),(iv a.2.1.2),(iv a.2.2)]),(iv c),(iv d)] f fun e w'=>e = .returned (.tuple #[(iv r.1),(iv r.2)]) ∧ Bl f w':=by
 refine cm Tryz.func259 Tryz.ntmps259 rfl fun Q h s i j=>?_
 unfold Gj at b
 refine Ak fun _ k=>CM rfl i j fun t l _ m g=>Aq 2 rfl (k (Ak fun _ n=>(AU 0 Cy rfl g rfl rfl (wp 3 rfl (Pn rfl rfl rfl (Bq HX rfl (AU 0 A4 rfl g rfl rfl (SU rfl rfl rfl (bB b fun u8 o b=>(A7 rfl Tryz.call258 (MN l a (Fr (FB (Ag (d - c)) 0) a.2.2) _ o) rfl ?_))))))))))
 rintro _ u ⟨rfl,p⟩
 refine ⟨_,rfl,?_⟩
 have q:=tm m p
 refine Aq 4 rfl (n (Aw (rt h rfl rfl (by cases b; exact ⟨rfl,q⟩))))
theorem Rv (a:Ae) (b:Int) (c:Int) (r:(Int × Int)) (d:JX b c = some r) :
  A1 273 [(.int .u64 b),(.int .u64 c)] a fun e w'=>e = .returned (.tuple #[(.int .u64 r.1),(.int .u64 r.2)]) ∧ Bl a w':=by
 refine cm Tryz.func273 Tryz.ntmps273 rfl fun Q f p g _=>?_
 unfold JX at d
 refine Al 2 rfl (Ak fun _ h=>(wp 1 rfl (I7 rfl rfl rfl (Aq 1 rfl (h (Ak fun _ i=>(wp 1 rfl (Gp rfl rfl rfl rfl (Aq 1 rfl (i (Ak fun _ j=>(wp 1 rfl (I7 rfl rfl rfl (Aq 1 rfl (j (Ak fun _ k=>(wp 1 rfl (Gp rfl rfl rfl rfl (Aq 1 rfl (k (Al 4 rfl (Ak fun _ l=>(wp 4 rfl (Gp rfl rfl rfl rfl (Aq 2 rfl (l (Ak fun _ m=>(wp 1 rfl (I7 rfl rfl rfl (Aq 1 rfl (m (Ak fun _ n=>(wp 1 rfl (Gp rfl rfl rfl rfl (Aq 1 rfl (n (Al 6 rfl (Ak fun _ o=>(wp 6 rfl (Gp rfl rfl rfl rfl (Aq 2 rfl (o (Al 4 rfl (Aw (rt f rfl rfl (by cases d; exact ⟨rfl,g⟩))))))))))))))))))))))))))))))))))))))))))))))
theorem Q7 (f:Ae) (h:Int) (i:Int) (j:Int) (k:Int) (r:Bool) (b:Ft h i j k = some r) :
  A1 260 [(iv h),(iv i),(iv j),(iv k)] f fun e w'=>e = .returned (.bool r) ∧ Bl f w':=by
 refine cm Tryz.func260 Tryz.ntmps260 rfl fun Q s hP t u=>?_
 unfold Ft at b
 refine Al 1 rfl (Ak fun _ v=>(wp 1 rfl (DX Tryz.underlying3 Tryz.underlying89 rfl rfl (wp 1 rfl (DX Tryz.underlying3 Tryz.underlying89 rfl rfl (bB b fun l w b=>(Bs rfl Tryz.call273 t u (Rv f (Bh h) (Bh k) _ w) rfl fun x _ y z=>(Aq 5 rfl (v (Ak fun _ aa=>(wp 1 rfl (DX Tryz.underlying3 Tryz.underlying89 rfl rfl (wp 1 rfl (DX Tryz.underlying3 Tryz.underlying89 rfl rfl (bB b fun m ab b=>Bs rfl Tryz.call273 y z (Rv x (Bh j) (Bh i) _ ab) rfl fun ai _ n o=>Aq 5 rfl (aa (Am fun ac ad=>?_)))))))))))))))))
 obtain ⟨ae,af,b⟩:=Ch b
 have p:∀ (q:Bool) (g:Ae) (_:ae q = some r) (_:Bl f g) (_:Sp f g []),∀ a,St 42 [(8,(.bool q))] a → ac a g:=by
  intro q g b ag aj
  subst af
  refine ad (Aw (rt s rfl rfl (by cases b; exact ⟨rfl,ag⟩)))
 refine As (wp 4 rfl ?_)
 rcases bE (decide (l.1 < m.1)) with c | c
 ·replace b:=B9 c b
  refine wo rfl c (wo rfl c (wo rfl c (wo rfl c (Dn rfl rfl rfl (Dn rfl rfl rfl (Dn rfl rfl rfl (wo rfl c (AA rfl rfl c rfl (Aq 1 rfl ?_)))))))))
  exact jx (p true _ b n (o.sel [] rfl)) rfl
 ·replace b:=Cf c b
  refine wn rfl c (wp 1 rfl (wn rfl c (wp 1 rfl (wn rfl c (wp 1 rfl (wn rfl c (wp 1 rfl ?_)))))))
  rcases bE (l.1 == m.1) with d | d
  ·replace b:=B9 d b
   refine wn rfl d (wp 1 rfl (wn rfl d (wp 1 rfl (wn rfl d (wp 1 rfl (wn rfl c (AA rfl rfl d rfl (A6 rfl rfl c rfl (Aq 1 rfl ?_)))))))))
   exact jx (p ((decide (l.2 < m.2))) _ b n (o.sel [] rfl)) rfl
  ·replace b:=Cf d b
   refine wo rfl d (wo rfl d (wo rfl d (wn rfl c (A6 rfl rfl d rfl (A6 rfl rfl c rfl (Aq 1 rfl ?_))))))
   exact jx (p false _ b n (o.sel [] rfl)) rfl
theorem Q8 (l:Ae) (f:Ae6) (g:Ae6) (n:Int) (o:Int) (r:(Int × Int)) (b:Gl f g n o = some r) :
  A1 239 [(.agg #[(iv f.1.1),(iv f.1.2),(iv f.2.1.1),(iv f.2.1.2),(iv f.2.2)]),(.agg #[(iv g.1.1),(iv g.1.2),(iv g.2.1.1),(iv g.2.1.2),(iv g.2.2)]),(iv n),(iv o)] l fun e w'=>e = .returned (.tuple #[(iv r.1),(iv r.2)]) ∧ Bl l w':=by
 refine cm Tryz.func239 Tryz.ntmps239 rfl fun Q hQ hP hB hS=>?_
 unfold Gl at b
 refine Ak fun _ a3=>CM rfl hB hS fun q w3 _ a4 a5=>CM rfl a4 a5 fun s w8 _ a7 ai=>Aq 2 rfl (a3 (Ak fun _ a8=>(AU 1 Cy rfl ai rfl rfl (bB b fun v a9 b=>(Bs rfl Tryz.call258 a7 ai (MN w8 f 0 _ a9) rfl fun ba _ bb aj=>(Aq 5 rfl (a8 (Ak fun _ bc=>(AU 0 Cy rfl aj rfl rfl (bB b fun w bd b=>(Bs rfl Tryz.call258 bb aj (MN ba g 0 _ bd) rfl fun cn _ be bf=>(Aq 5 rfl (bc (Al 8 rfl (Al 9 rfl (Am fun _ bg=>(Al 1 rfl (Az (AN (fun m a x=>∃ (h:Int) (i:Int) (t:Int) (u:Int) (p:Int),St 161 [(2,(iv n)),(3,(iv o)),(4,(.pointer (some ⟨q,0,none⟩))),(5,(.pointer (some ⟨s,0,none⟩))),(14,(iv h)),(15,(iv i)),(16,(iv t)),(17,(iv u)),(18,(iv p))] a ∧ Bl l x ∧ Sp l x [A9 q 187 [(iv f.1.1),(iv f.1.2),(iv f.2.1.1),(iv f.2.1.2),(iv f.2.2)],A9 s 187 [(iv g.1.1),(iv g.1.2),(iv g.2.1.1),(iv g.2.1.2),(iv g.2.2)]] ∧ C1 f n o g m h i t u p = some r) FU ?_ ?_)))))))))))))))))))
 ·exact fun a ha=>⟨(Ag (v.1 - w.1)),(Ag (v.2 - w.2)),(Ag ((Ag ((Ag (v.1 - w.1)) * (Ag (v.1 - w.1)))) + (Ag ((Ag (v.2 - w.2)) * (Ag (v.2 - w.2)))))),1,1,ha.sb rfl,be,(bf.sel [1,0] rfl),b⟩
 ·rintro y a x ⟨h,i,t,u,p,ha,ak,ac,b⟩ co bh
  refine BB ?_ ha
  cases y with
  | zero=>exact Be b
  | succ y =>
   obtain ⟨cp,al⟩:∃ k,k = C1 f n o g y:=⟨_,rfl⟩
   rw [C1,← al] at b
   refine Am fun _ bi=>Ak fun _ bj=>wp 1 rfl (Bq HX rfl (AU 0 A4 rfl ac rfl rfl (wp 2 rfl (Pn rfl rfl rfl (Aq 2 rfl (bj (A2 rfl b (fun _ b=>?_) (fun _ b=>?_))))))))
   ·refine Au (bi ?_)
    refine Am fun _ bk=>Az (Ak fun _ bl=>(AU 0 Cy rfl ac rfl rfl (wp 2 rfl (bB b fun c bm b=>(Bs rfl Tryz.call259 ak ac (M6 x f n p _ bm) rfl fun bn _ bo am=>(Aq 5 rfl (bl (Ak fun _ bp=>(AU 1 Cy rfl am rfl rfl (wp 2 rfl (bB b fun d bq b=>(Bs rfl Tryz.call259 bo am (M6 bn g o p _ bq) rfl fun cq _ an ao=>(Aq 5 rfl (bp (Al 12 rfl (Al 16 rfl (Al 17 rfl (Am fun br bs=>?_))))))))))))))))))
    obtain ⟨bt,bu,b⟩:=Nd b
    have ap:∀ (z:Int) (aa:Int) (ab:Ae) (_:bt z aa = some r) (_:Bl l ab) (_:Sp l ab [A9 q 187 [(iv f.1.1),(iv f.1.2),(iv f.2.1.1),(iv f.2.1.2),(iv f.2.2)],A9 s 187 [(iv g.1.1),(iv g.1.2),(iv g.2.1.1),(iv g.2.1.2),(iv g.2.2)]]),∀ a,St 161 [(2,(iv n)),(3,(iv o)),(4,(.pointer (some ⟨q,0,none⟩))),(5,(.pointer (some ⟨s,0,none⟩))),(10,(iv c.1)),(11,(iv c.2)),(12,(iv d.1)),(13,(iv d.2)),(16,(iv t)),(17,(iv u)),(18,(iv p)),(23,(iv z)),(24,(iv aa))] a → br a ab:=by
     intro z aa ab b bv bw
     subst bu
     refine bs (Am fun bx bz=>?_)
     obtain ⟨b0,b1,b⟩:=Nd b
     have aq:∀ (ad:Int) (ae:Int) (af:Ae) (_:b0 ad ae = some r) (_:Bl l af) (_:Sp l af [A9 q 187 [(iv f.1.1),(iv f.1.2),(iv f.2.1.1),(iv f.2.1.2),(iv f.2.2)],A9 s 187 [(iv g.1.1),(iv g.1.2),(iv g.2.1.1),(iv g.2.1.2),(iv g.2.2)]]),∀ a,St 161 [(2,(iv n)),(3,(iv o)),(4,(.pointer (some ⟨q,0,none⟩))),(5,(.pointer (some ⟨s,0,none⟩))),(10,(iv c.1)),(11,(iv c.2)),(12,(iv d.1)),(13,(iv d.2)),(16,(iv ad)),(17,(iv ae)),(18,(iv p))] a → bx a af:=by
      intro ad ae af b b3 b4
      subst b1
      refine bz (As (Aq 8 rfl (bk (As (Aq 3 rfl ?_)))))
      rw [al] at b
      exact fun a ha=>bh a _ y (AB y) ⟨(Ag (c.1 - d.1)),(Ag (c.2 - d.2)),ad,ae,(Ag (p + 1)),ha.sb rfl,b3,(b4.sel [0,1] rfl),b⟩
     refine Ak fun _ b5=>wp 4 rfl (bB b fun cr b6 b=>(Bs rfl Tryz.call260 bv bw (Q7 ab z aa t u _ b6) rfl fun cs _ ar au=>(Ah (b5 (A2 rfl b (fun _ b=>?_) (fun _ b=>?_))))))
     ·refine As ?_
      refine Aq 4 rfl ?_
      exact jx (aq z aa _ b ar (au.sel [0,1] rfl)) rfl
     ·refine Au ?_
      exact jx (aq t u _ b ar (au.sel [0,1] rfl)) rfl
    refine Am fun b8 b9=>?_
    obtain ⟨ca,cb,b⟩:=Ch b
    have av:∀ (ah:Bool) (ag:Ae) (_:ca ah = some r) (_:Bl l ag) (_:Sp l ag [A9 q 187 [(iv f.1.1),(iv f.1.2),(iv f.2.1.1),(iv f.2.1.2),(iv f.2.2)],A9 s 187 [(iv g.1.1),(iv g.1.2),(iv g.2.1.1),(iv g.2.1.2),(iv g.2.2)]]),∀ a,St 161 [(2,(iv n)),(3,(iv o)),(4,(.pointer (some ⟨q,0,none⟩))),(5,(.pointer (some ⟨s,0,none⟩))),(10,(iv c.1)),(11,(iv c.2)),(12,(iv d.1)),(13,(iv d.2)),(14,(iv h)),(15,(iv i)),(16,(iv t)),(17,(iv u)),(18,(iv p)),(19,(iv (Ag ((Ag (c.1 - d.1)) - h)))),(20,(iv (Ag ((Ag (c.2 - d.2)) - i)))),(22,(iv (Ag ((Ag ((Ag ((Ag (c.1 - d.1)) - h)) * (Ag ((Ag (c.1 - d.1)) - h)))) + (Ag ((Ag ((Ag (c.2 - d.2)) - i)) * (Ag ((Ag (c.2 - d.2)) - i)))))))),(23,(iv (Ag ((Ag ((Ag (c.1 - d.1)) * (Ag (c.1 - d.1)))) + (Ag ((Ag (c.2 - d.2)) * (Ag (c.2 - d.2)))))))),(24,(iv 1)),(119,(.bool ah))] a → b8 a ag:=by
     intro ah ag b aw ax
     subst cb
     refine b9 (A2 rfl b (fun _ b=>?_) (fun _ b=>?_))
     ·refine Al 8 rfl ?_
      refine As (Aq 6 rfl ?_)
      exact jx (ap ((Ag ((Ag ((Ag (h * (Ag ((Ag (c.2 - d.2)) - i)))) - (Ag (i * (Ag ((Ag (c.1 - d.1)) - h)))))) * (Ag ((Ag (h * (Ag ((Ag (c.2 - d.2)) - i)))) - (Ag (i * (Ag ((Ag (c.1 - d.1)) - h))))))))) ((Ag ((Ag ((Ag ((Ag (c.1 - d.1)) - h)) * (Ag ((Ag (c.1 - d.1)) - h)))) + (Ag ((Ag ((Ag (c.2 - d.2)) - i)) * (Ag ((Ag (c.2 - d.2)) - i))))))) _ b aw (ax.sel [0,1] rfl)) rfl
     ·refine Au ?_
      exact jx (ap ((Ag ((Ag ((Ag (c.1 - d.1)) * (Ag (c.1 - d.1)))) + (Ag ((Ag (c.2 - d.2)) * (Ag (c.2 - d.2))))))) 1 _ b aw (ax.sel [0,1] rfl)) rfl
    refine As (wp 3 rfl ?_)
    rcases bE (decide ((Ag ((Ag (h * (Ag ((Ag (c.1 - d.1)) - h)))) + (Ag (i * (Ag ((Ag (c.2 - d.2)) - i)))))) < 0)) with j | j
    ·replace b:=B9 j b
     refine wn rfl j (wp 1 rfl (wn rfl j (wp 1 rfl (wn rfl j (wp 1 rfl (wn rfl j (wp 1 rfl (AA rfl rfl j rfl (Ah ?_)))))))))
     exact jx (av ((decide ((Ag (0 - (Ag ((Ag (h * (Ag ((Ag (c.1 - d.1)) - h)))) + (Ag (i * (Ag ((Ag (c.2 - d.2)) - i)))))))) < (Ag ((Ag ((Ag ((Ag (c.1 - d.1)) - h)) * (Ag ((Ag (c.1 - d.1)) - h)))) + (Ag ((Ag ((Ag (c.2 - d.2)) - i)) * (Ag ((Ag (c.2 - d.2)) - i))))))))) _ b an (ao.sel [0,1] rfl)) rfl
    ·replace b:=Cf j b
     refine wo rfl j (wo rfl j (wo rfl j (wo rfl j (A6 rfl rfl j rfl (Ah ?_)))))
     exact jx (av false _ b an (ao.sel [0,1] rfl)) rfl
   ·refine Bc (bg ?_)
    refine Ak fun _ cc=>wp 2 rfl (bB b fun ay cd b=>(Bs rfl Tryz.call261 ak ac (Lh x t u _ cd) rfl fun ce _ cf az=>(Aq 5 rfl (cc (Ak fun _ cg=>(wp 2 rfl (Bq HX rfl (AU 0 A4 rfl az rfl rfl (wp 1 rfl (Bq HX rfl (AU 0 A4 rfl az rfl rfl (wp 1 rfl (bB b fun ct ch b=>(A7 rfl Tryz.call261 (Lh ce ay.1 (Ag ((Ag (ay.2 * f.2.2)) * f.2.2)) _ ch) rfl ?_))))))))))))))
    rintro _ cu ⟨rfl,ci⟩
    refine ⟨_,rfl,?_⟩
    have cj:=tm cf ci
    refine Aq 4 rfl (cg (Aw (rt hQ rfl rfl (by cases b; exact ⟨rfl,cj⟩))))
theorem KG (g:Ae) (a:Ae6) (b:Ae6) (d:Int) (f:Int) (h:Int) (r:Bool) (c:Gm a b d f h = some r) :
  A1 220 [(.agg #[(iv a.1.1),(iv a.1.2),(iv a.2.1.1),(iv a.2.1.2),(iv a.2.2)]),(.agg #[(iv b.1.1),(iv b.1.2),(iv b.2.1.1),(iv b.2.1.2),(iv b.2.2)]),(iv d),(iv f),(iv h)] g fun e w'=>e = .returned (.bool r) ∧ Bl g w':=by
 refine cm Tryz.func220 Tryz.ntmps220 rfl fun Q j w k l=>?_
 unfold Gm at c
 refine Ak fun _ m=>CM rfl k l fun x y _ n o=>CM rfl n o fun z p _ q i=>Aq 1 rfl (m (Ak fun _ s=>(AU 1 Cy rfl i rfl rfl (AU 0 Cy rfl i rfl rfl (wp 2 rfl (bB c fun aa t c=>(A7 rfl Tryz.call239 (Q8 p a b d f _ t) rfl ?_)))))))
 rintro _ ab ⟨rfl,u⟩
 refine ⟨_,rfl,?_⟩
 have v:=tm q u
 refine Aq 5 rfl (s (Al 8 rfl (Aw (rt j rfl rfl (by cases c; exact ⟨rfl,v⟩)))))
theorem Q9 (g:Ae) (n:(Ae4 × Ae4 × Int × (List Int))) (ae:Ac) (a6:RO Ar g ae n.1) (af:Ac) (a7:RO Ar g af n.2.1) (ag:Ac) (a8:RO Ao g ag n.2.2.2) (o:(List Int)) (q:Ac) (ao:RO Ao g q o) (h:Int) (r:Ae9) (b:Hx n o h = some r) :
  A1 217 [(.agg #[ae,af,(iv n.2.2.1),ag]),q,(iv h)] g fun e w'=>∃ (q0:Ac) (G0:An),e = .returned q0 ∧ Bl g w' ∧ Sp g w' [Ab Cn G0 q0 r]:=by
 refine cm Tryz.func217 Tryz.ntmps217 rfl fun Q hQ d hB hS=>?_
 unfold Hx at b
 refine Ak fun _ bd=>CM rfl hB hS fun b2 w3 _ x aq=>Aq 1 rfl (bd (Ak fun _ bf=>(AU 0 Bp rfl aq rfl rfl (bB b fun u8 bg b=>(En rfl Tryz.call219 x aq (MO w3 n ae (a6.ro x) af (a7.ro x) ag (a8.ro x) _ bg) rfl fun p ah cx _ _ bh bi=>(TS (e:=Cn) Tryz.underlying155 rfl bh bi fun bj bk cy _ bl ar=>(Aq 2 rfl (bf (Am fun _ bm=>(Ak fun _ bn=>(wp 1 rfl (BQ (ar.own_ro (i:=1) rfl) Tryz.underlying184 rfl (Aq 1 rfl (bn (Az (AN (fun m a ai=>∃ (y:Ae9) (f:Int) (s:Ac) (z:An),St 53 [(1,q),(2,(iv h)),(7,p),(8,s),(15,(iv (List.length u8:Int))),(16,(iv f))] a ∧ Bl g ai ∧ Sp g ai [Ab C3 ah p u8,Ab Cn z s y] ∧ D9 u8 o h m y f = some r) FU ?_ ?_))))))))))))))))
 ·exact fun a ha=>⟨[],0,bj,bk,ha.sb rfl,bl,(ar.sel [1,0] rfl),b⟩
 ·rintro t a ai ⟨y,f,s,z,ha,au,av,b⟩ cz bo
  refine BB ?_ ha
  cases t with
  | zero=>exact Be b
  | succ t =>
   obtain ⟨aw,ax⟩:∃ k,k = D9 u8 o h t:=⟨_,rfl⟩
   rw [D9,← ax] at b
   refine Al 1 rfl (Am fun _ bp=>(A2 rfl b (fun _ b=>?_) (fun _ b=>?_)))
   ·refine Au (bp ?_)
    refine Am fun _ bq=>Az (Al 2 rfl (Al 3 rfl (Az (AN (fun m a aj=>∃ (u:Ae9) (j:Int) (v:Ac) (aa:An),St 53 [(1,q),(2,(iv h)),(7,p),(8,v),(9,(iv f)),(10,(iv j)),(15,(iv (List.length u8:Int))),(16,(iv f))] a ∧ Bl g aj ∧ Sp g aj [Ab C3 ah p u8,Ab Cn aa v u] ∧ D8 u8 f o h aw m u j = some r) FU ?_ ?_))))
    ·exact fun a ha=>⟨y,(Ag (f + 1)),s,z,ha.sb rfl,au,(av.sel [0,1] rfl),b⟩
    ·rintro w a aj ⟨u,j,v,aa,ha,ay,ak,b⟩ c0 br
     refine BB ?_ ha
     cases w with
     | zero=>exact Be b
     | succ w =>
      obtain ⟨c1,az⟩:∃ k,k = D8 u8 f o h aw w:=⟨_,rfl⟩
      rw [D8,← az] at b
      refine Am fun _ bs=>Ak fun _ bt=>wp 2 rfl (BQ (ak.own_ro (i:=0) rfl) Tryz.underlying184 rfl (Aq 1 rfl (bt (A2 rfl b (fun _ b=>?_) (fun _ b=>?_)))))
      ·refine Au (bs ?_)
       refine Am fun bu bv=>?_
       obtain ⟨bw,bx,b⟩:=Ch b
       have a0:∀ (ab:Ae9) (ac:Ac) (al:An) (ad:Ae) (_:bw ab = some r) (_:Bl g ad) (_:Sp g ad [Ab C3 ah p u8,Ab Cn al ac ab]),∀ a,St 53 [(1,q),(2,(iv h)),(7,p),(8,ac),(9,(iv f)),(10,(iv j)),(15,(iv (List.length u8:Int))),(16,(iv f))] a → bu a ad:=by
        intro ab ac al ad b bz b0
        subst bx
        refine bv (As (Aq 3 rfl ?_))
        rw [az] at b
        exact fun a ha=>br a _ w (AB w) ⟨ab,(Ag (j + 1)),ac,al,ha.sb rfl,bz,(b0.sel [0,1] rfl),b⟩
       refine Az (Am fun _ b1=>(AR B2 [] ay ak fun a1 _ am an=>?_))
       have c:=KeepX.refl a1 []
       refine Ax 0 rfl d c (Ax 1 rfl d c (bB b fun b3 b4 b=>(Ad 2 rfl d c (Bv (e:=C3) (i:=0) Tryz.underlying184 rfl rfl rfl an rfl b4 ?_))))
       rintro c2 _ rfl b5 c3
       refine Ad 3 rfl d c (BJ Cy rfl (b5.kx0) rfl (Ax 4 rfl d c (Ax 5 rfl d c (bB b fun b6 b7 b=>(Ad 6 rfl d c (Bv (e:=C3) (i:=0) Tryz.underlying184 rfl rfl rfl an rfl b7 ?_))))))
       rintro c4 _ rfl b8 c5
       refine Ad 7 rfl d c (BJ Cy rfl (b8.kx0) rfl (Ax 8 rfl d c (Ax 9 rfl d c (bB b fun b9 ca b=>(Ad 10 rfl d c (BA (e:=Ao) Tryz.underlying36 rfl rfl rfl ao ca ?_))))))
       rintro c6 _ rfl cb
       refine Ad 11 rfl d c (BJ A4 rfl (cb.kx am (by simp)) rfl (Ax 12 rfl d c (Ax 13 rfl d c (bB b fun cc cd b=>(Ad 14 rfl d c (BA (e:=Ao) Tryz.underlying36 rfl rfl rfl ao cd ?_))))))
       rintro c7 _ rfl ce
       refine Ad 15 rfl d c (BJ A4 rfl (ce.kx am (by simp)) rfl (Ax 16 rfl d c (Av 17 rfl (bB b fun c8 cf b=>(Bs rfl Tryz.call220 am an (KG a1 b3 b6 b9 cc h _ cf) rfl fun c9 cg a2 a3=>?_)))))
       have ch:=c.ext cg
       refine Ah (Ap ch (Ba (b1 (A2 rfl b (fun _ b=>?_) (fun _ b=>?_)))))
       ·refine As ?_
        refine wp 3 rfl (Bb (vs:=[(iv f),(iv j)]) (l:=[f,j]) Ca Tryz.underlying36 rfl rfl rfl rfl rfl rfl a2 a3 fun a4 ci da _ cj a5=>?_)
        have ck:=a5.sel [0,1,2] rfl
        have cl:=ck.head (r':=Qi Cn ci [a4] [f,j]) (rfl) fun _ h0=>⟨_,rfl,h0⟩
        refine NE (e:=Cn) (vs:=[a4]) Tryz.underlying155 rfl rfl (Cl (a5.own_ro (i:=0) rfl).one) rfl cj cl fun db dc dd _ _ co cp=>bB b fun cq cr b=>Lk (e:=Cn) Tryz.underlying155 rfl rfl rfl co (cp.sel [2,0,1] rfl) cr fun cs ct de _ cu cv=>Aq 1 rfl ?_
        exact jx (a0 cq cs ct _ b cu (cv.sel [1,0] rfl)) rfl
       ·refine Au ?_
        exact jx (a0 u v aa _ b a2 (a3.sel [0,1] rfl)) rfl
      ·refine Bc (bq ?_)
       refine As (Aq 2 rfl ?_)
       rw [ax] at b
       exact fun a ha=>bo a _ t (AB t) ⟨u,(Ag (f + 1)),v,aa,ha.sb rfl,ay,(ak.sel [0,1] rfl),b⟩
   ·refine Bc (bm ?_)
    refine Al 2 rfl (Aw (rt hQ rfl rfl (by cases b; exact ⟨s,z,rfl,au,av.sel [1] rfl⟩)))
theorem M7 (f:Ae) (b:(Ae4 × Ae4 × Int × (List Int))) (j:Ac) (q:RO Ar f j b.1) (k:Ac) (w:RO Ar f k b.2.1) (m:Ac) (x:RO Ao f m b.2.2.2) (n:Int) (r:Bool) (c:Gk b n = some r) :
  A1 179 [(.agg #[j,k,(iv b.2.2.1),m]),(iv n)] f fun e w'=>e = .returned (.bool r) ∧ Bl f w':=by
 refine cm Tryz.func179 Tryz.ntmps179 rfl fun Q y a z hS=>?_
 unfold Gk at c
 refine Ak fun _ ab=>CM rfl z hS fun b2 w3 _ ac ad=>Aq 1 rfl (ab (Am fun _ ae=>(AR B2 [] ac ad fun s _ t o=>?_)))
 have d:=KeepX.refl s []
 refine Ad 0 rfl a d (CJ 0 Bp rfl o rfl (by simp) (Ad 1 rfl a d (C5 E2 rfl (Ad 2 rfl a d (CJ 0 Cp rfl o rfl (by simp) (Ad 3 rfl a d (LU (e:=Ar) (l:=b.1) Tryz.underlying26 rfl rfl q (Ax 5 rfl a d (Av 4 rfl (bB c fun af ag c=>(ND (e:=Ao) Tryz.underlying36 rfl rfl ag (Bg s) (Sep.nil _ _) fun ah ar ai p _ aj=>?_)))))))))))
 have g:=tm t p
 have u:=o.join p aj t.size
 have v:=d.ext p
 refine Ah (Ap v (Av 6 rfl (bB c fun ak al c=>(En rfl Tryz.call217 g u (Q9 ai b j (q.ro g) k (w.ro g) m (x.ro g) af ah (u.own_ro (i:=0) rfl) n _ al) rfl fun au av aw am _ an ao=>?_))))
 have h:=v.ext am
 refine Ah (Ap h (Ad 7 rfl a h (LU (e:=Cn) (l:=ak) Tryz.underlying155 rfl rfl (ao.own_ro (i:=0) rfl) (Ad 8 rfl a h (Pv rfl rfl rfl (Ad 9 rfl a h (AD rfl rfl (Ba (ae (Aw (rt y rfl rfl (by cases c; exact ⟨rfl,an⟩))))))))))))
theorem RL (m:Ae) (l:(Ae4 × Ae4 × Int × (List Int))) (af:Ac) (ba:RO Ar m af l.1) (ag:Ac) (bb:RO Ar m ag l.2.1) (ah:Ac) (bc:RO Ao m ah l.2.2.2) (x1:Int) (x2:Int) (r:(Ae4 × Ae4 × Int × (List Int))) (d:Ii l x1 x2 = some r) :
  A1 218 [(.agg #[af,ag,(iv l.2.2.1),ah]),(iv x1),(iv x2)] m fun e w'=>∃ (q0:Ac) (G0:An) (q1:Ac) (G1:An) (q2:Ac) (G2:An),e = .returned (.agg #[q0,q1,(iv r.2.2.1),q2]) ∧ Bl m w' ∧ Sp m w' [Ab Ar G0 q0 r.1,Ab Ar G1 q1 r.2.1,Ab Ao G2 q2 r.2.2.2]:=by
 refine cm Tryz.func218 Tryz.ntmps218 rfl fun Q hQ f hB hS=>?_
 unfold Ii at d
 refine Ak fun _ bj=>CM rfl hB hS fun b2 w3 _ bk bl=>Ep Bp rfl bk bl fun b7 w8 _ w x=>Ah (bj (Ak fun _ bn=>(Bq E2 rfl (AU 1 Cp rfl x rfl rfl (Bq KZ rfl (AU 1 Cp rfl x rfl rfl (Bq KY rfl (AU 1 A4 rfl x rfl rfl (Bq Gz rfl (AU 1 EQ rfl x rfl rfl (bB d fun k bo d=>(A7 rfl Tryz.call170 (Kh w8 l.1 af (ba.ro w) l.2.1 ag (bb.ro w) l.2.2.1 l.2.2.2 ah (bc.ro w) _ bo) rfl ?_))))))))))))
 rintro _ co ⟨n,au,p,av,ac,q,rfl,aw,bp⟩
 refine ⟨_,rfl,?_⟩
 have bq:=tm w aw
 have br:=x.join aw bp w.size
 refine Ep Bp rfl bq br fun t cp _ bs ad=>BC (i:=0) (vs:=[n,p,(iv k.2.2.1),ac]) (cs':=[n,p,(iv k.2.2.1),ac]) Bp rfl rfl rfl rfl bs ad rfl rfl ⟨(ad.own_ro (i:=1) rfl).one,(ad.own_ro (i:=2) rfl).one,rfl,(ad.own_ro (i:=3) rfl).one,trivial⟩ rfl fun cq _ bt bu=>Ah (bn (Am fun bv bw=>?_))
 obtain ⟨bx,bz,d⟩:=Ch d
 have ax:∀ (ai:(List Int)) (s:Ac) (aj:An) (ae:Ae) (_:bx ai = some r) (_:Bl m ae) (_:Sp m ae [A9 b7 128 [(.slice none 0 0),(.slice none 0 0),(iv 0),(.slice none 0 0)],Ab Ar au n k.1,Ab Ar av p k.2.1,Ab Ao aj s ai,A9 t 128 [n,p,(iv k.2.2.1),s]]),∀ a,St 36 [(6,(.pointer (some ⟨b7,0,none⟩))),(7,(.pointer (some ⟨t,0,none⟩)))] a → bv a ae:=by
  intro ai s aj ae d b0 y
  subst bz
  refine bw (Ak fun _ b1=>(AU 4 Bp rfl y rfl rfl (BC (i:=0) (vs:=[n,p,(iv k.2.2.1),s]) (cs':=[n,p,(iv k.2.2.1),s]) Bp rfl rfl rfl rfl b0 y rfl rfl ⟨(y.own_ro (i:=1) rfl).one,(y.own_ro (i:=2) rfl).one,rfl,(y.own_ro (i:=3) rfl).one,trivial⟩ rfl fun cr _ b3 ay=>(Ah (b1 (Aw ?_))))))
  obtain rfl:=Option.some.inj d
  exact J9 (vs:=[(.agg #[n,p,(iv k.2.2.1),s])]) hQ rfl ⟨Hh (i:=0) Bp rfl ay rfl rfl rfl,trivial⟩ ⟨n,au,p,av,s,aj,rfl,b3,ay.sel [1,2,3] rfl⟩
 refine AR B2 q bt bu fun z _ az g=>?_
 have c:=KeepX.refl z q
 refine Ad 0 rfl f c (C5 Gz rfl (Ad 1 rfl f c (CJ 0 EQ rfl g rfl (g.disj (i:=0) (j:=3) rfl rfl rfl t (by simp [A9])) (Ax 2 rfl f c (Ad 3 rfl f c (C5 Gz rfl (Ad 4 rfl f c (CJ 0 EQ rfl g rfl (g.disj (i:=0) (j:=3) rfl rfl rfl t (by simp [A9])) (Ax 5 rfl f c (Ad 6 rfl f c (C5 Gz rfl (Ad 7 rfl f c (CJ 0 EQ rfl g rfl (g.disj (i:=0) (j:=3) rfl rfl rfl t (by simp [A9])) (Ax 8 rfl f c (bB d fun u b4 d=>(Ad 9 rfl f c (Bv (e:=Ao) (i:=3) Tryz.underlying36 rfl rfl rfl g rfl b4 ?_)))))))))))))))))
 rintro cs _ rfl a0 ct
 refine Ad 11 rfl f c (C5 Gz rfl (Ad 12 rfl f c (CJ 0 EQ rfl g rfl (g.disj (i:=0) (j:=3) rfl rfl rfl t (by simp [A9])) (Ax 13 rfl f c (bB d fun v b5 d=>(Ad 14 rfl f c (Bv (e:=Ao) (i:=3) Tryz.underlying36 rfl rfl rfl g rfl b5 ?_)))))))
 rintro cu _ rfl a1 cv
 refine Cz (is:=[10,15]) (by kernel_rfl) rfl (Bd.2 ⟨⟨_,rfl,?_⟩,Bd.2 ⟨⟨_,rfl,?_⟩,fun _ h=>by cases h⟩⟩)
 ·refine BV A4 rfl a0 rfl ?_
  refine Ah (Ap c (Av 15 rfl (BV A4 rfl a1 rfl (Ah (Ap c (bB d fun cw a2 d=>(Ad 16 rfl f c (Bv (e:=Ao) (i:=3) Tryz.underlying36 rfl rfl rfl g rfl a2 ?_))))))))
  rintro cx _ rfl cy b6
  refine Av 17 rfl (BO (i:=3) (o:=0) (vs:=[(iv u)]) (u':=u) Ca A4 rfl rfl rfl rfl b6 a2 az g rfl rfl ⟨rfl,trivial⟩ rfl fun cz ak b8 a3=>?_)
  have al:=c.wr' ak.1 ak.2.1 (fun _ _ h=>h)
  have b9:∀ b,b < z.heap.size → b ∈ q → b ∈ q:=fun b hlt hb=>(ak.2.2 b hb).elim ((fun _ _ h=>h) b hlt) (fun h=>absurd hlt (AK.2 (Ay (Nat.le_refl z.heap.size) h)))
  refine Ah (Ap al (Av 18 rfl (bB d fun c0 a4 d=>(Cj (e:=Ao) (i:=3) Tryz.underlying36 rfl rfl rfl a3 rfl a4 ?_))))
  rintro c1 _ rfl c2 ca
  refine Ah (Ap al (Av 19 rfl (BO (i:=3) (o:=0) (vs:=[(iv v)]) (u':=v) Ca A4 rfl rfl rfl rfl ca a4 b8 a3 rfl rfl ⟨rfl,trivial⟩ rfl fun c3 a5 cb cc=>?_)))
  have cd:=al.wr' a5.1 a5.2.1 (b9)
  refine Ah (Ap cd (Ba ?_))
  exact jx (ax ((BE (BE k.2.2.2 x1 u) x2 v)) ac q _ d cb (cc.sel [4,1,2,3,0] rfl)) rfl
 ·refine BV A4 rfl a1 rfl ?_
  refine Ah (Ap c (Av 10 rfl (BV A4 rfl a0 rfl (Ah (Ap c (bB d fun c4 a6 d=>(Ad 16 rfl f c (Bv (e:=Ao) (i:=3) Tryz.underlying36 rfl rfl rfl g rfl a6 ?_))))))))
  rintro c5 _ rfl c6 ce
  refine Av 17 rfl (BO (i:=3) (o:=0) (vs:=[(iv u)]) (u':=u) Ca A4 rfl rfl rfl rfl ce a6 az g rfl rfl ⟨rfl,trivial⟩ rfl fun c7 am cf a7=>?_)
  have an:=c.wr' am.1 am.2.1 (fun _ _ h=>h)
  have cg:∀ b,b < z.heap.size → b ∈ q → b ∈ q:=fun b hlt hb=>(am.2.2 b hb).elim ((fun _ _ h=>h) b hlt) (fun h=>absurd hlt (AK.2 (Ay (Nat.le_refl z.heap.size) h)))
  refine Ah (Ap an (Av 18 rfl (bB d fun c8 a8 d=>(Cj (e:=Ao) (i:=3) Tryz.underlying36 rfl rfl rfl a7 rfl a8 ?_))))
  rintro c9 _ rfl da ch
  refine Ah (Ap an (Av 19 rfl (BO (i:=3) (o:=0) (vs:=[(iv v)]) (u':=v) Ca A4 rfl rfl rfl rfl ch a8 cf a7 rfl rfl ⟨rfl,trivial⟩ rfl fun db a9 ci cj=>?_)))
  have ck:=an.wr' a9.1 a9.2.1 (cg)
  refine Ah (Ap ck (Ba ?_))
  exact jx (ax ((BE (BE k.2.2.2 x1 u) x2 v)) ac q _ d ci (cj.sel [4,1,2,3,0] rfl)) rfl
theorem RM (f:Ae) (c:(Ae4 × Ae4 × Int × (List Int))) (j:Ac) (w:RO Ar f j c.1) (l:Ac) (ag:RO Ar f l c.2.1) (n:Ac) (ah:RO Ao f n c.2.2.2) (g:Int) (r:(Int × Int × Bool)) (b:Ij c g = some r) :
  A1 180 [(.agg #[j,l,(iv c.2.2.1),n]),(iv g)] f fun e w'=>e = .returned (.tuple #[(iv r.1),(iv r.2.1),(.bool r.2.2)]) ∧ Bl f w':=by
 refine cm Tryz.func180 Tryz.ntmps180 rfl fun Q y hP hB hS=>?_
 unfold Ij at b
 refine Ak fun _ ak=>CM rfl hB hS fun s w3 _ al z=>Aq 3 rfl (ak (Am fun _ am=>(Ak fun _ an=>(Bq E2 rfl (AU 0 Cp rfl z rfl rfl (BQ w Tryz.underlying26 rfl (Aq 1 rfl (an (Az (AN (fun m a x=>∃ (d:Int),St 33 [(1,(iv g)),(2,(.pointer (some ⟨s,0,none⟩))),(11,(iv (List.length c.1:Int))),(12,(iv d))] a ∧ Bl f x ∧ Sp f x [A9 s 128 [j,l,(iv c.2.2.1),n]] ∧ Dm c g m d = some r) FU ?_ ?_))))))))))
 ·exact fun a ha=>⟨0,ha.sb rfl,al,(z.sel [0] rfl),b⟩
 ·rintro o a x ⟨d,ha,aa,ao,b⟩ bb ap
  refine BB ?_ ha
  cases o with
  | zero=>exact Be b
  | succ o =>
   obtain ⟨ab,ac⟩:∃ k,k = Dm c g o:=⟨_,rfl⟩
   rw [Dm,← ac] at b
   refine Al 1 rfl (Am fun _ aq=>(A2 rfl b (fun _ b=>?_) (fun _ b=>?_)))
   ·refine Au (aq ?_)
    refine Am fun _ ar=>Az (Al 2 rfl (Al 3 rfl (Az (AN (fun m a t=>∃ (p:Int),St 33 [(1,(iv g)),(2,(.pointer (some ⟨s,0,none⟩))),(7,(iv d)),(8,(iv p)),(11,(iv (List.length c.1:Int))),(12,(iv d))] a ∧ Bl f t ∧ Sp f t [A9 s 128 [j,l,(iv c.2.2.1),n]] ∧ Eh c d g ab m p = some r) FU ?_ ?_))))
    ·exact fun a ha=>⟨(Ag (d + 1)),ha.sb rfl,aa,(ao.sel [0] rfl),b⟩
    ·rintro q a t ⟨p,ha,h,u,b⟩ bc au
     refine BB ?_ ha
     cases q with
     | zero=>exact Be b
     | succ q =>
      obtain ⟨bd,ad⟩:∃ k,k = Eh c d g ab q:=⟨_,rfl⟩
      rw [Eh,← ad] at b
      refine Am fun _ av=>Ak fun _ aw=>wp 1 rfl (Bq E2 rfl (AU 0 Cp rfl u rfl rfl (BQ w Tryz.underlying26 rfl (Aq 1 rfl (aw (A2 rfl b (fun _ b=>?_) (fun _ b=>?_)))))))
      ·refine Au (av ?_)
       refine Am fun _ ax=>Az (Ak fun _ ay=>(AU 0 Bp rfl u rfl rfl (wp 2 rfl (bB b fun az a0 b=>(A7 rfl Tryz.call218 (RL t c j (w.ro h) l (ag.ro h) n (ah.ro h) d p _ a0) rfl ?_)))))
       rintro _ a1 ⟨a2,be,a3,bf,a4,bg,rfl,ae,a5⟩
       refine ⟨_,rfl,?_⟩
       have a6:=tm h ae
       have v:=u.join ae a5 h.size
       refine wp 1 rfl (bB b fun bh a7 b=>(Bs rfl Tryz.call179 a6 v (M7 a1 az a2 (v.own_ro (i:=0) rfl) a3 (v.own_ro (i:=1) rfl) a4 (v.own_ro (i:=2) rfl) g _ a7) rfl fun bi _ af a8=>(Ah (ay (A2 rfl b (fun _ b=>?_) (fun _ b=>?_))))))
       ·refine Al 5 rfl ?_
        refine Aw (rt y rfl rfl (by cases b; exact ⟨rfl,af⟩))
       ·refine Au (ax ?_)
        refine As (Aq 3 rfl ?_)
        rw [ad] at b
        exact fun a ha=>au a _ q (AB q) ⟨(Ag (p + 1)),ha.sb rfl,af,(a8.sel [3] rfl),b⟩
      ·refine Bc (ar ?_)
       refine As (Aq 2 rfl ?_)
       rw [ac] at b
       exact fun a ha=>ap a _ o (AB o) ⟨(Ag (d + 1)),ha.sb rfl,h,(u.sel [0] rfl),b⟩
   ·refine Bc (am ?_)
    refine Al 3 rfl (Aw (rt y rfl rfl (by cases b; exact ⟨rfl,aa⟩)))
theorem NC:∀ (m:Nat) (d:Ae) (p:Ae8) (f:Nat) (q:An) (c:(List Int)) (g:Ac) (n:An) (s:Int) (ar:Sep 0 d [A3 CB 212 q f p,Ab Ao n g c]) (r:Ae8) (b:Co m p c s = some r),
  A1 221 [(.pointer (some ⟨f,0,none⟩)),g,(iv s)] d fun e w'=>∃ (H_0:An),e = .returned (.tuple #[]) ∧ Below 0 (wE d) w' ∧ Sep 0 w' [A5 d (Bf [A3 CB 212 q f p,Ab Ao n g c]),A3 CB 212 H_0 f r]:=by
 intro m
 induction m with
 | zero =>
  intro d p f q c g n s ar r b
  exact Be b
 | succ m ih =>
  intro d p f q c g n s ar r b
  replace b:EP (Co m) p c s = some r:=b
  obtain ⟨rec,hrec⟩:∃ k,k = Co m:=⟨_,rfl⟩
  rw [← hrec] at b ih
  refine Jt Tryz.func221 rfl Tryz.ntmps221 rfl rfl fun Q hQn hQ hP=>?_
  have hB:Bl (wE d) d:=Ek d
  have hS:Sp (wE d) d [A5 d (Bf [A3 CB 212 q f p,Ab Ao n g c]),A3 CB 212 q f p,Ab Ao n g c]:=ar.rest
  unfold EP at b
  refine Ak fun _ bt=>wp 1 rfl (BQ (hS.own_ro (i:=2) rfl) Tryz.underlying36 rfl (Aq 1 rfl (bt (Am fun _ bu=>(Am fun K3 bw=>?_)))))
  obtain ⟨bx,bz,b⟩:=Nd b
  have ba:∀ (v:Ae8) (au:Bool) (av:An) (y:Ae) (_:bx v au = some r) (_:Bl (wE d) y) (_:Sp (wE d) y [A5 d (Bf [A3 CB 212 q f p,Ab Ao n g c]),A3 CB 212 av f v,Ab Ao n g c]),∀ a,St 80 [(0,(.pointer (some ⟨f,0,none⟩))),(1,g),(2,(iv s)),(6,(iv (List.length c:Int))),(25,(.bool au))] a → K3 a y:=by
   intro v au av y b aw bb
   subst bz
   refine bw (A2 rfl b (fun _ b=>?_) (fun _ b=>?_))
   ·refine Aw ?_
    obtain rfl:=Option.some.inj b
    exact J9 (vs:=[]) hQ rfl trivial ⟨av,rfl,aw,bb.sel [0,1] rfl⟩
   ·refine Au (bu ?_)
    refine Am fun _ b1=>Ak fun _ b2=>wp 2 rfl (BP rfl rfl (Bq Aao rfl ?_))
    obtain ⟨b3,b4,ab,b5,ag⟩:=Ob (bb.sel [1,0,2] rfl)
    refine ldq 0 (pre:=(IX v.1)) (k:=900) (o:=0) A4 rfl ag rfl (S0 ab) rfl rfl (Aq 1 rfl (b2 (A2 rfl b (fun _ b=>?_) (fun _ b=>?_))))
    ·refine Ak fun _ b6=>?_
     refine wp 3 rfl (bB b fun b7 b8 b=>(En rfl Tryz.call212 aw ag (Mx y c g (ag.own_ro (i:=3) rfl) _ b8) rfl fun du dv dw _ _ b9 bc=>(wp 1 rfl (BP rfl rfl (Bq SC rfl ?_)))))
     have bd:=Ael b
     replace b:=Cf bd b
     refine stq 1 (pre:=(IX v.1)) (k:=900) (o:=1) EQ rfl rfl ((bc.own_ro (i:=0) rfl).one) b9 bc rfl (S0 ab) rfl rfl fun dx _ ca cb=>BP rfl rfl (Bq SB rfl (stq 1 (pre:=(IX v.1)) (k:=900) (o:=2) A4 rfl rfl rfl ca cb rfl (S0 ab) rfl rfl fun cc _ cd ce=>(Ah (b6 (Aw ?_)))))
     obtain ⟨cf,cg⟩:∃ F,Sp (wE d) cc [A3 CB 212 F f (v.1,v.2.1,b7,s),Ab Ao b4 b3 v.2.2.1,A5 d (Bf [A3 CB 212 q f p,Ab Ao n g c]),Ab Ao n g c]:=⟨_,Ka ab (nnE bd) (ce.sel [1,0,2,3,4] rfl)⟩
     obtain rfl:=Option.some.inj b
     exact J9 (vs:=[]) hQ rfl trivial ⟨cf,rfl,cd,cg.sel [2,0] rfl⟩
    ·refine Au (b1 ?_)
     refine Al 1 rfl (Az ?_)
     obtain ⟨ch,ci⟩:∃ F,Sp (wE d) y [A3 CB 212 F f v,A5 d (Bf [A3 CB 212 q f p,Ab Ao n g c]),Ab Ao n g c]:=⟨_,Ka ab b5 (ag.sel [0,1,2,3] rfl)⟩
     refine AN (fun m a ax=>∃ (ah:Ae8) (u:Int) (ai:An),St 80 [(0,(.pointer (some ⟨f,0,none⟩))),(1,g),(2,(iv s)),(6,(iv (List.length c:Int))),(7,(iv u))] a ∧ Bl (wE d) ax ∧ Sp (wE d) ax [A5 d (Bf [A3 CB 212 q f p,Ab Ao n g c]),A3 CB 212 ai f ah,Ab Ao n g c] ∧ Cu c rec s m ah u = some r) FU ?_ ?_
     ·exact fun a ha=>⟨v,0,ch,ha.sb rfl,aw,(ci.sel [1,0,2] rfl),b⟩
     ·rintro ac a ax ⟨ah,u,ai,ha,be,ay,b⟩ dy cj
      refine BB ?_ ha
      cases ac with
      | zero=>exact Be b
      | succ ac =>
       obtain ⟨dz,bf⟩:∃ k,k = Cu c rec s ac:=⟨_,rfl⟩
       rw [Cu,← bf] at b
       refine Am fun _ ck=>Al 2 rfl (A2 rfl b (fun _ b=>?_) (fun _ b=>?_))
       ·refine Au (ck ?_)
        refine Am fun cl cm=>?_
        obtain ⟨az,cn,b⟩:=Ch b
        have bg:∀ (aj:Ae8) (a0:An) (ak:Ae) (_:az aj = some r) (_:Bl (wE d) ak) (_:Sp (wE d) ak [A5 d (Bf [A3 CB 212 q f p,Ab Ao n g c]),A3 CB 212 a0 f aj,Ab Ao n g c]),∀ a,St 80 [(0,(.pointer (some ⟨f,0,none⟩))),(1,g),(2,(iv s)),(6,(iv (List.length c:Int))),(7,(iv u))] a → cl a ak:=by
         intro aj a0 ak b co cp
         subst cn
         refine cm (As (Aq 3 rfl ?_))
         rw [bf] at b
         exact fun a ha=>cj a _ ac (AB ac) ⟨aj,(Ag (u + 1)),a0,ha.sb rfl,co,(cp.sel [0,1,2] rfl),b⟩
        refine Az (Al 1 rfl (Am fun _ cq=>(Ak fun _ cr=>(wp 1 rfl (BQ (ay.own_ro (i:=2) rfl) Tryz.underlying36 rfl (Aq 1 rfl (cr (Az (AN (fun m a ad=>∃ (w:Ae8) (al:Bool) (z:Int) (x:An),St 80 [(0,(.pointer (some ⟨f,0,none⟩))),(1,g),(2,(iv s)),(6,(iv (List.length c:Int))),(7,(iv u)),(8,(.bool al)),(45,g),(46,(iv (List.length c:Int))),(47,(iv z))] a ∧ Bl (wE d) ad ∧ Sp (wE d) ad [A5 d (Bf [A3 CB 212 q f p,Ab Ao n g c]),A3 CB 212 x f w,Ab Ao n g c] ∧ CI c u rec s az m w al z = some r) FU ?_ ?_)))))))))
        ·exact fun a ha=>⟨ah,true,0,ai,ha.sb rfl,be,(ay.sel [0,1,2] rfl),b⟩
        ·rintro ae a ad ⟨w,al,z,x,ha,am,aa,b⟩ d0 cs
         refine BB ?_ ha
         cases ae with
         | zero=>exact Be b
         | succ ae =>
          obtain ⟨d1,bh⟩:∃ k,k = CI c u rec s az ae:=⟨_,rfl⟩
          rw [CI,← bh] at b
          refine Al 1 rfl (Am fun _ ct=>(A2 rfl b (fun _ b=>?_) (fun _ b=>?_)))
          ·refine Au (ct ?_)
           refine Am fun cu cv=>?_
           obtain ⟨cw,cx,b⟩:=Nd b
           have bi:∀ (an:Ae8) (ao:Bool) (a1:An) (ap:Ae) (_:cw an ao = some r) (_:Bl (wE d) ap) (_:Sp (wE d) ap [A5 d (Bf [A3 CB 212 q f p,Ab Ao n g c]),A3 CB 212 a1 f an,Ab Ao n g c]),∀ a,St 80 [(0,(.pointer (some ⟨f,0,none⟩))),(1,g),(2,(iv s)),(6,(iv (List.length c:Int))),(7,(iv u)),(8,(.bool ao)),(45,g),(46,(iv (List.length c:Int))),(47,(iv z))] a → cu a ap:=by
            intro an ao a1 ap b cy cz
            subst cx
            refine cv (As (Aq 2 rfl ?_))
            rw [bh] at b
            exact fun a ha=>cs a _ ae (AB ae) ⟨an,ao,(Ag (z + 1)),a1,ha.sb rfl,cy,(cz.sel [0,1,2] rfl),b⟩
           refine Az (Ak fun _ c0=>(wp 1 rfl (bB b fun c1 c2 b=>(Cj (e:=Ao) (i:=2) Tryz.underlying36 rfl rfl rfl aa rfl c2 ?_))))
           rintro d2 _ rfl c3 d3
           refine BV A4 rfl c3 rfl (Aq 2 rfl (c0 (As (wp 2 rfl ?_))))
           rcases bE al with h | h
           ·replace b:=B9 h b
            refine wn rfl h (wp 1 rfl (wn rfl h (wp 1 rfl (wn rfl h (wp 1 rfl (wn rfl h (wp 1 rfl (wn rfl h (wp 1 rfl (wn rfl h (BP rfl rfl (wn rfl h (Bq WG rfl (wn rfl h ?_))))))))))))))
            have bj:=Hr b
            replace b:=B9 bj b
            refine Id Tryz.underlying210 Tryz.sizeOf209 bj rfl rfl rfl (wn rfl h ?_)
            have bk:=Hr b
            replace b:=B9 bk b
            refine Id Tryz.underlying209 Tryz.sizeOf208 bk rfl rfl rfl (wn rfl h ?_)
            have bl:=Hr b
            replace b:=B9 bl b
            refine Id Tryz.underlying208 Tryz.sizeOf207 bl rfl rfl rfl (wn rfl h ?_)
            have bm:=Hr b
            replace b:=B9 bm b
            refine Id Tryz.underlying207 Tryz.sizeOf4 bm rfl rfl rfl (wn rfl h ?_)
            obtain ⟨d4,d5,c4,c5,bn⟩:=Ob (aa.sel [1,0,2] rfl)
            refine bB b fun c6 c7 b=>lda 0 (pre:=[]) (arr:=(IX w.1)) (j:=z.toNat * 150 + (List.length c:Int).toNat * 25 + c1.toNat * 5 + u.toNat * 1) ZI rfl rfl bn rfl (Aen c7) (by simp only [List.length_nil,List.length_cons]; omega) (wn rfl h (wp 1 rfl (AA rfl rfl h rfl (Aq 1 rfl ?_))))
            obtain ⟨c8,c9⟩:∃ F,Sp (wE d) ad [A3 CB 212 F f w,A5 d (Bf [A3 CB 212 q f p,Ab Ao n g c]),Ab Ao n g c]:=⟨_,Ka c4 c5 (bn.sel [0,1,2,3] rfl)⟩
            exact jx (bi w ((!c6)) c8 _ b am (c9.sel [1,0,2] rfl)) rfl
           ·replace b:=Cf h b
            refine wo rfl h (wo rfl h (wo rfl h (wo rfl h (wo rfl h (wo rfl h (wo rfl h (wo rfl h (wo rfl h (wo rfl h (wo rfl h (wo rfl h (wo rfl h (A6 rfl rfl h rfl (Aq 1 rfl ?_))))))))))))))
            exact jx (bi w false x _ b am (aa.sel [0,1,2] rfl)) rfl
          ·refine Bc (cq ?_)
           refine Al 1 rfl (A2 rfl b (fun _ b=>?_) (fun _ b=>?_))
           ·refine As ?_
            refine wp 2 rfl (bB b fun d6 da b=>(En rfl Tryz.call212 am aa (Mx ad c g (aa.own_ro (i:=2) rfl) _ da) rfl fun d7 d8 d9 _ _ db dc=>(wp 1 rfl (Bb (vs:=[(iv u)]) (l:=[u]) Ca Tryz.underlying36 rfl rfl rfl rfl rfl rfl db dc fun dd de df _ dg bo=>(bB b fun a2 dh b=>(AE (i:=1) (S:=(· < df.heap.size)) Ca Tryz.underlying36 rfl rfl rfl dg bo rfl (bo.own_ro (i:=0) rfl) dh fun a3 a4 di _ bp a5=>(wp 3 rfl (bB b fun bq dj b=>(A7 rfl Tryz.call221 (ih di w f x a2 a3 a4 (Ag (s + u)) (a5.sel [3,1] rfl).base0 _ dj) rfl ?_)))))))))
            rintro _ dk ⟨br,rfl,dl,bs⟩
            refine ⟨_,rfl,?_⟩
            have dm:=a5.takeB [3,1] rfl (M:=[A3 CB 212 x f w,Ab Ao a4 a3 a2]) rfl bp dl bs
            have dn:Sp (wE d) dk [A3 CB 212 br f bq,Ab Ao de dd [u],A5 d (Bf [A3 CB 212 q f p,Ab Ao n g c]),Ab Ao n g c]:=a5.take [3,1] [0,2,4] rfl (M:=[A3 CB 212 x f w,Ab Ao a4 a3 a2]) rfl bs bp.size
            refine Ah ?_
            exact jx (bg bq br _ b dm (dn.sel [2,0,3] rfl)) rfl
           ·refine Au ?_
            exact jx (bg w x _ b am (aa.sel [0,1,2] rfl)) rfl
       ·refine Bc ?_
        obtain rfl:=Option.some.inj b
        exact N3 (vs:=[]) hQn rfl trivial ⟨ai,rfl,be,ay.sel [0,1] rfl⟩
  refine As (wp 1 rfl (BP rfl rfl (Bq SC rfl ?_)))
  obtain ⟨ea,eb,aq,a6,af⟩:=Ob (hS.sel [1,0,2] rfl)
  refine ldq 0 (pre:=(IX p.1)) (k:=900) (o:=1) EQ rfl af rfl (S0 aq) rfl rfl (X5 Tryz.underlying36 (af.ok (i:=1) rfl) a6 rfl rfl rfl (wp 1 rfl ?_))
  rcases bE (!(List.isEmpty p.2.2.1)) with t | t
  ·replace b:=B9 t b
   refine wn rfl t (wp 1 rfl (wn rfl t (wp 1 rfl (wn rfl t (BP rfl rfl (wn rfl t (Bq SB rfl (wn rfl t (ldq 0 (pre:=(IX p.1)) (k:=900) (o:=2) A4 rfl af rfl (S0 aq) rfl rfl (wn rfl t (wp 1 rfl (AA rfl rfl t rfl (Ah ?_)))))))))))))
   obtain ⟨dp,dq⟩:∃ F,Sp (wE d) d [A3 CB 212 F f p,A5 d (Bf [A3 CB 212 q f p,Ab Ao n g c]),Ab Ao n g c]:=⟨_,Ka aq a6 (af.sel [0,1,2,3] rfl)⟩
   exact jx (ba p ((decide (p.2.2.2 ≤ s))) dp _ b hB (dq.sel [1,0,2] rfl)) rfl
  ·replace b:=Cf t b
   refine wo rfl t (wo rfl t (wo rfl t (wo rfl t (wo rfl t (wo rfl t (A6 rfl rfl t rfl (Ah ?_)))))))
   obtain ⟨dr,ds⟩:∃ F,Sp (wE d) d [A3 CB 212 F f p,A5 d (Bf [A3 CB 212 q f p,Ab Ao n g c]),Ab Ao n g c]:=⟨_,Ka aq a6 (af.sel [0,1,2,3] rfl)⟩
   exact jx (ba p false dr _ b hB (ds.sel [1,0,2] rfl)) rfl
theorem Ou (a:Ae) (c:Ae8) (b:Nat) (g:An) (d:(List Int)) (f:Ac) (h:An) (i:Int) (j:Sep 0 a [A3 CB 212 g b c,Ab Ao h f d]) (r:Ae8) (k:Hb c d i = some r) :
  A1 221 [(.pointer (some ⟨b,0,none⟩)),f,(iv i)] a fun e w'=>∃ (H_0:An),e = .returned (.tuple #[]) ∧ Below 0 (wE a) w' ∧ Sep 0 w' [A5 a (Bf [A3 CB 212 g b c,Ab Ao h f d]),A3 CB 212 H_0 b r] :=
 NC FU a c b g d f h i j r k
theorem Rp (g:Ae) (y:(Ae4 × Ae4 × Int × (List Int))) (ah:Ac) (cf:RO Ar g ah y.1) (ai:Ac) (cg:RO Ar g ai y.2.1) (aj:Ac) (ch:RO Ao g aj y.2.2.2) (q:Int) (r:Afa) (b:HK y q = some r) :
  A1 181 [(.agg #[ah,ai,(iv y.2.2.1),aj]),(iv q)] g fun e w'=>∃ (q0:Ac) (G0:An),e = .returned (.tuple #[q0,(iv r.2)]) ∧ (r.1 = [] → q0 = .slice none 0 0) ∧ Bl g w' ∧ Sp g w' [Ab Ao G0 q0 r.1]:=by
 refine cm Tryz.func181 Tryz.ntmps181 rfl fun Q hQ c hB hS=>?_
 unfold HK at b
 refine Ak fun _ cn=>CM rfl hB hS fun b2 w3 _ ak ba=>Aq 2 rfl (cn (Ak fun _ cq=>(AU 0 Bp rfl ba rfl rfl (bB b fun u8 cr b=>(En rfl Tryz.call219 ak ba (MO w3 y ah (cf.ro ak) ai (cg.ro ak) aj (ch.ro ak) _ cr) rfl fun s w ek _ _ cs bb=>(Aq 1 rfl (cq (Ak fun _ ct=>(wp 1 rfl (BQ (bb.own_ro (i:=0) rfl) Tryz.underlying184 rfl (DY (zs:=((IX (List.replicate 900 false)) ++ [(iv 0),(.slice none 0 0),(iv 0)])) (out:=((IX (List.replicate 900 false)) ++ [(iv (List.length u8:Int)),(.slice none 0 0),(iv 0)])) (vs:=[(iv (List.length u8:Int))]) (css:=[[(iv (List.length u8:Int))]]) Acj Acv rfl rfl rfl (by kernel_rfl) (by kernel_rfl) (CM rfl cs bb fun n cu _ cv bc=>(Aq 1 rfl (ct (Am fun _ cw=>Ak fun _ cx=>wp 1 rfl (BQ (bc.own_ro (i:=1) rfl) Tryz.underlying184 rfl (Aq 1 rfl (cx (Az ?_)))))))))))))))))))
 have cy:=bc.push0 (r:=Ab Ao [] (.slice none 0 0) []) rfl fun _=>.inl ⟨rfl,rfl,rfl⟩
 obtain ⟨cz,c0⟩:∃ F,Sp g cu [A3 CB 212 F n ((List.replicate 900 false),(List.length u8:Int),[],0),Ab C3 w s u8,A9 b2 128 [ah,ai,(iv y.2.2.1),aj]]:=⟨_,Ka (by rw [List.length_replicate]) (fun _=>rfl) (cy.sel [1,0,2,3] rfl)⟩
 refine AN (fun m a ar=>∃ (z:Ae8) (f:Int) (aa:An),St 74 [(1,(iv q)),(6,s),(7,(.pointer (some ⟨n,0,none⟩))),(19,(iv (List.length u8:Int))),(20,(iv f))] a ∧ Bl g ar ∧ Sp g ar [Ab C3 w s u8,A3 CB 212 aa n z] ∧ DR u8 q m z f = some r) FU ?_ ?_
 ·exact fun a ha=>⟨((List.replicate 900 false),(List.length u8:Int),[],0),0,cz,ha.sb rfl,cv,(c0.sel [1,0] rfl),b⟩
 ·rintro ab a ar ⟨z,f,aa,ha,bd,be,b⟩ el c1
  refine BB ?_ ha
  cases ab with
  | zero=>exact Be b
  | succ ab =>
   obtain ⟨bf,bg⟩:∃ k,k = DR u8 q ab:=⟨_,rfl⟩
   rw [DR,← bg] at b
   refine Al 1 rfl (Am fun _ c2=>(A2 rfl b (fun _ b=>?_) (fun _ b=>?_)))
   ·refine Au (c2 ?_)
    refine Am fun _ c3=>Az (Al 2 rfl (Al 3 rfl (Az (AN (fun m a au=>∃ (ac:Ae8) (t:Int) (al:An),St 74 [(1,(iv q)),(6,s),(7,(.pointer (some ⟨n,0,none⟩))),(8,(iv f)),(9,(iv t)),(19,(iv (List.length u8:Int))),(20,(iv f))] a ∧ Bl g au ∧ Sp g au [Ab C3 w s u8,A3 CB 212 al n ac] ∧ DQ u8 f q bf m ac t = some r) FU ?_ ?_))))
    ·exact fun a ha=>⟨z,(Ag (f + 1)),aa,ha.sb rfl,bd,(be.sel [0,1] rfl),b⟩
    ·rintro ad a au ⟨ac,t,al,ha,bh,av,b⟩ em c4
     refine BB ?_ ha
     cases ad with
     | zero=>exact Be b
     | succ ad =>
      obtain ⟨bi,bj⟩:∃ k,k = DQ u8 f q bf ad:=⟨_,rfl⟩
      rw [DQ,← bj] at b
      refine Am fun _ c5=>Ak fun _ c6=>wp 2 rfl (BQ (av.own_ro (i:=0) rfl) Tryz.underlying184 rfl (Aq 1 rfl (c6 (A2 rfl b (fun _ b=>?_) (fun _ b=>?_)))))
      ·refine Au (c5 ?_)
       refine Am fun _ c7=>Az (Al 1 rfl (Az (AN (fun m a aw=>∃ (ae:Ae8) (u:Int) (am:An),St 74 [(1,(iv q)),(6,s),(7,(.pointer (some ⟨n,0,none⟩))),(8,(iv f)),(9,(iv t)),(10,(iv u)),(19,(iv (List.length u8:Int))),(20,(iv f))] a ∧ Bl g aw ∧ Sp g aw [Ab C3 w s u8,A3 CB 212 am n ae] ∧ DP u8 f t q bi m ae u = some r) FU ?_ ?_)))
       ·exact fun a ha=>⟨ac,0,al,ha.sb rfl,bh,(av.sel [0,1] rfl),b⟩
       ·rintro af a aw ⟨ae,u,am,ha,bk,bl,b⟩ en c8
        refine BB ?_ ha
        cases af with
        | zero=>exact Be b
        | succ af =>
         obtain ⟨bm,bn⟩:∃ k,k = DP u8 f t q bi af:=⟨_,rfl⟩
         rw [DP,← bn] at b
         refine Am fun _ c9=>Al 2 rfl (A2 rfl b (fun _ b=>?_) (fun _ b=>?_))
         ·refine Au (c9 ?_)
          refine Am fun _ da=>Az (Al 1 rfl (Az (AN (fun m a ax=>∃ (p:Ae8) (x:Int) (ay:An),St 74 [(1,(iv q)),(6,s),(7,(.pointer (some ⟨n,0,none⟩))),(8,(iv f)),(9,(iv t)),(10,(iv u)),(11,(iv x)),(19,(iv (List.length u8:Int))),(20,(iv f))] a ∧ Bl g ax ∧ Sp g ax [Ab C3 w s u8,A3 CB 212 ay n p] ∧ DO u8 f t u q bm m p x = some r) FU ?_ ?_)))
          ·exact fun a ha=>⟨ae,0,am,ha.sb rfl,bk,(bl.sel [0,1] rfl),b⟩
          ·rintro ag a ax ⟨p,x,ay,ha,bo,bp,b⟩ eo db
           refine BB ?_ ha
           cases ag with
           | zero=>exact Be b
           | succ ag =>
            obtain ⟨ep,bq⟩:∃ k,k = DO u8 f t u q bm ag:=⟨_,rfl⟩
            rw [DO,← bq] at b
            refine Am fun _ dc=>Al 2 rfl (A2 rfl b (fun _ b=>?_) (fun _ b=>?_))
            ·refine Au (dc ?_)
             refine Am fun dd de=>?_
             obtain ⟨df,dg,b⟩:=Ch b
             have br:∀ (an:Ae8) (az:An) (ao:Ae) (_:df an = some r) (_:Bl g ao) (_:Sp g ao [Ab C3 w s u8,A3 CB 212 az n an]),∀ a,St 74 [(1,(iv q)),(6,s),(7,(.pointer (some ⟨n,0,none⟩))),(8,(iv f)),(9,(iv t)),(10,(iv u)),(11,(iv x)),(19,(iv (List.length u8:Int))),(20,(iv f))] a → dd a ao:=by
              intro an az ao b dh di
              subst dg
              refine de (As (Aq 3 rfl ?_))
              rw [bq] at b
              exact fun a ha=>db a _ ag (AB ag) ⟨an,(Ag (x + 1)),az,ha.sb rfl,dh,(di.sel [0,1] rfl),b⟩
             refine Az ?_
             obtain ⟨eq,er,bs,bt,dj⟩:=Ob (bp.sel [1,0] rfl)
             refine AR B2 [n] bo dj fun a0 _ bu ap=>?_
             have d:=KeepX.refl a0 [n]
             refine Ax 0 rfl c d (Ax 1 rfl c d (Ax 2 rfl c d (Ax 3 rfl c d (Ax 4 rfl c d (Ax 5 rfl c d (Ax 6 rfl c d (bB b fun bv dk b=>(Ad 7 rfl c d (Bv (e:=C3) (i:=2) Tryz.underlying184 rfl rfl rfl ap rfl dk ?_)))))))))
             rintro es _ rfl bw et
             refine Ax 9 rfl c d (Ax 10 rfl c d (bB b fun bx dl b=>(Ad 11 rfl c d (Bv (e:=C3) (i:=2) Tryz.underlying184 rfl rfl rfl ap rfl dl ?_))))
             rintro eu _ rfl bz ev
             refine Ax 13 rfl c d (Ax 14 rfl c d (Ax 15 rfl c d (Ad 17 rfl c d (B6 rfl rfl (Ad 18 rfl c d (C5 WG rfl ?_))))))
             have b0:=Hr b
             replace b:=B9 b0 b
             refine Ad 19 rfl c d (QS Tryz.underlying210 Tryz.sizeOf209 b0 rfl rfl rfl ?_)
             have b1:=Hr b
             replace b:=B9 b1 b
             refine Ad 20 rfl c d (QS Tryz.underlying209 Tryz.sizeOf208 b1 rfl rfl rfl ?_)
             have b3:=Hr b
             replace b:=B9 b3 b
             refine Ad 21 rfl c d (QS Tryz.underlying208 Tryz.sizeOf207 b3 rfl rfl rfl (Cz (is:=[8,12]) (by kernel_rfl) rfl (Bd.2 ⟨⟨_,rfl,?_⟩,Bd.2 ⟨⟨_,rfl,?_⟩,fun _ h=>by cases h⟩⟩)))
             ·refine BV Cy rfl bw rfl ?_
              refine Ah (Ap d (Av 12 rfl (BV Cy rfl bz rfl (Ah (Ap d (Av 16 rfl (bB b fun ew dm b=>(Bs rfl Tryz.call220 bu ap (KG a0 bv bx u x q _ dm) rfl fun ex dn dp dq=>?_))))))))
              have a1:=d.ext dn
              refine Ah (Ap a1 ?_)
              have b4:=Hr b
              replace b:=B9 b4 b
              refine Ad 22 rfl c a1 (QS Tryz.underlying207 Tryz.sizeOf4 b4 rfl rfl rfl (Av 23 rfl (bB b fun b5 a2 b=>(sta 0 (pre:=[]) (arr:=(IX p.1)) (j:=f.toNat * 150 + t.toNat * 25 + u.toNat * 5 + x.toNat * 1) ZI rfl rfl rfl dp dq rfl (Wg a2) (by simp only [List.length_nil,List.length_cons]; omega) fun dr b6 ds b7=>?_))))
              rw [YN a2] at b7
              have dt:=a1.wr' b6.1 b6.2.1 (fun _ _ h=>h)
              refine Ah (Ap dt (Ba ?_))
              obtain ⟨du,dv⟩:∃ F,Sp g dr [A3 CB 212 F n (b5,p.2.1,p.2.2.1,p.2.2.2),Ab C3 w s u8]:=⟨_,Ka (Sy a2 bs) bt (b7.sel [0,1,2] rfl)⟩
              exact jx (br ((b5,p.2.1,p.2.2.1,p.2.2.2)) du _ b ds (dv.sel [1,0] rfl)) rfl
             ·refine BV Cy rfl bz rfl ?_
              refine Ah (Ap d (Av 8 rfl (BV Cy rfl bw rfl (Ah (Ap d (Av 16 rfl (bB b fun ey dw b=>(Bs rfl Tryz.call220 bu ap (KG a0 bv bx u x q _ dw) rfl fun ez dx dy dz=>?_))))))))
              have a3:=d.ext dx
              refine Ah (Ap a3 ?_)
              have b8:=Hr b
              replace b:=B9 b8 b
              refine Ad 22 rfl c a3 (QS Tryz.underlying207 Tryz.sizeOf4 b8 rfl rfl rfl (Av 23 rfl (bB b fun b9 a4 b=>(sta 0 (pre:=[]) (arr:=(IX p.1)) (j:=f.toNat * 150 + t.toNat * 25 + u.toNat * 5 + x.toNat * 1) ZI rfl rfl rfl dy dz rfl (Wg a4) (by simp only [List.length_nil,List.length_cons]; omega) fun d0 ca d1 cb=>?_))))
              rw [YN a4] at cb
              have d2:=a3.wr' ca.1 ca.2.1 (fun _ _ h=>h)
              refine Ah (Ap d2 (Ba ?_))
              obtain ⟨d3,d4⟩:∃ F,Sp g d0 [A3 CB 212 F n (b9,p.2.1,p.2.2.1,p.2.2.2),Ab C3 w s u8]:=⟨_,Ka (Sy a4 bs) bt (cb.sel [0,1,2] rfl)⟩
              exact jx (br ((b9,p.2.1,p.2.2.1,p.2.2.2)) d3 _ b d1 (d4.sel [1,0] rfl)) rfl
            ·refine Bc (da ?_)
             refine As (Aq 3 rfl ?_)
             rw [bn] at b
             exact fun a ha=>c8 a _ af (AB af) ⟨p,(Ag (u + 1)),ay,ha.sb rfl,bo,(bp.sel [0,1] rfl),b⟩
         ·refine Bc (c7 ?_)
          refine As (Aq 3 rfl ?_)
          rw [bj] at b
          exact fun a ha=>c4 a _ ad (AB ad) ⟨ae,(Ag (t + 1)),am,ha.sb rfl,bk,(bl.sel [0,1] rfl),b⟩
      ·refine Bc (c3 ?_)
       refine As (Aq 2 rfl ?_)
       rw [bg] at b
       exact fun a ha=>c1 a _ ab (AB ab) ⟨ac,(Ag (f + 1)),al,ha.sb rfl,bh,(av.sel [0,1] rfl),b⟩
   ·refine Bc (cw ?_)
    refine Ak fun _ d5=>wp 1 rfl (Bb (vs:=[]) (l:=[]) Ca Tryz.underlying36 rfl rfl rfl rfl rfl rfl bd be fun a5 a6 d6 _ cc a7=>(bB b fun a8 d7 b=>(A7 rfl Tryz.call221 (Ou d6 z n aa [] a5 a6 0 (a7.sel [2,0] rfl).base0 _ d7) rfl ?_)))
    rintro _ d8 ⟨d9,rfl,ea,cd⟩
    refine ⟨_,rfl,?_⟩
    have eb:=a7.takeB [2,0] rfl (M:=[A3 CB 212 aa n z,Ab Ao a6 a5 []]) rfl cc ea cd
    have ec:Sp g d8 [A3 CB 212 d9 n a8,Ab C3 w s u8]:=a7.take [2,0] [1] rfl (M:=[A3 CB 212 aa n z,Ab Ao a6 a5 []]) rfl cd cc.size
    refine Ah (d5 (Am fun _ ed=>?_))
    obtain ⟨ee,ef,ce,eg,eh⟩:=Ob (ec.sel [0,1] rfl)
    refine AR B2 [] eb eh fun ei _ ej a9=>?_
    have v:=KeepX.refl ei []
    refine Ax 0 rfl c v (Ad 1 rfl c v (B6 rfl rfl (Ad 2 rfl c v (C5 SC rfl (Ad 3 rfl c v (YY 0 (pre:=(IX a8.1)) (k:=900) (o:=1) EQ rfl rfl a9 rfl (S0 ce) rfl rfl (by simp) (Ax 4 rfl c v (Ad 5 rfl c v (B6 rfl rfl (Ad 6 rfl c v (C5 SB rfl (Ad 7 rfl c v (YY 0 (pre:=(IX a8.1)) (k:=900) (o:=2) A4 rfl rfl a9 rfl (S0 ce) rfl rfl (by simp) (Ad 8 rfl c v (AD rfl rfl (Ad 9 rfl c v (AD rfl rfl (Ba (ed (Aw (rt hQ rfl rfl (by cases b; exact ⟨ee,ef,rfl,eg,ej,a9.sel [1] rfl⟩))))))))))))))))))))))
theorem RR (f:Ae) (d:(Ae4 × Ae4 × Int × (List Int))) (g:Ac) (q:RO Ar f g d.1) (h:Ac) (s:RO Ar f h d.2.1) (j:Ac) (t:RO Ao f j d.2.2.2) (k:Int) (r:(Int × Bool)) (b:Im d k = some r) :
  A1 124 [(.agg #[g,h,(iv d.2.2.1),j]),(iv k)] f fun e w'=>e = .returned (.tuple #[(iv r.1),(.bool r.2)]) ∧ Bl f w':=by
 refine cm Tryz.func124 Tryz.ntmps124 rfl fun Q m hP hB hS=>?_
 unfold Im at b
 refine Ak fun _ ai=>CM rfl hB hS fun w w3 _ u x=>Aq 2 rfl (ai (Am fun _ ak=>(Am fun K8 am=>?_)))
 obtain ⟨an,ao,b⟩:=Ch b
 have y:∀ (v:Bool) (n:Ae) (_:an v = some r) (_:Bl f n) (_:Sp f n [A9 w 128 [g,h,(iv d.2.2.1),j]]),∀ a,St 38 [(1,(iv k)),(2,(.pointer (some ⟨w,0,none⟩))),(18,(.bool v))] a → K8 a n:=by
  intro v n b o z
  subst ao
  refine am (A2 rfl b (fun _ b=>?_) (fun _ b=>?_))
  ·refine Al 2 rfl ?_
   refine Aw (rt m rfl rfl (by cases b; exact ⟨rfl,o⟩))
  ·refine Au (ak ?_)
   refine Am fun _ ap=>Ak fun _ aq=>AU 0 Bp rfl z rfl rfl (wp 1 rfl (bB b fun be ar b=>(Bs rfl Tryz.call179 o z (M7 n d g (q.ro o) h (s.ro o) j (t.ro o) k _ ar) rfl fun au _ p aa=>(Ah (aq (A2 rfl b (fun _ b=>?_) (fun _ b=>?_)))))))
   ·refine Al 2 rfl ?_
    refine Aw (rt m rfl rfl (by cases b; exact ⟨rfl,p⟩))
   ·refine Au (ap ?_)
    refine Am fun _ av=>Ak fun _ aw=>AU 0 Bp rfl aa rfl rfl (wp 1 rfl (bB b fun bf ax b=>(Bs rfl Tryz.call180 p aa (RM au d g (q.ro p) h (s.ro p) j (t.ro p) k _ ax) rfl fun ay _ l ab=>(Aq 7 rfl (aw (Al 1 rfl (A2 rfl b (fun _ b=>?_) (fun _ b=>?_))))))))
    ·refine Al 2 rfl ?_
     refine Aw (rt m rfl rfl (by cases b; exact ⟨rfl,l⟩))
    ·refine Au (av ?_)
     refine Am fun _ az=>Ak fun _ a0=>AU 0 Bp rfl ab rfl rfl (wp 1 rfl (bB b fun bg a1 b=>(A7 rfl Tryz.call181 (Rp ay d g (q.ro l) h (s.ro l) j (t.ro l) k _ a1) rfl ?_)))
     rintro _ bh ⟨bi,bj,rfl,a2,ac,a3⟩
     refine ⟨_,rfl,?_⟩
     have ad:=tm l ac
     have a4:=ab.join ac a3 l.size
     refine Aq 5 rfl (a0 (Ak fun _ a5=>(wp 1 rfl (X5 Tryz.underlying36 (a4.ok (i:=0) rfl) a2 rfl rfl rfl (Ah (a5 (A2 rfl b (fun _ b=>?_) (fun _ b=>?_))))))))
     ·refine Al 2 rfl ?_
      refine Aw (rt m rfl rfl (by cases b; exact ⟨rfl,ad⟩))
     ·refine Au (az ?_)
      refine Al 2 rfl (Aw (rt m rfl rfl (by cases b; exact ⟨rfl,ad⟩)))
 refine As (AU 0 Bp rfl x rfl rfl (bB b fun a6 a7 b=>(Bs rfl Tryz.call177 u x (RP w3 d g (q.ro u) h (s.ro u) j (t.ro u) _ a7) rfl fun a8 _ ae af=>(wp 2 rfl ?_))))
 rcases bE (!a6) with c | c
 ·replace b:=B9 c b
  refine wo rfl c (wo rfl c (wo rfl c (AA rfl rfl c rfl (Ah ?_))))
  exact jx (y true _ b ae (af.sel [0] rfl)) rfl
 ·replace b:=Cf c b
  refine wn rfl c (wp 1 rfl (wn rfl c (bB b fun a9 ba b=>(Bs rfl Tryz.call178 ae af (PF a8 k _ ba) rfl fun bk _ bb bc=>(wn rfl c (wp 1 rfl (A6 rfl rfl c rfl (Ah ?_))))))))
  exact jx (y ((!a9)) _ b bb (bc.sel [0] rfl)) rfl
theorem Rr (g:Ae) (h:Ae4) (l:Ac) (i:RO Ar g l h) (r:(Int × Int)) (b:HM h = some r) :
  A1 182 [l] g fun e w'=>e = .returned (.tuple #[(iv r.1),(iv r.2)]) ∧ Bl g w':=by
 refine cm Tryz.func182 Tryz.ntmps182 rfl fun Q hQ c hB hS=>?_
 unfold HM at b
 refine Al 2 rfl (Al 2 rfl (Am fun _ ap=>(Ak fun _ aq=>(wp 1 rfl (BQ i Tryz.underlying26 rfl (Aq 1 rfl (aq (Az (AN (fun m a y=>∃ (t:Int) (u:Int) (f:Int),St 45 [(0,l),(4,(iv t)),(5,(iv u)),(9,(iv (List.length h:Int))),(10,(iv f))] a ∧ Bl g y ∧ Sp g y [] ∧ DT h m t u f = some r) FU ?_ ?_)))))))))
 ·exact fun a ha=>⟨0,1,0,ha.sb rfl,hB,(hS.sel [] rfl),b⟩
 ·rintro n a y ⟨t,u,f,ha,aa,ar,b⟩ br au
  refine BB ?_ ha
  cases n with
  | zero=>exact Be b
  | succ n =>
   obtain ⟨ab,ac⟩:∃ k,k = DT h n:=⟨_,rfl⟩
   rw [DT,← ac] at b
   refine Al 1 rfl (Am fun _ av=>(A2 rfl b (fun _ b=>?_) (fun _ b=>?_)))
   ·refine Au (av ?_)
    refine Am fun _ aw=>Az (Al 2 rfl (Al 3 rfl (Az (AN (fun m a z=>∃ (o:Int) (p:Int) (j:Int),St 45 [(0,l),(4,(iv o)),(5,(iv p)),(6,(iv f)),(7,(iv j)),(9,(iv (List.length h:Int))),(10,(iv f))] a ∧ Bl g z ∧ Sp g z [] ∧ Ds h f ab m o p j = some r) FU ?_ ?_))))
    ·exact fun a ha=>⟨t,u,(Ag (f + 1)),ha.sb rfl,aa,(ar.sel [] rfl),b⟩
    ·rintro q a z ⟨o,p,j,ha,ad,ae,b⟩ bs ax
     refine BB ?_ ha
     cases q with
     | zero=>exact Be b
     | succ q =>
      obtain ⟨bt,af⟩:∃ k,k = Ds h f ab q:=⟨_,rfl⟩
      rw [Ds,← af] at b
      refine Am fun _ ay=>Ak fun _ az=>wp 2 rfl (BQ i Tryz.underlying26 rfl (Aq 1 rfl (az (A2 rfl b (fun _ b=>?_) (fun _ b=>?_)))))
      ·refine Au (ay ?_)
       refine Am fun a0 a1=>?_
       obtain ⟨a2,a3,b⟩:=Nd b
       have ag:∀ (v:Int) (w:Int) (x:Ae) (_:a2 v w = some r) (_:Bl g x) (_:Sp g x []),∀ a,St 45 [(0,l),(4,(iv v)),(5,(iv w)),(6,(iv f)),(7,(iv j)),(9,(iv (List.length h:Int))),(10,(iv f))] a → a0 a x:=by
        intro v w x b a4 a5
        subst a3
        refine a1 (As (Aq 3 rfl ?_))
        rw [af] at b
        exact fun a ha=>ax a _ q (AB q) ⟨v,w,(Ag (j + 1)),ha.sb rfl,a4,(a5.sel [] rfl),b⟩
       refine Az (Am fun _ a6=>(AR B2 [] ad ae fun ah _ s a7=>?_))
       have d:=KeepX.refl ah []
       refine Ax 0 rfl c d (Ax 1 rfl c d (bB b fun a8 a9 b=>(Ad 2 rfl c d (BA (e:=Ar) Tryz.underlying26 rfl rfl rfl i a9 ?_))))
       rintro bu _ rfl ba
       refine Ad 3 rfl c d (BJ Bt rfl (ba.kx s (by simp)) rfl (Ax 4 rfl c d (Ax 5 rfl c d (bB b fun bb bc b=>(Ad 6 rfl c d (BA (e:=Ar) Tryz.underlying26 rfl rfl rfl i bc ?_))))))
       rintro bv _ rfl bd
       refine Ad 7 rfl c d (BJ Bt rfl (bd.kx s (by simp)) rfl (Ax 9 rfl c d (Ax 10 rfl c d (bB b fun be bf b=>(Ad 11 rfl c d (BA (e:=Ar) Tryz.underlying26 rfl rfl rfl i bf ?_))))))
       rintro bw _ rfl bg
       refine Ad 12 rfl c d (BJ Bt rfl (bg.kx s (by simp)) rfl (Ax 13 rfl c d (Ax 14 rfl c d (bB b fun bh bi b=>(Ad 15 rfl c d (BA (e:=Ar) Tryz.underlying26 rfl rfl rfl i bi ?_))))))
       rintro bx _ rfl bj
       refine Ad 16 rfl c d (BJ Bt rfl (bj.kx s (by simp)) rfl (Av 8 rfl (bB b fun bz bk b=>(Bs rfl Tryz.call183 s a7 (Hg ah a8 bb _ bk) rfl fun bl bm bn bo=>?_))))
       have ai:=d.ext bm
       refine Ah (Ap ai (Av 17 rfl (bB b fun b0 bp b=>(Bs rfl Tryz.call183 bn bo (Hg bl be bh _ bp) rfl fun b1 bq aj ak=>?_))))
       have al:=ai.ext bq
       refine Ah (Ap al (Ad 18 rfl c al (Mf rfl rfl rfl (Ba (a6 (A2 rfl b (fun _ b=>?_) (fun _ b=>?_)))))))
       ·refine As ?_
        refine Aq 4 rfl ?_
        exact jx (ag f j _ b aj (ak.sel [] rfl)) rfl
       ·refine Au ?_
        exact jx (ag o p _ b aj (ak.sel [] rfl)) rfl
      ·refine Bc (aw ?_)
       refine As (Aq 2 rfl ?_)
       rw [ac] at b
       exact fun a ha=>au a _ n (AB n) ⟨o,p,(Ag (f + 1)),ha.sb rfl,ad,(ae.sel [] rfl),b⟩
   ·refine Bc (ap ?_)
    refine Al 4 rfl (Aw (rt hQ rfl rfl (by cases b; exact ⟨rfl,aa⟩)))
theorem Rt (g:Ae) (h:Ae4) (i:Ac) (j:RO Ar g i h) (r:(Int × Bool)) (b:EG h = some r) :
  A1 125 [i] g fun e w'=>e = .returned (.tuple #[(iv r.1),(.bool r.2)]) ∧ Bl g w':=by
 refine cm Tryz.func125 Tryz.ntmps125 rfl fun Q p d q x=>?_
 unfold EG at b
 refine Al 2 rfl (Am fun _ y=>(Am fun z aa=>?_))
 obtain ⟨k8,ac,b⟩:=Ch b
 have s:∀ (l:Bool) (k:Ae) (_:k8 l = some r) (_:Bl g k) (_:Sp g k []),∀ a,St 28 [(0,i),(13,(.bool l))] a → z a k:=by
  intro l k b m ad
  subst ac
  refine aa (A2 rfl b (fun _ b=>?_) (fun _ b=>?_))
  ·refine Al 2 rfl ?_
   refine Aw (rt p rfl rfl (by cases b; exact ⟨rfl,m⟩))
  ·refine Au (y ?_)
   refine Ak fun _ ae=>wp 1 rfl (bB b fun av af b=>(Bs rfl Tryz.call182 m ad (Rr k h i (j.ro m) _ af) rfl fun aw _ ag ah=>(Aq 5 rfl (ae (Am fun _ ai=>(AR B2 [] ag ah fun t _ n _=>?_))))))
   have f:=KeepX.refl t []
   refine Ax 0 rfl d f (Ax 1 rfl d f (bB b fun aj ak b=>(Ad 2 rfl d f (BA (e:=Ar) Tryz.underlying26 rfl rfl rfl j ak ?_))))
   rintro ax _ rfl al
   refine Ad 3 rfl d f (BJ Bt rfl (al.kx n (by simp)) rfl (Ax 4 rfl d f (Ax 5 rfl d f (bB b fun am an b=>(Ad 6 rfl d f (BA (e:=Ar) Tryz.underlying26 rfl rfl rfl j an ?_))))))
   rintro ay _ rfl ao
   refine Ad 7 rfl d f (BJ Bt rfl (ao.kx n (by simp)) rfl (Av 8 rfl (bB b fun az ap b=>(A7 rfl Tryz.call183 (Hg t aj am _ ap) rfl ?_))))
   rintro _ a0 ⟨rfl,u⟩
   refine ⟨_,rfl,?_⟩
   have aq:=tm n u
   have o:=f.ext u
   refine Ah (Ap o (Ad 9 rfl d o (AD rfl rfl (Ad 10 rfl d o (AD rfl rfl (Ba (ai (Aw (rt p rfl rfl (by cases b; exact ⟨rfl,aq⟩))))))))))
 refine As (wp 1 rfl (bB b fun ar au b=>(Bs rfl Tryz.call43 q x (GK g h i (j.ro q) _ au) rfl fun a1 _ v w=>(wp 2 rfl ?_))))
 rcases bE (!ar) with c | c
 ·replace b:=B9 c b
  refine wo rfl c (wo rfl c (wo rfl c (AA rfl rfl c rfl (Ah ?_))))
  exact jx (s true _ b v (w.sel [] rfl)) rfl
 ·replace b:=Cf c b
  refine wn rfl c (wp 1 rfl (wn rfl c (BQ j Tryz.underlying26 rfl (wn rfl c (wp 1 rfl (A6 rfl rfl c rfl (Ah ?_)))))))
  exact jx (s ((decide ((List.length h:Int) < 2))) _ b v (w.sel [] rfl)) rfl
theorem Ot (c:Ae) (i:Tab c) (d:Int) (r:(List Aj)) (b:H5 d = some r) :
  A1 184 [(iv d)] c fun e w'=>e = .returned (.string (B5 r)) ∧ Bl c w':=by
 refine cm Tryz.func184 Tryz.ntmps184 rfl fun Q m hP j n=>?_
 unfold H5 at b
 refine Al 1 rfl (Ak fun _ o=>(wp 1 rfl (MU rfl rfl rfl (by decide) (bB b fun p q b=>(Bs rfl Tryz.call130 j n (E4 c (i.st j) (Ag (Int.tdiv d 8)) _ q) rfl fun s _ g k=>(Aq 1 rfl (o (Am fun t u=>?_))))))))
 obtain ⟨v,w,b⟩:=Ch b
 have l:∀ (h:(List Aj)) (f:Ae) (_:v h = some r) (_:Bl c f) (_:Sp c f []),∀ a,St 17 [(3,(.string (B5 h)))] a → t a f:=by
  intro h f b x ag
  subst w
  refine u (Al 2 rfl (Aw (rt m rfl rfl (by cases b; exact ⟨rfl,x⟩))))
 refine Ak fun _ y=>wp 1 rfl (QC rfl rfl rfl (by decide) (Aq 1 rfl (y (A2 rfl b (fun _ b=>?_) (fun _ b=>?_)))))
 ·refine As ?_
  refine wp 2 rfl (QC rfl rfl rfl (by decide) (bB b fun ah z b=>(Bs rfl Tryz.call130 g k (E4 s (i.st g) (Int.tmod d 8) _ z) rfl fun ai _ aa ab=>(bB b fun aj ac b=>(HE rfl rfl rfl ac (bB b fun ad ae b=>(HE rfl rfl rfl ae (Aq 1 rfl ?_))))))))
  exact jx (l ad _ b aa (ab.sel [] rfl)) rfl
 ·refine Au ?_
  exact jx (l p _ b g (k.sel [] rfl)) rfl
theorem TP (g:Ae) (i:Tab g) (c:(Int × Int)) (r:((List Aj) × Bool)) (a:J4 c = some r) :
  A1 126 [(.agg #[(iv c.1),(iv c.2)])] g fun e w'=>e = .returned (.tuple #[(.string (B5 r.1)),(.bool r.2)]) ∧ Bl g w':=by
 refine cm Tryz.func126 Tryz.ntmps126 rfl fun Q j b t u=>?_
 unfold J4 at a
 refine Ak fun _ v=>CM rfl t u fun b2 w _ x k=>Aq 2 rfl (v (Am fun _ y=>(Ak fun _ z=>(AU 0 Bt rfl k rfl rfl (bB a fun u9 aa a=>(Bs rfl Tryz.call61 x k (Ky w c _ aa) rfl fun al _ l ab=>(Aq 1 rfl (z (A2 rfl a (fun _ a=>?_) (fun _ a=>?_))))))))))
 ·refine Al 2 rfl ?_
  refine Aw (rt j rfl rfl (by cases a; exact ⟨rfl,l⟩))
 ·refine Au (y ?_)
  refine Am fun _ ac=>AR B2 [] l ab fun m _ n o=>?_
  have d:=KeepX.refl m []
  refine Ad 0 rfl b d (C5 CL rfl (Ad 1 rfl b d (CJ 0 A4 rfl o rfl (by simp) (Ad 4 rfl b d (C5 CK rfl (Ad 5 rfl b d (CJ 0 A4 rfl o rfl (by simp) (Av 2 rfl (bB a fun am ad a=>(A7 rfl Tryz.call184 (Ot m (i.st n) c.1 _ ad) rfl ?_))))))))))
  rintro _ ae ⟨rfl,p⟩
  refine ⟨_,rfl,?_⟩
  have q:=tm n p
  have h:=d.ext p
  refine Ah (Ap h (bB a fun an af a=>(Ad 3 rfl b h (EW rfl rfl rfl af (Av 6 rfl (bB a fun ao ag a=>(A7 rfl Tryz.call184 (Ot ae (i.st q) c.2 _ ag) rfl ?_)))))))
  rintro _ ap ⟨rfl,s⟩
  refine ⟨_,rfl,?_⟩
  have ah:=tm q s
  have f:=h.ext s
  refine Ah (Ap f (bB a fun aq ai a=>(Ad 7 rfl b f (EW rfl rfl rfl ai (Ad 8 rfl b f (AD rfl rfl (Ad 9 rfl b f (AD rfl rfl (Ba (ac (Aw (rt j rfl rfl (by cases a; exact ⟨rfl,ah⟩)))))))))))))
theorem SN (d:Ae) (f:(Int × Int)) (g:(Int × Int)) (r:Int) (b:Kg f g = some r) :
  A1 185 [(.agg #[(iv f.1),(iv f.2)]),(.agg #[(iv g.1),(iv g.2)])] d fun e w'=>e = .returned (iv r) ∧ Bl d w':=by
 refine cm Tryz.func185 Tryz.ntmps185 rfl fun Q p hP q s=>?_
 unfold Kg at b
 refine Ak fun _ t=>CM rfl q s fun b2 w3 _ u v=>CM rfl u v fun b7 w _ x i=>Aq 1 rfl (t (Ak fun _ y=>(AU 1 Bt rfl i rfl rfl (AU 0 Bt rfl i rfl rfl (bB b fun j z b=>(Bs rfl Tryz.call183 x i (Hg w f g _ z) rfl fun ak _ aa ab=>(Aq 2 rfl (y (Am fun _ ac=>(Az (AN (fun m a l=>∃ (h:Int),St 21 [(5,(iv j)),(6,(iv h))] a ∧ Bl d l ∧ Sp d l [] ∧ DG j m h = some r) FU ?_ ?_)))))))))))
 ·exact fun a ha=>⟨0,ha.sb rfl,aa,(ab.sel [] rfl),b⟩
 ·rintro c a l ⟨h,ha,n,ad,b⟩ al ae
  refine BB ?_ ha
  cases c with
  | zero=>exact Be b
  | succ c =>
   obtain ⟨am,o⟩:∃ k,k = DG j c:=⟨_,rfl⟩
   rw [DG,← o] at b
   refine Am fun _ af=>Al 8 rfl (A2 rfl b (fun _ b=>?_) (fun _ b=>?_))
   ·refine Au (af ?_)
    refine Az (As (Aq 3 rfl ?_))
    rw [o] at b
    exact fun a ha=>ae a _ c (AB c) ⟨(Ag (h + 1)),ha.sb rfl,n,(ad.sel [] rfl),b⟩
   ·refine Bc (ac ?_)
    refine Al 2 rfl (Aw (rt p rfl rfl (by cases b; exact ⟨rfl,n⟩)))
theorem SR (h:Ae) (d:(Int × Int)) (f:(Int × Int)) (r:(Int × Bool)) (b:G6 d f = some r) :
  A1 127 [(.agg #[(iv d.1),(iv d.2)]),(.agg #[(iv f.1),(iv f.2)])] h fun e w'=>e = .returned (.tuple #[(iv r.1),(.bool r.2)]) ∧ Bl h w':=by
 refine cm Tryz.func127 Tryz.ntmps127 rfl fun Q k hP t u=>?_
 unfold G6 at b
 refine Ak fun _ v=>CM rfl t u fun l w3 _ w x=>CM rfl w x fun m y _ z n=>Aq 2 rfl (v (Am fun _ aa=>(Am fun ab ac=>?_)))
 obtain ⟨ad,ae,b⟩:=Ch b
 have o:∀ (i:Bool) (g:Ae) (_:ad i = some r) (_:Bl h g) (_:Sp h g [A9 l 79 [(iv d.1),(iv d.2)],A9 m 79 [(iv f.1),(iv f.2)]]),∀ a,St 17 [(2,(.pointer (some ⟨l,0,none⟩))),(3,(.pointer (some ⟨m,0,none⟩))),(13,(.bool i))] a → ab a g:=by
  intro i g b p q
  subst ae
  refine ac (A2 rfl b (fun _ b=>?_) (fun _ b=>?_))
  ·refine Al 2 rfl ?_
   refine Aw (rt k rfl rfl (by cases b; exact ⟨rfl,p⟩))
  ·refine Au (aa ?_)
   refine Ak fun _ af=>AU 0 Bt rfl q rfl rfl (AU 1 Bt rfl q rfl rfl (bB b fun au ag b=>(A7 rfl Tryz.call185 (SN g d f _ ag) rfl ?_)))
   rintro _ av ⟨rfl,ah⟩
   refine ⟨_,rfl,?_⟩
   have ai:=tm p ah
   refine Aq 2 rfl (af (Aw (rt k rfl rfl (by cases b; exact ⟨rfl,ai⟩))))
 refine As (AU 1 Bt rfl n rfl rfl (bB b fun aj ak b=>(Bs rfl Tryz.call61 z n (Ky y d _ ak) rfl fun al _ s j=>(wp 2 rfl ?_))))
 rcases bE (!aj) with c | c
 ·replace b:=B9 c b
  refine wo rfl c (wo rfl c (wo rfl c (AA rfl rfl c rfl (Ah ?_))))
  exact jx (o true _ b s (j.sel [1,0] rfl)) rfl
 ·replace b:=Cf c b
  refine wn rfl c (AU 0 Bt rfl j rfl rfl (wn rfl c (bB b fun am an b=>(Bs rfl Tryz.call61 s j (Ky al f _ an) rfl fun aw _ ao ap=>(wn rfl c (wp 1 rfl (A6 rfl rfl c rfl (Ah ?_))))))))
  exact jx (o ((!am)) _ b ao (ap.sel [1,0] rfl)) rfl
theorem TO (c:Ae) (d:Ae4) (i:Ac) (n:RO BN c i d) (r:Int) (b:J3 d = some r) :
  A1 186 [i] c fun e w'=>e = .returned (iv r) ∧ Bl c w':=by
 refine cm Tryz.func186 Tryz.ntmps186 rfl fun Q q hP s t=>?_
 unfold J3 at b
 refine Al 1 rfl (Al 1 rfl (Am fun _ u=>(Ak fun _ v=>(wp 1 rfl (BQ n Tryz.underlying31 rfl (Aq 1 rfl (v (Az (AN (fun m a j=>∃ (g:Int) (h:Int),St 18 [(3,(iv g)),(6,i),(7,(iv (List.length d:Int))),(8,(iv h))] a ∧ Bl c j ∧ Sp c j [] ∧ EF d m g h = some r) FU ?_ ?_)))))))))
 ·exact fun a ha=>⟨0,0,ha.sb rfl,s,(t.sel [] rfl),b⟩
 ·rintro f a j ⟨g,h,ha,l,w,b⟩ ai x
  refine BB ?_ ha
  cases f with
  | zero=>exact Be b
  | succ f =>
   obtain ⟨aj,o⟩:∃ k,k = EF d f:=⟨_,rfl⟩
   rw [EF,← o] at b
   refine Al 1 rfl (Am fun _ y=>(A2 rfl b (fun _ b=>?_) (fun _ b=>?_)))
   ·refine Au (y ?_)
    refine Am fun _ z=>Az (Ak fun _ aa=>(bB b fun ab ac b=>(BM (e:=BN) Tryz.underlying31 rfl rfl rfl n ac ?_)))
    rintro ak _ rfl ad
    refine BV GR rfl (ad.ro l) rfl (Ep GR rfl l w fun al am _ ae af=>(Gq 0 GR rfl rfl ae af rfl rfl rfl fun an _ ag p=>(Ah (aa (As (wp 1 rfl (Bq KA rfl (AU 0 A4 rfl p rfl rfl (Aq 2 rfl (z (As (Aq 2 rfl ?_))))))))))))
    rw [o] at b
    exact fun a ha=>x a _ f (AB f) ⟨(Ag (g + ab.1)),(Ag (h + 1)),ha.sb rfl,ag,(p.sel [] rfl),b⟩
   ·refine Bc (u ?_)
    refine Al 2 rfl (Aw (rt q rfl rfl (by cases b; exact ⟨rfl,l⟩)))
theorem VF (d:Ae) (f:Ae4) (p:Ac) (u:RO BN d p f) (q:Int) (r:Int) (b:Jm f q = some r) :
  A1 187 [p,(iv q)] d fun e w'=>e = .returned (iv r) ∧ Bl d w':=by
 refine cm Tryz.func187 Tryz.ntmps187 rfl fun Q v hP y z=>?_
 unfold Jm at b
 refine Al 1 rfl (Al 1 rfl (Am fun _ aa=>(Ak fun _ ab=>(wp 1 rfl (BQ u Tryz.underlying31 rfl (Aq 1 rfl (ab (Az (AN (fun m a s=>∃ (i:Int) (j:Int) (l:Int),St 39 [(1,(iv i)),(5,(iv j)),(8,p),(9,(iv (List.length f:Int))),(10,(iv l))] a ∧ Bl d s ∧ Sp d s [] ∧ G5 f m i j l = some r) FU ?_ ?_)))))))))
 ·exact fun a ha=>⟨q,0,0,ha.sb rfl,y,(z.sel [] rfl),b⟩
 ·rintro g a s ⟨i,j,l,ha,t,ac,b⟩ aq ad
  refine BB ?_ ha
  cases g with
  | zero=>exact Be b
  | succ g =>
   obtain ⟨ar,w⟩:∃ k,k = G5 f g:=⟨_,rfl⟩
   rw [G5,← w] at b
   refine Al 1 rfl (Am fun _ ae=>(A2 rfl b (fun _ b=>?_) (fun _ b=>?_)))
   ·refine Au (ae ?_)
    refine Am fun _ af=>Az (Ak fun _ ag=>(bB b fun h ah b=>(BM (e:=BN) Tryz.underlying31 rfl rfl rfl u ah ?_)))
    rintro au _ rfl ai
    refine BV GR rfl (ai.ro t) rfl (Ep GR rfl t ac fun av aw _ aj ak=>(Gq 0 GR rfl rfl aj ak rfl rfl rfl fun ax _ x c=>(Ah (ag (Am fun _ al=>(Ak fun _ am=>(wp 1 rfl (Bq KA rfl (AU 0 A4 rfl c rfl rfl (Aq 1 rfl (am (A2 rfl b (fun _ b=>?_) (fun _ b=>?_)))))))))))))
    ·refine Ak fun _ an=>?_
     refine wp 3 rfl (Bq NN rfl (AU 0 A4 rfl c rfl rfl ?_))
     have n:h.2 ≠ 0:=fun n=>Be (B9 n b)
     replace b:=Lz n b
     refine MU rfl rfl rfl n (Aq 2 rfl (an (Aw (rt v rfl rfl (by cases b; exact ⟨rfl,x⟩)))))
    ·refine Au (al ?_)
     refine Ak fun _ ao=>wp 1 rfl (Bq KA rfl (AU 0 A4 rfl c rfl rfl (wp 1 rfl (Bq NN rfl (AU 0 A4 rfl c rfl rfl ?_)))))
     have o:h.2 ≠ 0:=fun o=>Be (B9 o b)
     replace b:=Lz o b
     refine MU rfl rfl rfl o (Aq 2 rfl (ao (As (wp 1 rfl (Bq KA rfl (AU 0 A4 rfl c rfl rfl (Aq 2 rfl (af (As (Aq 2 rfl ?_))))))))))
     rw [w] at b
     exact fun a ha=>ad a _ g (AB g) ⟨(Ag (i - h.1)),(Ag (j + (Ag (Int.tdiv (Ag (60000 * h.1)) h.2)))),(Ag (l + 1)),ha.sb rfl,x,(c.sel [] rfl),b⟩
   ·refine Bc (aa ?_)
    refine Al 2 rfl (Aw (rt v rfl rfl (by cases b; exact ⟨rfl,t⟩)))
theorem VG (d:Ae) (g:Ae4) (f:Ac) (j:RO BN d f g) (h:Int) (r:(Int × Bool)) (b:Kx g h = some r) :
  A1 128 [f,(iv h)] d fun e w'=>e = .returned (.tuple #[(iv r.1),(.bool r.2)]) ∧ Bl d w':=by
 refine cm Tryz.func128 Tryz.ntmps128 rfl fun Q n hP o s=>?_
 unfold Kx at b
 refine Al 2 rfl (Am fun _ t=>(Am fun u v=>?_))
 obtain ⟨w,x,b⟩:=Ch b
 have p:∀ (k:Bool) (i:Ae) (_:w k = some r) (_:Bl d i) (_:Sp d i []),∀ a,St 19 [(0,f),(1,(iv h)),(15,(.bool k))] a → u a i:=by
  intro k i b l ap
  subst x
  refine v (A2 rfl b (fun _ b=>?_) (fun _ b=>?_))
  ·refine Al 2 rfl ?_
   refine Aw (rt n rfl rfl (by cases b; exact ⟨rfl,l⟩))
  ·refine Au (t ?_)
   refine Ak fun _ y=>wp 2 rfl (bB b fun aq z b=>(A7 rfl Tryz.call187 (VF i g f (j.ro l) h _ z) rfl ?_))
   rintro _ ar ⟨rfl,aa⟩
   refine ⟨_,rfl,?_⟩
   have ab:=tm l aa
   refine Aq 2 rfl (y (Aw (rt n rfl rfl (by cases b; exact ⟨rfl,ab⟩))))
 refine As (wp 1 rfl (bB b fun ac ad b=>(Bs rfl Tryz.call44 o s (PH d g f (j.ro o) _ ad) rfl fun ae _ m q=>(wp 2 rfl ?_))))
 rcases bE (!ac) with c | c
 ·replace b:=B9 c b
  refine wo rfl c (wo rfl c (wo rfl c (wo rfl c (wo rfl c (AA rfl rfl c rfl (Ah ?_))))))
  exact jx (p true _ b m (q.sel [] rfl)) rfl
 ·replace b:=Cf c b
  refine wn rfl c (wp 1 rfl (wn rfl c (wp 1 rfl (wn rfl c (bB b fun af ag b=>(Bs rfl Tryz.call186 m q (TO ae g f (j.ro m) _ ag) rfl fun ah _ ai aj=>(wn rfl c (bB b fun ak al b=>(Bs rfl Tryz.call60 ai aj (Cs ah h 0 af _ al) rfl fun au _ am an=>(wn rfl c (wp 1 rfl (A6 rfl rfl c rfl (Ah ?_)))))))))))))
  exact jx (p ((!ak)) _ b am (an.sel [] rfl)) rfl
theorem SS (h:Ae) (l:Ae5) (o:Ac) (v:RO A0 h o l) (j:Int) (i:Int) (r:(Int × Bool)) (b:IL l j i = some r) :
  A1 129 [o,(iv j),(iv i)] h fun e w'=>e = .returned (.tuple #[(iv r.1),(.bool r.2)]) ∧ Bl h w':=by
 refine cm Tryz.func129 Tryz.ntmps129 rfl fun Q w hP hB hS=>?_
 unfold IL at b
 refine Al 2 rfl (Am fun _ ap=>(Am fun K3 ar=>?_))
 obtain ⟨k8,av,b⟩:=Ch b
 have x:∀ (y:Bool) (t:Ae) (_:k8 y = some r) (_:Bl h t) (_:Sp h t []),∀ a,St 48 [(0,o),(1,(iv j)),(2,(iv i)),(22,(.bool y))] a → K3 a t:=by
  intro y t b af aw
  subst av
  refine ar (A2 rfl b (fun _ b=>?_) (fun _ b=>?_))
  ·refine Al 2 rfl ?_
   refine Aw (rt w rfl rfl (by cases b; exact ⟨rfl,af⟩))
  ·refine Au (ap ?_)
   refine Am fun _ ax=>Ak fun _ ay=>wp 1 rfl (BQ v Tryz.underlying72 rfl (Aq 1 rfl (ay (Az (AN (fun m a z=>∃ (q:Int),St 48 [(1,(iv j)),(2,(iv i)),(23,o),(24,(iv (List.length l:Int))),(25,(iv q))] a ∧ Bl h z ∧ Sp h z [] ∧ Ey l j i m q = some r) FU ?_ ?_)))))
   ·exact fun a ha=>⟨0,ha.sb rfl,af,(aw.sel [] rfl),b⟩
   ·rintro s a z ⟨q,ha,aa,az,b⟩ bn a0
    refine BB ?_ ha
    cases s with
    | zero=>exact Be b
    | succ s =>
     obtain ⟨bo,ag⟩:∃ k,k = Ey l j i s:=⟨_,rfl⟩
     rw [Ey,← ag] at b
     refine Al 1 rfl (Am fun _ a1=>(A2 rfl b (fun _ b=>?_) (fun _ b=>?_)))
     ·refine Au (a1 ?_)
      refine Am fun _ a2=>Az (Ak fun _ a3=>(bB b fun n a4 b=>(BM (e:=A0) Tryz.underlying72 rfl rfl rfl v a4 ?_)))
      rintro bp _ rfl a5
      refine BV BD rfl (a5.ro aa) rfl (Ep BD rfl aa az fun ah bq _ a6 a7=>(Gq 0 BD rfl rfl a6 a7 rfl rfl rfl fun br _ ab p=>(Ah (a3 (Am fun a8 a9=>?_)))))
      obtain ⟨ba,bb,b⟩:=Ch b
      have ac:∀ (ad:Bool) (u:Ae) (_:ba ad = some r) (_:Bl h u) (_:Sp h u [A9 ah 125 [(iv n.1),(iv n.2.1),(iv n.2.2.1),(iv n.2.2.2)]]),∀ a,St 48 [(1,(iv j)),(2,(iv i)),(9,(.pointer (some ⟨ah,0,none⟩))),(23,o),(24,(iv (List.length l:Int))),(25,(iv q)),(44,(.bool ad))] a → a8 a u:=by
       intro ad u b ai aj
       subst bb
       refine a9 (A2 rfl b (fun _ b=>?_) (fun _ b=>?_))
       ·refine Ak fun _ bc=>?_
        refine Bq JA rfl (AU 0 A4 rfl aj rfl rfl (Aq 2 rfl (bc (Aw (rt w rfl rfl (by cases b; exact ⟨rfl,ai⟩))))))
       ·refine Au (a2 ?_)
        refine As (Aq 2 rfl ?_)
        rw [ag] at b
        exact fun a ha=>a0 a _ s (AB s) ⟨(Ag (q + 1)),ha.sb rfl,ai,(aj.sel [] rfl),b⟩
      refine As (Bq HY rfl (AU 0 A4 rfl p rfl rfl (wp 3 rfl ?_)))
      rcases bE (n.2.1 == j) with c | c
      ·replace b:=B9 c b
       refine wn rfl c (Bq DD rfl (wn rfl c (AU 0 A4 rfl p rfl rfl (wn rfl c (wp 1 rfl (wn rfl c (wp 1 rfl (AA rfl rfl c rfl (wp 1 rfl ?_)))))))))
       rcases bE (decide (n.2.2.1 ≤ i)) with d | d
       ·replace b:=B9 d b
        refine wn rfl d (wp 1 rfl (wn rfl d (Bq GW rfl (wn rfl d (AU 0 A4 rfl p rfl rfl (wn rfl d (wp 1 rfl (AA rfl rfl d rfl (Ah ?_)))))))))
        exact jx (ac ((decide (i < n.2.2.2))) _ b ab (p.sel [0] rfl)) rfl
       ·replace b:=Cf d b
        refine wo rfl d (wo rfl d (wo rfl d (wo rfl d (A6 rfl rfl d rfl (Ah ?_)))))
        exact jx (ac false _ b ab (p.sel [0] rfl)) rfl
      ·replace b:=Cf c b
       refine wo rfl c (wo rfl c (wo rfl c (wo rfl c (A6 rfl rfl c rfl (wp 1 rfl (wo rfl rfl (wo rfl rfl (wo rfl rfl (wo rfl rfl (A6 rfl rfl rfl rfl (Ah ?_)))))))))))
       exact jx (ac false _ b ab (p.sel [0] rfl)) rfl
     ·refine Bc (ax ?_)
      refine Al 2 rfl (Aw (rt w rfl rfl (by cases b; exact ⟨rfl,aa⟩)))
 refine As (wp 1 rfl (bB b fun bd be b=>(Bs rfl Tryz.call116 hB hS (Nz h l o (v.ro hB) _ be) rfl fun bf _ ak al=>(wp 2 rfl ?_))))
 rcases bE (!bd) with f | f
 ·replace b:=B9 f b
  refine wo rfl f (wo rfl f (wo rfl f (AA rfl rfl f rfl (wp 1 rfl (wo rfl rfl (wo rfl rfl (wo rfl rfl (AA rfl rfl rfl rfl (Ah ?_)))))))))
  exact jx (x true _ b ak (al.sel [] rfl)) rfl
 ·replace b:=Cf f b
  refine wn rfl f (wp 1 rfl (wn rfl f (bB b fun bg bh b=>(Bs rfl Tryz.call60 ak al (Cs bf j 1 9 _ bh) rfl fun bi _ am an=>(wn rfl f (wp 1 rfl (A6 rfl rfl f rfl (wp 1 rfl ?_))))))))
  rcases bE (!bg) with g | g
  ·replace b:=B9 g b
   refine wo rfl g (wo rfl g (wo rfl g (AA rfl rfl g rfl (Ah ?_))))
   exact jx (x true _ b am (an.sel [] rfl)) rfl
  ·replace b:=Cf g b
   refine wn rfl g (wp 1 rfl (wn rfl g (bB b fun u64 bj b=>(Bs rfl Tryz.call60 am an (Cs bi i 0 999 _ bj) rfl fun bs _ bk bl=>(wn rfl g (wp 1 rfl (A6 rfl rfl g rfl (Ah ?_))))))))
   exact jx (x ((!u64)) _ b bk (bl.sel [] rfl)) rfl
theorem Rq (c:Ae) (d:Ae7) (i:Ac) (o:RO Cm c i d) (f:(List Int)) (n:Ac) (p:RO Ao c n f) (r:Bool) (b:HL d f = some r) :
  A1 223 [i,n] c fun e w'=>e = .returned (.bool r) ∧ Bl c w':=by
 refine cm Tryz.func223 Tryz.ntmps223 rfl fun Q q hP u v=>?_
 unfold HL at b
 refine Al 1 rfl (Am fun _ w=>(Ak fun _ x=>(wp 1 rfl (BQ p Tryz.underlying36 rfl (Aq 1 rfl (x (Az (AN (fun m a g=>∃ (j:Int),St 22 [(0,i),(7,n),(8,(iv (List.length f:Int))),(9,(iv j))] a ∧ Bl c g ∧ Sp c g [] ∧ DS f d m j = some r) FU ?_ ?_))))))))
 ·exact fun a ha=>⟨0,ha.sb rfl,u,(v.sel [] rfl),b⟩
 ·rintro h a g ⟨j,ha,l,y,b⟩ ao z
  refine BB ?_ ha
  cases h with
  | zero=>exact Be b
  | succ h =>
   obtain ⟨ap,s⟩:∃ k,k = DS f d h:=⟨_,rfl⟩
   rw [DS,← s] at b
   refine Al 1 rfl (Am fun _ aa=>(A2 rfl b (fun _ b=>?_) (fun _ b=>?_)))
   ·refine Au (aa ?_)
    refine Am fun _ ab=>Az (Ak fun _ ac=>(bB b fun ad ae b=>(BM (e:=Ao) Tryz.underlying36 rfl rfl rfl p ae ?_)))
    rintro aq _ rfl af
    refine BV A4 rfl (af.ro l) rfl (Aq 1 rfl (ac (Ak fun _ ag=>(wp 2 rfl (BQ o Tryz.underlying41 rfl (wp 1 rfl (bB b fun ar ah b=>(Bs rfl Tryz.call60 l y (Cs g ad 0 (Ag ((List.length d:Int) - 1)) _ ah) rfl fun au _ t ai=>(Aq 1 rfl (ag (A2 rfl b (fun _ b=>?_) (fun _ b=>?_))))))))))))
    ·refine Al 1 rfl ?_
     refine Aw (rt q rfl rfl (by cases b; exact ⟨rfl,t⟩))
    ·refine Au (ab ?_)
     refine As (Aq 2 rfl ?_)
     rw [s] at b
     exact fun a ha=>z a _ h (AB h) ⟨(Ag (j + 1)),ha.sb rfl,t,(ai.sel [] rfl),b⟩
   ·refine Bc (w ?_)
    refine Ak fun _ aj=>wp 1 rfl (bB b fun av ak b=>(A7 rfl Tryz.call45 (Li g d i (o.ro l) _ ak) rfl ?_))
    rintro _ aw ⟨rfl,al⟩
    refine ⟨_,rfl,?_⟩
    have am:=tm l al
    refine Aq 1 rfl (aj (Aw (rt q rfl rfl (by cases b; exact ⟨rfl,am⟩))))
theorem Mz (f:Ae) (n:(List Int)) (j:Ac) (g:An) (ax:Sep 0 f [Ab Ao g j n]) (r:(List Int)) (c:Er n = some r) :
  A1 267 [j] f fun e w'=>e = .returned (.tuple #[]) ∧ Below 0 (wE f) w' ∧ Sep 0 w' [A5 f (Bf [Ab Ao g j n]),Ab Ao g j r]:=by
 refine Jt Tryz.func267 rfl Tryz.ntmps267 rfl rfl fun Q hQn hQ l=>?_
 have hB:Bl (wE f) f:=Ek f
 have hS:Sp (wE f) f [A5 f (Bf [Ab Ao g j n]),Ab Ao g j n]:=ax.rest
 unfold Er at c
 refine Ak fun _ az=>wp 1 rfl (BQ (hS.own_ro (i:=1) rfl) Tryz.underlying36 rfl (Aq 3 rfl (az (Az (AN (fun m a w2=>∃ (v:(List Int)) (p:Int) (q:Int),St 28 [(0,j),(2,(iv p)),(3,(iv q))] a ∧ Bl (wE f) w2 ∧ Sp (wE f) w2 [A5 f (Bf [Ab Ao g j n]),Ab Ao g j v] ∧ CS m v p q = some r) FU ?_ ?_)))))
 ·exact fun a ha=>⟨n,0,(Ag ((List.length n:Int) - 1)),ha.sb rfl,hB,(hS.sel [0,1] rfl),c⟩
 ·rintro w a w2 ⟨v,p,q,ha,ag,ah,c⟩ bp a0
  refine BB ?_ ha
  cases w with
  | zero=>exact Be c
  | succ w =>
   obtain ⟨bq,ai⟩:∃ k,k = CS w:=⟨_,rfl⟩
   rw [CS,← ai] at c
   refine Am fun _ a1=>Al 3 rfl (A2 rfl c (fun _ c=>?_) (fun _ c=>?_))
   ·refine Au (a1 ?_)
    refine Am fun a2 a3=>?_
    obtain ⟨a4,a5,c⟩:=Ch c
    have aj:∀ (y:(List Int)) (z:Ae) (_:a4 y = some r) (_:Bl (wE f) z) (_:Sp (wE f) z [A5 f (Bf [Ab Ao g j n]),Ab Ao g j y]),∀ a,St 28 [(0,j),(2,(iv p)),(3,(iv q))] a → a2 a z:=by
     intro y z c a6 a7
     subst a5
     refine a3 (As (Aq 6 rfl ?_))
     rw [ai] at c
     exact fun a ha=>a0 a _ w (AB w) ⟨y,(Ag (p + 1)),(Ag (q - 1)),ha.sb rfl,a6,(a7.sel [0,1] rfl),c⟩
    refine Az (AR B2 g ag ah fun x _ ak s=>?_)
    have d:=KeepX.refl x g
    refine Ax 0 rfl l d (Ax 1 rfl l d (Ax 2 rfl l d (Ax 3 rfl l d (Ax 4 rfl l d (Ax 5 rfl l d (bB c fun t a8 c=>(Ad 6 rfl l d (Bv (e:=Ao) (i:=1) Tryz.underlying36 rfl rfl rfl s rfl a8 ?_))))))))
    rintro br _ rfl al bs
    refine Ax 8 rfl l d (Ax 9 rfl l d (bB c fun u a9 c=>(Ad 10 rfl l d (Bv (e:=Ao) (i:=1) Tryz.underlying36 rfl rfl rfl s rfl a9 ?_))))
    rintro bt _ rfl am bu
    refine Cz (is:=[7,11]) (by kernel_rfl) rfl (Bd.2 ⟨⟨_,rfl,?_⟩,Bd.2 ⟨⟨_,rfl,?_⟩,fun _ h=>by cases h⟩⟩)
    ·refine BV A4 rfl al rfl ?_
     refine Ah (Ap d (Av 11 rfl (BV A4 rfl am rfl (Ah (Ap d (bB c fun bv an c=>(Ad 12 rfl l d (Bv (e:=Ao) (i:=1) Tryz.underlying36 rfl rfl rfl s rfl an ?_))))))))
     rintro bw _ rfl bx ba
     refine Av 13 rfl (BO (i:=1) (o:=0) (vs:=[(iv t)]) (u':=t) Ca A4 rfl rfl rfl rfl ba an ak s rfl rfl ⟨rfl,trivial⟩ rfl fun bz ab bb ao=>?_)
     have ac:=d.wr' ab.1 ab.2.1 (fun _ _ h=>h)
     have bc:∀ b,b < x.heap.size → b ∈ g → b ∈ g:=fun b hlt hb=>(ab.2.2 b hb).elim ((fun _ _ h=>h) b hlt) (fun h=>absurd hlt (AK.2 (Ay (Nat.le_refl x.heap.size) h)))
     refine Ah (Ap ac (Av 14 rfl (bB c fun b0 ap c=>(Cj (e:=Ao) (i:=1) Tryz.underlying36 rfl rfl rfl ao rfl ap ?_))))
     rintro b1 _ rfl b2 bd
     refine Ah (Ap ac (Av 15 rfl (BO (i:=1) (o:=0) (vs:=[(iv u)]) (u':=u) Ca A4 rfl rfl rfl rfl bd ap bb ao rfl rfl ⟨rfl,trivial⟩ rfl fun b3 aq be bf=>?_)))
     have bg:=ac.wr' aq.1 aq.2.1 (bc)
     refine Ah (Ap bg (Ba ?_))
     exact jx (aj ((BE (BE v p t) q u)) _ c be (bf.sel [0,1] rfl)) rfl
    ·refine BV A4 rfl am rfl ?_
     refine Ah (Ap d (Av 7 rfl (BV A4 rfl al rfl (Ah (Ap d (bB c fun b4 ar c=>(Ad 12 rfl l d (Bv (e:=Ao) (i:=1) Tryz.underlying36 rfl rfl rfl s rfl ar ?_))))))))
     rintro b5 _ rfl b6 bh
     refine Av 13 rfl (BO (i:=1) (o:=0) (vs:=[(iv t)]) (u':=t) Ca A4 rfl rfl rfl rfl bh ar ak s rfl rfl ⟨rfl,trivial⟩ rfl fun b7 ad bi au=>?_)
     have ae:=d.wr' ad.1 ad.2.1 (fun _ _ h=>h)
     have bj:∀ b,b < x.heap.size → b ∈ g → b ∈ g:=fun b hlt hb=>(ad.2.2 b hb).elim ((fun _ _ h=>h) b hlt) (fun h=>absurd hlt (AK.2 (Ay (Nat.le_refl x.heap.size) h)))
     refine Ah (Ap ae (Av 14 rfl (bB c fun b8 av c=>(Cj (e:=Ao) (i:=1) Tryz.underlying36 rfl rfl rfl au rfl av ?_))))
     rintro b9 _ rfl ca bk
     refine Ah (Ap ae (Av 15 rfl (BO (i:=1) (o:=0) (vs:=[(iv u)]) (u':=u) Ca A4 rfl rfl rfl rfl bk av bi au rfl rfl ⟨rfl,trivial⟩ rfl fun cb aw bl bm=>?_)))
     have bn:=ae.wr' aw.1 aw.2.1 (bj)
     refine Ah (Ap bn (Ba ?_))
     exact jx (aj ((BE (BE v p t) q u)) _ c bl (bm.sel [0,1] rfl)) rfl
   ·refine Bc ?_
    obtain rfl:=Option.some.inj c
    exact N3 (vs:=[]) hQn rfl trivial ⟨rfl,ag,ah.sel [0,1] rfl⟩
theorem Xk (f:Ae) (n:Ae7) (s:Ac) (ab:RO Cm f s n) (t:Int) (r:(List Int)) (b:Lf n t = some r) :
  A1 244 [s,(iv t)] f fun e w'=>∃ (w:Ac) (G0:An),e = .returned w ∧ Bl f w' ∧ Sp f w' [Ab Ao G0 w r]:=by
 refine cm Tryz.func244 Tryz.ntmps244 rfl fun Q hQ hP hB hS=>?_
 unfold Lf at b
 refine Al 1 rfl (Ak fun _ ag=>(Bb (vs:=[]) (l:=[]) Ca Tryz.underlying36 rfl rfl rfl rfl rfl rfl hB hS fun v3 F4 w5 _ aj ak=>(Aq 1 rfl (ag (Am fun _ al=>(Az (AN (fun m a p=>∃ (h:Int) (g:(List Int)) (c:Ac) (d:An),St 21 [(0,s),(1,(iv h)),(5,c)] a ∧ Bl f p ∧ Sp f p [Ab Ao d c g] ∧ E7 n m h g = some r) FU ?_ ?_)))))))
 ·exact fun a ha=>⟨t,[],v3,F4,ha.sb rfl,aj,(ak.sel [0] rfl),b⟩
 ·rintro j a p ⟨h,g,c,d,ha,u,q,b⟩ a9 am
  refine BB ?_ ha
  cases j with
  | zero=>exact Be b
  | succ j =>
   obtain ⟨ba,x⟩:∃ k,k = E7 n j:=⟨_,rfl⟩
   rw [E7,← x] at b
   refine Am fun _ an=>Al 2 rfl (A2 rfl b (fun _ b=>?_) (fun _ b=>?_))
   ·refine Au (an ?_)
    refine Am fun _ ao=>Az (As (wp 2 rfl (Bb (vs:=[(iv h)]) (l:=[h]) Ca Tryz.underlying36 rfl rfl rfl rfl rfl rfl u q fun bb bc ap _ aq y=>(bB b fun ar au b=>(AE (i:=1) (S:=(· < ap.heap.size)) Ca Tryz.underlying36 rfl rfl rfl aq y rfl (y.own_ro (i:=0) rfl) au fun av aw bd _ z ax=>(Aq 1 rfl (ao (As (wp 2 rfl (bB b fun ay az b=>(BM (e:=Cm) Tryz.underlying41 rfl rfl rfl ab az ?_)))))))))))
    rintro be _ rfl a0
    refine JY (o:=0) NM rfl rfl (BV A4 rfl ((a0.ro z).add 0) rfl (Aq 1 rfl ?_))
    rw [x] at b
    exact fun a ha=>am a _ j (AB j) ⟨ay.1,ar,av,aw,ha.sb rfl,z,(ax.sel [1] rfl),b⟩
   ·refine Bc (al ?_)
    refine Ak fun _ a1=>wp 1 rfl (bB b fun v a2 b=>(A7 rfl Tryz.call267 (Mz p g c d (q.sel [0] rfl).base0 _ a2) rfl ?_))
    rintro _ a3 ⟨rfl,a4,aa⟩
    refine ⟨_,rfl,?_⟩
    have a5:=q.mutB [0] rfl (M:=[Ab Ao d c g]) rfl (M':=[Ab Ao d c v]) rfl u u.size a4 aa
    have a6:Sp f a3 [Ab Ao d c v]:=q.mut [0] [] rfl (M:=[Ab Ao d c g]) rfl (M':=[Ab Ao d c v]) rfl aa
    refine Ah (a1 (Al 2 rfl (Aw (rt hQ rfl rfl (by cases b; exact ⟨c,d,rfl,a5,a6.sel [0] rfl⟩)))))
theorem UR (g:Ae) (j:Ae7) (q:Ac) (ad:RO Cm g q j) (n:Int) (r:(List Int)) (c:JS j n = some r) :
  A1 224 [q,(iv n)] g fun e w'=>∃ (q0:Ac) (G0:An),e = .returned q0 ∧ Bl g w' ∧ Sp g w' [Ab Ao G0 q0 r]:=by
 refine cm Tryz.func224 Tryz.ntmps224 rfl fun Q hQ f hB hS=>?_
 unfold JS at c
 refine Al 1 rfl (Ak fun _ a0=>(Bb (vs:=[]) (l:=[]) Ca Tryz.underlying36 rfl rfl rfl rfl rfl rfl hB hS fun v3 F4 w5 _ a3 a4=>(Aq 1 rfl (a0 (Am fun _ a5=>(Al 1 rfl (Az (AN (fun m a v=>∃ (w:(List Int)) (x:Int) (y:Ac) (ae:An),St 37 [(0,q),(1,(iv n)),(5,y),(9,(iv x))] a ∧ Bl g v ∧ Sp g v [Ab Ao ae y w] ∧ Fm j n m w x = some r) FU ?_ ?_))))))))
 ·exact fun a ha=>⟨[],0,v3,F4,ha.sb rfl,a3,(a4.sel [0] rfl),c⟩
 ·rintro s a v ⟨w,x,y,ae,ha,af,al,c⟩ b4 a6
  refine BB ?_ ha
  cases s with
  | zero=>exact Be c
  | succ s =>
   obtain ⟨b5,am⟩:∃ k,k = Fm j n s:=⟨_,rfl⟩
   rw [Fm,← am] at c
   refine Al 1 rfl (Am fun _ a7=>(A2 rfl c (fun _ c=>?_) (fun _ c=>?_)))
   ·refine Au (a7 ?_)
    refine Am fun _ a8=>Az (As (wp 1 rfl (Bb (vs:=[(iv (-1))]) (l:=[(-1)]) Ca Tryz.underlying36 rfl rfl rfl rfl rfl rfl af al fun b6 b7 a9 _ ba an=>(bB c fun bb bc c=>(AE (i:=1) (S:=(· < a9.heap.size)) Ca Tryz.underlying36 rfl rfl rfl ba an rfl (an.own_ro (i:=0) rfl) bc fun bd be b8 _ bf bg=>(Aq 1 rfl (a8 (As (Aq 2 rfl ?_)))))))))
    rw [am] at c
    exact fun a ha=>a6 a _ s (AB s) ⟨bb,(Ag (x + 1)),bd,be,ha.sb rfl,bf,(bg.sel [1] rfl),c⟩
   ·refine Bc (a5 ?_)
    refine Am fun _ bh=>Ak fun _ bi=>wp 2 rfl (bB c fun z bj c=>(En rfl Tryz.call244 af al (Xk v j q (ad.ro af) n _ bj) rfl fun ao bk b9 _ _ bl ap=>(BQ (ap.own_ro (i:=0) rfl) Tryz.underlying36 rfl (Aq 1 rfl (bi (Az (AN (fun m a ag=>∃ (aa:(List Int)) (ab:Int) (t:Ac) (p:An),St 37 [(0,q),(5,t),(17,ao),(18,(iv (List.length z:Int))),(19,(iv ab))] a ∧ Bl g ag ∧ Sp g ag [Ab Ao p t aa,Ab Ao bk ao z] ∧ Dl z j m aa ab = some r) FU ?_ ?_)))))))
    ·exact fun a ha=>⟨w,0,y,ae,ha.sb rfl,bl,(ap.sel [1,0] rfl),c⟩
    ·rintro u a ag ⟨aa,ab,t,p,ha,aq,ah,c⟩ ca bm
     refine BB ?_ ha
     cases u with
     | zero=>exact Be c
     | succ u =>
      obtain ⟨cb,ar⟩:∃ k,k = Dl z j u:=⟨_,rfl⟩
      rw [Dl,← ar] at c
      refine Al 1 rfl (Am fun _ bn=>(A2 rfl c (fun _ c=>?_) (fun _ c=>?_)))
      ·refine Au (bn ?_)
       refine Am fun _ bo=>Az (Ak fun _ bp=>(bB c fun cc bq c=>(Cj (e:=Ao) (i:=1) Tryz.underlying36 rfl rfl rfl ah rfl bq ?_)))
       rintro cd _ rfl br ce
       refine BV A4 rfl br rfl (Aq 1 rfl (bp (AR B2 p aq ah fun bs _ ai ac=>?_)))
       have d:=KeepX.refl bs p
       refine Ax 0 rfl f d (Ax 1 rfl f d (Ax 2 rfl f d (bB c fun bt bu c=>(Ad 3 rfl f d (BA (e:=Cm) Tryz.underlying41 rfl rfl rfl ad bu ?_)))))
       rintro cf _ rfl bv
       refine Ad 4 rfl f d (C6 (o:=1) NL rfl rfl (Ad 5 rfl f d (BJ A4 rfl (EAt.addk (bv.kx ai (fun b hb=>(((ac.get (i:=0) rfl).2.1 b hb).1))) 1) rfl (Ax 6 rfl f d (Ax 7 rfl f d (bB c fun aj bw c=>(Ad 8 rfl f d (BA (e:=Cm) Tryz.underlying41 rfl rfl rfl ad bw ?_))))))))
       rintro cg _ rfl bx
       refine Ad 9 rfl f d (C6 (o:=2) NK rfl rfl (Ad 10 rfl f d (BJ A4 rfl (EAt.addk (bx.kx ai (fun b hb=>(((ac.get (i:=0) rfl).2.1 b hb).1))) 2) rfl (bB c fun ch au c=>(Ad 11 rfl f d (Bv (e:=Ao) (i:=0) Tryz.underlying36 rfl rfl rfl ac rfl au ?_))))))
       rintro ci _ rfl cj bz
       refine Av 12 rfl (BO (i:=0) (o:=0) (vs:=[(iv aj.2.2)]) (u':=aj.2.2) Ca A4 rfl rfl rfl rfl bz au ai ac rfl rfl ⟨rfl,trivial⟩ rfl fun ck av b0 b1=>?_)
       have b2:=d.wr' av.1 av.2.1 (fun _ _ h=>h)
       refine Ah (Ap b2 (Ba (bo (As (Aq 2 rfl ?_)))))
       rw [ar] at c
       exact fun a ha=>bm a _ u (AB u) ⟨(BE aa bt.2.1 aj.2.2),(Ag (ab + 1)),t,p,ha.sb rfl,b0,(b1.sel [0,1] rfl),c⟩
      ·refine Bc (bh ?_)
       refine Al 2 rfl (Aw (rt hQ rfl rfl (by cases c; exact ⟨t,p,rfl,aq,ah.sel [0] rfl⟩)))
theorem UW (c:Ae) (d:Ae7) (f:Ac) (h:RO Cm c f d) (b:Int) (r:((List Int) × Bool)) (a:JW d b = some r) :
  A1 189 [f,(iv b)] c fun e w'=>∃ (j:Ac) (p:An),e = .returned (.tuple #[j,(.bool r.2)]) ∧ Bl c w' ∧ Sp c w' [Ab Ao p j r.1]:=by
 refine cm Tryz.func189 Tryz.ntmps189 rfl fun Q k hP q s=>?_
 unfold JW at a
 refine Al 2 rfl (Am fun _ t=>(Ak fun _ u=>(wp 2 rfl (Bb (vs:=[(iv b)]) (l:=[b]) Ca Tryz.underlying36 rfl rfl rfl rfl rfl rfl q s fun v F5 w _ m n=>(bB a fun ai x a=>(Bs rfl Tryz.call223 m n (Rq w d f (h.ro m) [b] v (n.own_ro (i:=0) rfl) _ x) rfl fun y _ g o=>(Aq 1 rfl (u (A2 rfl a (fun _ a=>?_) (fun _ a=>?_))))))))))
 ·refine Al 2 rfl ?_
  refine Aw ?_
  have z:=o.push0 (r:=Ab Ao [] (.slice none 0 0) []) rfl fun _=>.inl ⟨rfl,rfl,rfl⟩
  refine rt k rfl rfl (by cases a; exact ⟨(.slice none 0 0),[],rfl,g,z.sel [0] rfl⟩)
 ·refine Au (t ?_)
  refine Ak fun _ aa=>wp 2 rfl (bB a fun aj ab a=>(En rfl Tryz.call224 g o (UR y d f (h.ro g) b _ ab) rfl fun ac ad ak _ _ ae af=>(Aq 2 rfl (aa (Aw (rt k rfl rfl (by cases a; exact ⟨ac,ad,rfl,ae,af.sel [0] rfl⟩)))))))
theorem M0 (c:Ae) (hT:Tab c) (d:(Ae4 × Ae4 × Int × Ae4 × Ae5 × Ae7)) (p0:Addr) (ad:Ac) (b6:RO Ar c ad d.1) (ae:Ac) (b7:RO Ar c ae d.2.1) (af:Ac) (b8:RO BN c af d.2.2.2.1) (ag:Ac) (b9:RO A0 c ag d.2.2.2.2.1) (x:Ac) (ar:RO Cm c x d.2.2.2.2.2) (au:EAt (· < c.heap.size) c p0 [ad,ae,(iv d.2.2.1),af,ag,x]) (y:Int) (r:(List Aj)) (b:FA d y = some r) :
  A1 131 [(.pointer (some p0)),(iv y)] c fun e w'=>e = .returned (.string (B5 r)) ∧ Bl c w':=by
 refine cm Tryz.func131 Tryz.ntmps131 rfl fun Q hQ hP z hS=>?_
 unfold FA at b
 refine Al 1 rfl (Ak fun _ aw=>(wp 1 rfl (BP rfl rfl (JY (o:=5) Up rfl rfl (BV R3 rfl ((au.ro z).add 5) rfl (wp 1 rfl (bB b fun f ax b=>(En rfl Tryz.call189 z hS (UW c d.2.2.2.2.2 x (ar.ro z) y _ ax) rfl fun n F5 w6 _ _ aj ay=>(Aq 5 rfl (aw (Am fun _ az=>(Al 2 rfl (A2 rfl b (fun _ b=>?_) (fun _ b=>?_))))))))))))))
 ·refine Al 1 rfl ?_
  refine Aw (rt hQ rfl rfl (by cases b; exact ⟨rfl,aj⟩))
 ·refine Au (az ?_)
  refine Ak fun _ a0=>Bb (vs:=[]) (l:=[]) IB Tryz.underlying61 rfl rfl rfl rfl rfl rfl aj ay fun a1 a2 cc _ a3 ak=>Aq 1 rfl (a0 (Am fun _ a4=>(Ak fun _ a5=>(wp 1 rfl (BQ (ak.own_ro (i:=1) rfl) Tryz.underlying36 rfl (Aq 1 rfl (a5 (Az (AN (fun m a g=>∃ (p:(List (List Aj))) (h:Int) (q:Ac) (aa:An),St 41 [(7,q),(22,n),(23,(iv (List.length f.1:Int))),(24,(iv h))] a ∧ Bl c g ∧ Sp c g [Ab Cx aa q p,Ab Ao F5 n f.1] ∧ Cw f m p h = some r) FU ?_ ?_)))))))))
  ·exact fun a ha=>⟨[],0,a1,a2,ha.sb rfl,a3,(ak.sel [0,1] rfl),b⟩
  ·rintro j a g ⟨p,h,q,aa,ha,s,t,b⟩ cd a6
   refine BB ?_ ha
   cases j with
   | zero=>exact Be b
   | succ j =>
    obtain ⟨ce,al⟩:∃ k,k = Cw f j:=⟨_,rfl⟩
    rw [Cw,← al] at b
    refine Al 1 rfl (Am fun _ a7=>(A2 rfl b (fun _ b=>?_) (fun _ b=>?_)))
    ·refine Au (a7 ?_)
     refine Am fun a8 a9=>?_
     obtain ⟨ba,bb,b⟩:=Ch b
     have am:∀ (u:(List (List Aj))) (v:Ac) (ab:An) (w:Ae) (_:ba u = some r) (_:Bl c w) (_:Sp c w [Ab Cx ab v u,Ab Ao F5 n f.1]),∀ a,St 41 [(7,v),(22,n),(23,(iv (List.length f.1:Int))),(24,(iv h))] a → a8 a w:=by
      intro u v ab w b bc bd
      subst bb
      refine a9 (As (Aq 2 rfl ?_))
      rw [al] at b
      exact fun a ha=>a6 a _ j (AB j) ⟨u,(Ag (h + 1)),v,ab,ha.sb rfl,bc,(bd.sel [0,1] rfl),b⟩
     refine Az (Ak fun _ be=>(bB b fun bf bg b=>(Cj (e:=Ao) (i:=1) Tryz.underlying36 rfl rfl rfl t rfl bg ?_)))
     rintro cf _ rfl bh cg
     refine BV A4 rfl bh rfl (Aq 1 rfl (be (Al 2 rfl (A2 rfl b (fun _ b=>?_) (fun _ b=>?_)))))
     ·refine As ?_
      refine wp 1 rfl (Bb (vs:=[(.string (B5 [45]))]) (l:=[[45]]) IB Tryz.underlying61 rfl rfl rfl rfl rfl rfl s t fun ch ci bi _ bj an=>(bB b fun bk bl b=>(AE (i:=1) (S:=(· < bi.heap.size)) IB Tryz.underlying61 rfl rfl rfl bj an rfl (an.own_ro (i:=0) rfl) bl fun bm bn cj _ bo bp=>(Aq 1 rfl ?_))))
      exact jx (am bk bm bn _ b bo (bp.sel [1,2] rfl)) rfl
     ·refine As ?_
      refine wp 2 rfl (bB b fun ao bq b=>(Bs rfl Tryz.call130 s t (E4 g (hT.st s) bf _ bq) rfl fun ck _ br bs=>(Bb (vs:=[(.string (B5 ao))]) (l:=[ao]) IB Tryz.underlying61 rfl rfl rfl rfl rfl rfl br bs fun cl cn bt _ bu ap=>(bB b fun bv bw b=>(AE (i:=1) (S:=(· < bt.heap.size)) IB Tryz.underlying61 rfl rfl rfl bu ap rfl (ap.own_ro (i:=0) rfl) bw fun bx bz co _ b0 b1=>(Aq 1 rfl ?_))))))
      exact jx (am bv bx bz _ b b0 (b1.sel [1,2] rfl)) rfl
    ·refine Bc (a4 ?_)
     refine Ak fun _ b2=>wp 1 rfl (bB b fun cp b3 b=>(A7 rfl Tryz.call176 (P6 g p q aa (t.ok (i:=0) rfl) [32] _ b3) rfl ?_))
     rintro _ cq ⟨rfl,b4⟩
     refine ⟨_,rfl,?_⟩
     have b5:=tm s b4
     refine Aq 1 rfl (b2 (Aw (rt hQ rfl rfl (by cases b; exact ⟨rfl,b5⟩))))
theorem Oz (k:Ae) (x:Tab k) (g:(Ae4 × Ae4 × Int × Ae4 × Ae5 × Ae7)) (p0:Addr) (y:Ac) (s:RO Ar k y g.1) (ac:Ac) (ah:RO Ar k ac g.2.1) (ap:Ac) (bz:RO BN k ap g.2.2.2.1) (aq:Ac) (b0:RO A0 k aq g.2.2.2.2.1) (a3:Ac) (co:RO Cm k a3 g.2.2.2.2.2) (m:EAt (· < k.heap.size) k p0 [y,ac,(iv g.2.2.1),ap,aq,a3]) (x1:(List Aj)) (x2:(List Int)) (b1:Ac) (t:RO Ao k b1 x2) (r:(List Aj)) (d:Cc g x1 x2 = some r) :
  A1 86 [(.pointer (some p0)),(.string (B5 x1)),b1] k fun e w'=>e = .returned (.string (B5 r)) ∧ Bl k w':=by
 refine cm Tryz.func86 Tryz.ntmps86 rfl fun Q u c f hS=>?_
 unfold Cc at d
 refine Al 1 rfl (Am fun _ ef=>(Al 1 rfl (Az (Ak fun _ eg=>(AQ rfl rfl rfl (Aq 1 rfl (eg (A2 rfl d (fun _ d=>?_) (fun _ d=>?_)))))))))
 ·refine Am fun K6 ei=>?_
  obtain ⟨ej,ek,d⟩:=jE4 d
  have cr:∀ (a4:Ae4) (a5:Ae4) (a6:Int) (a7:(List Int)) (a8:Ac) (cs:An) (a9:Ac) (ct:An) (ba:Ac) (cu:An) (b2:Nat) (w7:Ae) (_:ej a4 a5 a6 a7 = some r) (_:Bl k w7) (_:Sp k w7 [Ab Ar cs a8 a4,Ab Ar ct a9 a5,Ab Ao cu ba a7,A9 b2 128 [a8,a9,(iv a6),ba]]),∀ a,St 182 [(7,(.pointer (some ⟨b2,0,none⟩)))] a → K6 a w7:=by
   intro a4 a5 a6 a7 a8 cs a9 ct ba cu b2 w7 d el bb
   subst ek
   refine ei (Ak fun _ em=>(AU 3 Bp rfl bb rfl rfl (bB d fun cv en d=>(A7 rfl Tryz.call121 (SQ w7 (a4,a5,a6,a7) a8 (bb.own_ro (i:=0) rfl) a9 (bb.own_ro (i:=1) rfl) ba (bb.own_ro (i:=2) rfl) _ en) rfl ?_))))
   rintro _ eo ⟨rfl,ep⟩
   refine ⟨_,rfl,?_⟩
   have cw:=tm el ep
   refine wp 2 rfl (bB d fun i3 eq d=>(A7 rfl Tryz.call120 (J6 eo (x.st cw) cv.1 cv.2 _ eq) rfl ?_))
   rintro _ i4 ⟨rfl,er⟩
   refine ⟨_,rfl,?_⟩
   have es:=tm cw er
   refine Aq 1 rfl (em (Aw (rt u rfl rfl (by cases d; exact ⟨rfl,es⟩))))
  refine AR B2 [] f hS fun ae _ z cx=>?_
  have n:=KeepX.refl ae []
  refine Ax 0 rfl c n (Ad 1 rfl c n (B6 rfl rfl (Ad 2 rfl c n (C6 (o:=1) RE rfl rfl (Ad 3 rfl c n (BJ Cp rfl (EAt.addk (m.kx z (by simp)) 1) rfl (Ax 4 rfl c n (Ad 5 rfl c n (B6 rfl rfl (Ad 6 rfl c n (C6 (o:=0) HR rfl rfl (Ad 7 rfl c n (BJ Cp rfl (EAt.addk (m.kx z (by simp)) 0) rfl (Ax 8 rfl c n (Ad 9 rfl c n (B6 rfl rfl (Ad 10 rfl c n (C6 (o:=2) RD rfl rfl (Ad 11 rfl c n (BJ A4 rfl (EAt.addk (m.kx z (by simp)) 2) rfl (Cz (is:=[12,16]) (by kernel_rfl) rfl (Bd.2 ⟨⟨_,rfl,?_⟩,Bd.2 ⟨⟨_,rfl,?_⟩,fun _ h=>by cases h⟩⟩))))))))))))))))))))))
  ·refine bB d fun aj et d=>?_
   refine A7 rfl Tryz.call119 (LB ae g.2.1 ac (ah.ro z) g.1 y (s.ro z) g.2.2.1 _ et) rfl ?_
   rintro _ eu ⟨b3,ev,b4,ew,b5,ex,rfl,bc,ey⟩
   refine ⟨_,rfl,?_⟩
   have cy:=tm z bc
   have ez:=cx.join bc ey z.size
   have au:=n.ext bc
   have e0:=Ay (Nat.le_refl ae.heap.size) bc.size
   refine Ah (Ap au (Ax 13 rfl c au (Ad 14 rfl c au (AW rfl rfl rfl (Ad 15 rfl c au (AW rfl rfl rfl (Av 16 rfl (Ep Bp rfl (Bg eu) (Sep.nil _ _) fun cz i5 b6 _ c0=>?_))))))))
   have e1:=tm cy b6
   have bd:=ez.join b6 c0 cy.size
   have e2:∀ b ∈ [cz],ae.heap.size ≤ b:=fun b hb=>Ay e0 ((c0.1 _ (List.mem_cons_self ..)).2.1 b hb).1
   have c1:=au.ext b6
   refine Ah (Ap c1 (Av 17 rfl (BC (i:=0) (vs:=[b3,b4,(iv aj.1.2.2.1),b5]) (cs':=[b3,b4,(iv aj.1.2.2.1),b5]) Bp rfl rfl rfl rfl e1 bd rfl rfl ⟨(bd.own_ro (i:=1) rfl).one,(bd.own_ro (i:=2) rfl).one,rfl,(bd.own_ro (i:=3) rfl).one,trivial⟩ rfl fun i6 c2 e3 e4=>?_)))
   have c3:=c1.wr' c2.1 c2.2.1 (fun b hlt hb=>absurd hlt (AK.2 (e2 b hb)))
   refine Ah (Ap c3 (Ad 18 rfl c c3 (AD rfl rfl (Ba ?_))))
   exact jx (cr (aj.1.1) (aj.1.2.1) (aj.1.2.2.1) (aj.1.2.2.2) b3 ev b4 ew b5 ex cz _ d e3 (e4.sel [1,2,3,0] rfl)) rfl
  ·refine Ep Bp rfl (Bg ae) (Sep.nil _ _) fun c4 e5 b7 _ c5=>?_
   have be:=tm z b7
   have e6:=cx.join b7 c5 z.size
   have e7:∀ b ∈ [c4],ae.heap.size ≤ b:=fun b hb=>Ay (Nat.le_refl ae.heap.size) ((c5.1 _ (List.mem_cons_self ..)).2.1 b hb).1
   have c6:=n.ext b7
   refine Ah (Ap c6 (Av 12 rfl (bB d fun ak e8 d=>(A7 rfl Tryz.call119 (LB e5 g.2.1 ac (ah.ro be) g.1 y (s.ro be) g.2.2.1 _ e8) rfl ?_))))
   rintro _ i7 ⟨b8,e9,b9,fa,ca,fb,rfl,cb,fc⟩
   refine ⟨_,rfl,?_⟩
   have fd:=tm be cb
   have bf:=e6.join cb fc be.size
   have av:=c6.ext cb
   refine Ah (Ap av (Ax 13 rfl c av (Ad 14 rfl c av (AW rfl rfl rfl (Ad 15 rfl c av (AW rfl rfl rfl (Av 17 rfl (BC (i:=3) (vs:=[b8,b9,(iv ak.1.2.2.1),ca]) (cs':=[b8,b9,(iv ak.1.2.2.1),ca]) Bp rfl rfl rfl rfl fd bf rfl rfl ⟨(bf.own_ro (i:=0) rfl).one,(bf.own_ro (i:=1) rfl).one,rfl,(bf.own_ro (i:=2) rfl).one,trivial⟩ rfl fun i8 c7 fe ff=>?_))))))))
   have c8:=av.wr' c7.1 c7.2.1 (fun b hlt hb=>absurd hlt (AK.2 (e7 b hb)))
   refine Ah (Ap c8 (Ad 18 rfl c c8 (AD rfl rfl (Ba ?_))))
   exact jx (cr (ak.1.1) (ak.1.2.1) (ak.1.2.2.1) (ak.1.2.2.2) b8 e9 b9 fa ca fb c4 _ d fe (ff.sel [0,1,2,3] rfl)) rfl
 ·refine Ak fun _ fg=>?_
  refine AQ rfl rfl rfl (Aq 1 rfl (fg (A2 rfl d (fun _ d=>?_) (fun _ d=>?_))))
  ·refine Ak fun _ fh=>?_
   refine wp 2 rfl (bB d fun fi fj d=>(BM (e:=Ao) Tryz.underlying36 rfl rfl rfl t fj ?_))
   rintro i9 _ rfl fk
   refine BV A4 rfl (fk.ro f) rfl (bB d fun ja fl d=>(A7 rfl Tryz.call122 (NB k (x.st f) g p0 y (s.ro f) ac (ah.ro f) ap (bz.ro f) aq (b0.ro f) a3 (co.ro f) (m.ro f) fi _ fl) rfl ?_))
   rintro _ jb ⟨rfl,fm⟩
   refine ⟨_,rfl,?_⟩
   have fn:=tm f fm
   refine Aq 1 rfl (fh (Aw (rt u rfl rfl (by cases d; exact ⟨rfl,fn⟩))))
  ·refine Ak fun _ fo=>?_
   refine AQ rfl rfl rfl (Aq 1 rfl (fo (A2 rfl d (fun _ d=>?_) (fun _ d=>?_))))
   ·refine Am fun fp fq=>?_
    obtain ⟨fr,fs,d⟩:=jE4 d
    have c9:∀ (bg:Ae4) (bh:Ae4) (bi:Int) (bj:(List Int)) (bk:Ac) (da:An) (bl:Ac) (db:An) (bm:Ac) (dc:An) (cc:Nat) (bn:Ae) (_:fr bg bh bi bj = some r) (_:Bl k bn) (_:Sp k bn [Ab Ar da bk bg,Ab Ar db bl bh,Ab Ao dc bm bj,A9 cc 128 [bk,bl,(iv bi),bm]]),∀ a,St 182 [(2,b1),(9,(.pointer (some ⟨cc,0,none⟩)))] a → fp a bn:=by
     intro bg bh bi bj bk da bl db bm dc cc bn d ft fu
     subst fs
     refine fq (Am fun _ fv=>(AR B2 [] ft fu fun dd _ de bo=>?_))
     have aw:=KeepX.refl dd []
     refine Ad 0 rfl c aw (CJ 3 Bp rfl bo rfl (by simp) (Ax 1 rfl c aw (bB d fun fw fx d=>(Ad 2 rfl c aw (BA (e:=Ao) Tryz.underlying36 rfl rfl rfl t fx ?_)))))
     rintro jc _ rfl fy
     refine Ad 3 rfl c aw (BJ A4 rfl (fy.kx de (by simp)) rfl (Av 4 rfl (bB d fun df fz d=>(A7 rfl Tryz.call124 (RR dd (bg,bh,bi,bj) bk (bo.own_ro (i:=0) rfl) bl (bo.own_ro (i:=1) rfl) bm (bo.own_ro (i:=2) rfl) fw _ fz) rfl ?_))))
     rintro _ f0 ⟨rfl,dg⟩
     refine ⟨_,rfl,?_⟩
     have dh:=tm de dg
     have bp:=aw.ext dg
     refine Ah (Ap bp (Ad 5 rfl c bp (AW rfl rfl rfl (Ad 6 rfl c bp (AW rfl rfl rfl (Av 7 rfl (bB d fun jd f1 d=>(A7 rfl Tryz.call120 (J6 f0 (x.st dh) df.1 df.2 _ f1) rfl ?_))))))))
     rintro _ je ⟨rfl,di⟩
     refine ⟨_,rfl,?_⟩
     have f2:=tm dh di
     have dj:=bp.ext di
     refine Ah (Ap dj (Ad 8 rfl c dj (AD rfl rfl (Ba (fv (Aw (rt u rfl rfl (by cases d; exact ⟨rfl,f2⟩))))))))
    refine AR B2 [] f hS fun af _ aa dk=>?_
    have p:=KeepX.refl af []
    refine Ax 0 rfl c p (Ad 1 rfl c p (B6 rfl rfl (Ad 2 rfl c p (C6 (o:=1) RE rfl rfl (Ad 3 rfl c p (BJ Cp rfl (EAt.addk (m.kx aa (by simp)) 1) rfl (Ax 4 rfl c p (Ad 5 rfl c p (B6 rfl rfl (Ad 6 rfl c p (C6 (o:=0) HR rfl rfl (Ad 7 rfl c p (BJ Cp rfl (EAt.addk (m.kx aa (by simp)) 0) rfl (Ax 8 rfl c p (Ad 9 rfl c p (B6 rfl rfl (Ad 10 rfl c p (C6 (o:=2) RD rfl rfl (Ad 11 rfl c p (BJ A4 rfl (EAt.addk (m.kx aa (by simp)) 2) rfl (Cz (is:=[12,16]) (by kernel_rfl) rfl (Bd.2 ⟨⟨_,rfl,?_⟩,Bd.2 ⟨⟨_,rfl,?_⟩,fun _ h=>by cases h⟩⟩))))))))))))))))))))))
    ·refine bB d fun al f3 d=>?_
     refine A7 rfl Tryz.call123 (HD af g.2.1 ac (ah.ro aa) g.1 y (s.ro aa) g.2.2.1 _ f3) rfl ?_
     rintro _ f4 ⟨cd,f5,ce,f6,cf,f7,rfl,bq,f8⟩
     refine ⟨_,rfl,?_⟩
     have dl:=tm aa bq
     have f9:=dk.join bq f8 aa.size
     have ax:=p.ext bq
     have ga:=Ay (Nat.le_refl af.heap.size) bq.size
     refine Ah (Ap ax (Ax 13 rfl c ax (Ad 14 rfl c ax (AW rfl rfl rfl (Ad 15 rfl c ax (AW rfl rfl rfl (Av 16 rfl (Ep Bp rfl (Bg f4) (Sep.nil _ _) fun dm jf cg _ dn=>?_))))))))
     have gb:=tm dl cg
     have br:=f9.join cg dn dl.size
     have gc:∀ b ∈ [dm],af.heap.size ≤ b:=fun b hb=>Ay ga ((dn.1 _ (List.mem_cons_self ..)).2.1 b hb).1
     have dp:=ax.ext cg
     refine Ah (Ap dp (Av 17 rfl (BC (i:=0) (vs:=[cd,ce,(iv al.1.2.2.1),cf]) (cs':=[cd,ce,(iv al.1.2.2.1),cf]) Bp rfl rfl rfl rfl gb br rfl rfl ⟨(br.own_ro (i:=1) rfl).one,(br.own_ro (i:=2) rfl).one,rfl,(br.own_ro (i:=3) rfl).one,trivial⟩ rfl fun jg dq gd ge=>?_)))
     have dr:=dp.wr' dq.1 dq.2.1 (fun b hlt hb=>absurd hlt (AK.2 (gc b hb)))
     refine Ah (Ap dr (Ad 18 rfl c dr (AD rfl rfl (Ba ?_))))
     exact jx (c9 (al.1.1) (al.1.2.1) (al.1.2.2.1) (al.1.2.2.2) cd f5 ce f6 cf f7 dm _ d gd (ge.sel [1,2,3,0] rfl)) rfl
    ·refine Ep Bp rfl (Bg af) (Sep.nil _ _) fun ds gf ch _ dt=>?_
     have bs:=tm aa ch
     have gg:=dk.join ch dt aa.size
     have gh:∀ b ∈ [ds],af.heap.size ≤ b:=fun b hb=>Ay (Nat.le_refl af.heap.size) ((dt.1 _ (List.mem_cons_self ..)).2.1 b hb).1
     have du:=p.ext ch
     refine Ah (Ap du (Av 12 rfl (bB d fun am gi d=>(A7 rfl Tryz.call123 (HD gf g.2.1 ac (ah.ro bs) g.1 y (s.ro bs) g.2.2.1 _ gi) rfl ?_))))
     rintro _ jh ⟨ci,gj,cj,gk,ck,gl,rfl,cl,gm⟩
     refine ⟨_,rfl,?_⟩
     have gn:=tm bs cl
     have bt:=gg.join cl gm bs.size
     have ay:=du.ext cl
     refine Ah (Ap ay (Ax 13 rfl c ay (Ad 14 rfl c ay (AW rfl rfl rfl (Ad 15 rfl c ay (AW rfl rfl rfl (Av 17 rfl (BC (i:=3) (vs:=[ci,cj,(iv am.1.2.2.1),ck]) (cs':=[ci,cj,(iv am.1.2.2.1),ck]) Bp rfl rfl rfl rfl gn bt rfl rfl ⟨(bt.own_ro (i:=0) rfl).one,(bt.own_ro (i:=1) rfl).one,rfl,(bt.own_ro (i:=2) rfl).one,trivial⟩ rfl fun ji dv go gp=>?_))))))))
     have dw:=ay.wr' dv.1 dv.2.1 (fun b hlt hb=>absurd hlt (AK.2 (gh b hb)))
     refine Ah (Ap dw (Ad 18 rfl c dw (AD rfl rfl (Ba ?_))))
     exact jx (c9 (am.1.1) (am.1.2.1) (am.1.2.2.1) (am.1.2.2.2) ci gj cj gk ck gl ds _ d go (gp.sel [0,1,2,3] rfl)) rfl
   ·refine Ak fun _ gq=>?_
    refine AQ rfl rfl rfl (Aq 1 rfl (gq (A2 rfl d (fun _ d=>?_) (fun _ d=>?_))))
    ·refine Ak fun _ gr=>?_
     refine wp 1 rfl (BP rfl rfl (JY (o:=0) HR rfl rfl (BV Cp rfl ((m.ro f).add 0) rfl (bB d fun dx gs d=>(A7 rfl Tryz.call125 (Rt k g.1 y (s.ro f) _ gs) rfl ?_)))))
     rintro _ gt ⟨rfl,gu⟩
     refine ⟨_,rfl,?_⟩
     have dy:=tm f gu
     refine wp 2 rfl (bB d fun jj gv d=>(A7 rfl Tryz.call120 (J6 gt (x.st dy) dx.1 dx.2 _ gv) rfl ?_))
     rintro _ jk ⟨rfl,gw⟩
     refine ⟨_,rfl,?_⟩
     have gx:=tm dy gw
     refine Aq 1 rfl (gr (Aw (rt u rfl rfl (by cases d; exact ⟨rfl,gx⟩))))
    ·refine Ak fun _ gy=>?_
     refine AQ rfl rfl rfl (Aq 1 rfl (gy (A2 rfl d (fun _ d=>?_) (fun _ d=>?_))))
     ·refine Am fun _ gz=>?_
      refine Am fun _ g0=>AR B2 [] f hS fun g1 _ bu g2=>?_
      have ab:=KeepX.refl g1 []
      refine Ax 0 rfl c ab (bB d fun jl g3 d=>(Ad 1 rfl c ab (BA (e:=Ao) Tryz.underlying36 rfl rfl rfl t g3 ?_)))
      rintro jm _ rfl g4
      refine Ad 2 rfl c ab (BJ A4 rfl (g4.kx bu (by simp)) rfl (Ax 3 rfl c ab (Ad 4 rfl c ab (B6 rfl rfl (Ad 5 rfl c ab (C6 (o:=0) HR rfl rfl (Ad 6 rfl c ab (BJ Cp rfl (EAt.addk (m.kx bu (by simp)) 0) rfl (Ad 7 rfl c ab (LU (e:=Ar) (l:=g.1) Tryz.underlying26 rfl rfl s (Ad 8 rfl c ab (Wu rfl rfl rfl (Ba (g0 (A2 rfl d (fun _ d=>?_) (fun _ d=>?_))))))))))))))))
      ·refine Al 1 rfl ?_
       refine Aw (rt u rfl rfl (by cases d; exact ⟨rfl,bu⟩))
      ·refine Au (gz ?_)
       refine Am fun _ g5=>AR B2 [] bu g2 fun dz _ az _=>?_
       have w:=KeepX.refl dz []
       refine Ax 0 rfl c w (Ad 1 rfl c w (B6 rfl rfl (Ad 2 rfl c w (C6 (o:=0) HR rfl rfl (Ad 3 rfl c w (BJ Cp rfl (EAt.addk (m.kx az (by simp)) 0) rfl (Ax 4 rfl c w (bB d fun jn g6 d=>(Ad 5 rfl c w (BA (e:=Ao) Tryz.underlying36 rfl rfl rfl t g6 ?_))))))))))
       rintro jo _ rfl g7
       refine Ad 6 rfl c w (BJ A4 rfl (g7.kx az (by simp)) rfl (bB d fun g8 g9 d=>(Ad 7 rfl c w (BA (e:=Ar) Tryz.underlying26 rfl rfl rfl s g9 ?_))))
       rintro jp _ rfl ha
       refine Ad 8 rfl c w (BJ Bt rfl (ha.kx az (by simp)) rfl (Av 9 rfl (bB d fun jq hc d=>(A7 rfl Tryz.call126 (TP dz (x.st az) g8 _ hc) rfl ?_))))
       rintro _ jr ⟨rfl,d0⟩
       refine ⟨_,rfl,?_⟩
       have hd:=tm az d0
       have an:=w.ext d0
       refine Ah (Ap an (Ax 10 rfl c an (Ad 11 rfl c an (AW rfl rfl rfl (Ad 12 rfl c an (AW rfl rfl rfl (Ad 13 rfl c an (AD rfl rfl (Ad 14 rfl c an (AD rfl rfl (Ba (g5 (Al 2 rfl (Aw (rt u rfl rfl (by cases d; exact ⟨rfl,hd⟩))))))))))))))))
     ·refine Ak fun _ he=>?_
      refine AQ rfl rfl rfl (Aq 1 rfl (he (A2 rfl d (fun _ d=>?_) (fun _ d=>?_))))
      ·refine Am fun _ hf=>?_
       refine Am fun _ hg=>AR B2 [] f hS fun hh _ a0 hi=>?_
       have q:=KeepX.refl hh []
       refine Ax 0 rfl c q (bB d fun js hj d=>(Ad 1 rfl c q (BA (e:=Ao) Tryz.underlying36 rfl rfl rfl t hj ?_)))
       rintro jt _ rfl hk
       refine Ad 2 rfl c q (BJ A4 rfl (hk.kx a0 (by simp)) rfl (Ax 3 rfl c q (bB d fun ju hl d=>(Ad 4 rfl c q (BA (e:=Ao) Tryz.underlying36 rfl rfl rfl t hl ?_)))))
       rintro jv _ rfl hm
       refine Ad 5 rfl c q (BJ A4 rfl (hm.kx a0 (by simp)) rfl (Ad 6 rfl c q (Acr rfl rfl rfl (Ax 7 rfl c q (Ad 8 rfl c q (B6 rfl rfl (Ad 9 rfl c q (C6 (o:=0) HR rfl rfl (Ad 10 rfl c q (BJ Cp rfl (EAt.addk (m.kx a0 (by simp)) 0) rfl (Ad 11 rfl c q (LU (e:=Ar) (l:=g.1) Tryz.underlying26 rfl rfl s (Ad 12 rfl c q (Wu rfl rfl rfl (Ba (hg (A2 rfl d (fun _ d=>?_) (fun _ d=>?_))))))))))))))))))
       ·refine Al 1 rfl ?_
        refine Aw (rt u rfl rfl (by cases d; exact ⟨rfl,a0⟩))
       ·refine Au (hf ?_)
        refine Am fun _ hn=>AR B2 [] a0 hi fun d1 _ ag _=>?_
        have j:=KeepX.refl d1 []
        refine Ax 0 rfl c j (Ad 1 rfl c j (B6 rfl rfl (Ad 2 rfl c j (C6 (o:=0) HR rfl rfl (Ad 3 rfl c j (BJ Cp rfl (EAt.addk (m.kx ag (by simp)) 0) rfl (Ax 4 rfl c j (bB d fun jw ho d=>(Ad 5 rfl c j (BA (e:=Ao) Tryz.underlying36 rfl rfl rfl t ho ?_))))))))))
        rintro jy _ rfl hp
        refine Ad 6 rfl c j (BJ A4 rfl (hp.kx ag (by simp)) rfl (bB d fun hq hr d=>(Ad 7 rfl c j (BA (e:=Ar) Tryz.underlying26 rfl rfl rfl s hr ?_))))
        rintro jz _ rfl hs
        refine Ad 8 rfl c j (BJ Bt rfl (hs.kx ag (by simp)) rfl (Ax 9 rfl c j (Ad 10 rfl c j (B6 rfl rfl (Ad 11 rfl c j (C6 (o:=0) HR rfl rfl (Ad 12 rfl c j (BJ Cp rfl (EAt.addk (m.kx ag (by simp)) 0) rfl (Ax 13 rfl c j (bB d fun j0 ht d=>(Ad 14 rfl c j (BA (e:=Ao) Tryz.underlying36 rfl rfl rfl t ht ?_))))))))))))
        rintro j1 _ rfl hu
        refine Ad 15 rfl c j (BJ A4 rfl (hu.kx ag (by simp)) rfl (bB d fun hv hw d=>(Ad 16 rfl c j (BA (e:=Ar) Tryz.underlying26 rfl rfl rfl s hw ?_))))
        rintro j2 _ rfl hx
        refine Ad 17 rfl c j (BJ Bt rfl (hx.kx ag (by simp)) rfl (Av 18 rfl (bB d fun d2 hy d=>(A7 rfl Tryz.call127 (SR d1 hq hv _ hy) rfl ?_))))
        rintro _ hz ⟨rfl,d3⟩
        refine ⟨_,rfl,?_⟩
        have d4:=tm ag d3
        have bv:=j.ext d3
        refine Ah (Ap bv (Ad 19 rfl c bv (AW rfl rfl rfl (Ad 20 rfl c bv (AW rfl rfl rfl (Av 21 rfl (bB d fun j3 h0 d=>(A7 rfl Tryz.call120 (J6 hz (x.st d4) d2.1 d2.2 _ h0) rfl ?_))))))))
        rintro _ j4 ⟨rfl,d5⟩
        refine ⟨_,rfl,?_⟩
        have h1:=tm d4 d5
        have d6:=bv.ext d5
        refine Ah (Ap d6 (Ad 22 rfl c d6 (AD rfl rfl (Ba (hn (Aw (rt u rfl rfl (by cases d; exact ⟨rfl,h1⟩))))))))
      ·refine Ak fun _ h2=>?_
       refine AQ rfl rfl rfl (Aq 1 rfl (h2 (A2 rfl d (fun _ d=>?_) (fun _ d=>?_))))
       ·refine Am fun _ h3=>?_
        refine AR B2 [] f hS fun d7 _ bw _=>?_
        have ad:=KeepX.refl d7 []
        refine Ax 0 rfl c ad (Ad 1 rfl c ad (B6 rfl rfl (Ad 2 rfl c ad (C6 (o:=3) Ur rfl rfl (Ad 3 rfl c ad (BJ R4 rfl (EAt.addk (m.kx bw (by simp)) 3) rfl (Ax 4 rfl c ad (bB d fun h4 h5 d=>(Ad 5 rfl c ad (BA (e:=Ao) Tryz.underlying36 rfl rfl rfl t h5 ?_))))))))))
        rintro j5 _ rfl h6
        refine Ad 6 rfl c ad (BJ A4 rfl (h6.kx bw (by simp)) rfl (Av 7 rfl (bB d fun d8 h7 d=>(A7 rfl Tryz.call128 (VG d7 g.2.2.2.1 ap (bz.ro bw) h4 _ h7) rfl ?_))))
        rintro _ h8 ⟨rfl,d9⟩
        refine ⟨_,rfl,?_⟩
        have ea:=tm bw d9
        have bx:=ad.ext d9
        refine Ah (Ap bx (Ad 8 rfl c bx (AW rfl rfl rfl (Ad 9 rfl c bx (AW rfl rfl rfl (Av 10 rfl (bB d fun j6 h9 d=>(A7 rfl Tryz.call120 (J6 h8 (x.st ea) d8.1 d8.2 _ h9) rfl ?_))))))))
        rintro _ j7 ⟨rfl,eb⟩
        refine ⟨_,rfl,?_⟩
        have ia:=tm ea eb
        have ec:=bx.ext eb
        refine Ah (Ap ec (Ad 11 rfl c ec (AD rfl rfl (Ba (h3 (Aw (rt u rfl rfl (by cases d; exact ⟨rfl,ia⟩))))))))
       ·refine Ak fun _ ib=>?_
        refine AQ rfl rfl rfl (Aq 1 rfl (ib (A2 rfl d (fun _ d=>?_) (fun _ d=>?_))))
        ·refine Am fun _ ic=>?_
         refine AR B2 [] f hS fun ed _ a1 _=>?_
         have v:=KeepX.refl ed []
         refine Ax 0 rfl c v (Ad 1 rfl c v (B6 rfl rfl (Ad 2 rfl c v (C6 (o:=4) Uq rfl rfl (Ad 3 rfl c v (BJ R2 rfl (EAt.addk (m.kx a1 (by simp)) 4) rfl (Ax 4 rfl c v (bB d fun ie ig d=>(Ad 5 rfl c v (BA (e:=Ao) Tryz.underlying36 rfl rfl rfl t ig ?_))))))))))
         rintro j8 _ rfl ih
         refine Ad 6 rfl c v (BJ A4 rfl (ih.kx a1 (by simp)) rfl (Ax 7 rfl c v (bB d fun ii ij d=>(Ad 8 rfl c v (BA (e:=Ao) Tryz.underlying36 rfl rfl rfl t ij ?_)))))
         rintro j9 _ rfl ik
         refine Ad 9 rfl c v (BJ A4 rfl (ik.kx a1 (by simp)) rfl (Av 10 rfl (bB d fun il im d=>(A7 rfl Tryz.call129 (SS ed g.2.2.2.2.1 aq (b0.ro a1) ie ii _ im) rfl ?_))))
         rintro _ io ⟨rfl,ee⟩
         refine ⟨_,rfl,?_⟩
         have cn:=tm a1 ee
         have ao:=v.ext ee
         refine Ah (Ap ao (Ax 11 rfl c ao (Ad 12 rfl c ao (AW rfl rfl rfl (Ad 13 rfl c ao (AW rfl rfl rfl (Ad 14 rfl c ao (AD rfl rfl (Ad 15 rfl c ao (AD rfl rfl (Ba (ic (Am fun _ ip=>(Al 2 rfl (A2 rfl d (fun _ d=>?_) (fun _ d=>?_))))))))))))))))
         ·refine Al 1 rfl ?_
          refine Aw (rt u rfl rfl (by cases d; exact ⟨rfl,cn⟩))
         ·refine Au (ip ?_)
          refine Ak fun _ iq=>wp 1 rfl (bB d fun ka ir d=>(A7 rfl Tryz.call130 (E4 io (x.st cn) il.1 _ ir) rfl ?_))
          rintro _ kb ⟨rfl,it⟩
          refine ⟨_,rfl,?_⟩
          have iu:=tm cn it
          refine Aq 1 rfl (iq (Aw (rt u rfl rfl (by cases d; exact ⟨rfl,iu⟩))))
        ·refine Au (ef ?_)
         refine Ak fun _ iw=>wp 2 rfl (bB d fun ix iy d=>(BM (e:=Ao) Tryz.underlying36 rfl rfl rfl t iy ?_))
         rintro kc _ rfl iz
         refine BV A4 rfl (iz.ro f) rfl (bB d fun kd i0 d=>(A7 rfl Tryz.call131 (M0 k (x.st f) g p0 y (s.ro f) ac (ah.ro f) ap (bz.ro f) aq (b0.ro f) a3 (co.ro f) (m.ro f) ix _ i0) rfl ?_))
         rintro _ ke ⟨rfl,i1⟩
         refine ⟨_,rfl,?_⟩
         have i2:=tm f i1
         refine Aq 1 rfl (iw (Aw (rt u rfl rfl (by cases d; exact ⟨rfl,i2⟩))))
theorem Oy (f:Ae) (g:(Ae4 × Ae4 × Int × Ae4 × Ae5 × Ae7)) (d:Nat) (n:An) (x1:(List Aj)) (bf:Sep 0 f [A3 AV 76 n d g]) (hT:TabX f (Bf [A3 AV 76 n d g])) (r:((List Aj) × (Ae4 × Ae4 × Int × Ae4 × Ae5 × Ae7))) (c:Dw g x1 = some r) :
  A1 66 [(.pointer (some ⟨d,0,none⟩)),(.string (B5 x1))] f fun e w'=>∃ (H_0:An),e = .returned (.string (B5 r.1)) ∧ Below 0 (wE f) w' ∧ Sep 0 w' [A5 f (Bf [A3 AV 76 n d g]),A3 AV 76 H_0 d r.2]:=by
 refine Gb Tryz.func66 rfl Tryz.ntmps66 rfl rfl fun Q hQ hP=>?_
 have hB:Bl (wE f) f:=Ek f
 have hS:Sp (wE f) f [A5 f (Bf [A3 AV 76 n d g]),A3 AV 76 n d g]:=bf.rest
 unfold Dw at c
 refine Al 1 rfl (Ak fun _ bj=>(wp 1 rfl (bB c fun u3 bk c=>(En rfl Tryz.call81 hB hS (OL f x1 [32] _ bk) rfl fun v4 F5 w6 _ _ bl ar=>(Aq 1 rfl (bj (Ak fun _ bm=>(wp 1 rfl (bB c fun o bn c=>(HB (e:=Cx) (i:=0) Tryz.underlying61 rfl rfl rfl ar rfl bn ?_))))))))))
 rintro dy _ rfl au dz
 refine BV Nj rfl au rfl (Bb (vs:=[]) (l:=[]) Ca Tryz.underlying36 rfl rfl rfl rfl rfl rfl bl ar fun bo bp d0 bq br av=>?_)
 have au:=au.keepS (fun b hb=>bq.block b (((ar.get (i:=0) rfl).2.1 b hb).2)) (fun _ h=>h)
 refine Aq 2 rfl (bm (Am fun _ bs=>(Ak fun _ bt=>(wp 1 rfl (bB c fun w bu c=>(Lj (e:=Cx) Tryz.underlying61 rfl rfl (av.ok (i:=1) rfl:ownS Cx _ _ _ _).rd bu (.inr ⟨_,_,rfl,rfl⟩) (.inl ⟨rfl,rfl⟩) fun an a4 _=>(BQ (a4.mono (fun b hb=>((av.get (i:=1) rfl).2.1 b hb).2)) Tryz.underlying61 rfl (Aq 1 rfl (bt (Az (AN (fun m a x=>∃ (q:(List Int)) (af:Int) (p:Ac) (s:An),St 69 [(0,(.pointer (some ⟨d,0,none⟩))),(6,(.string (B5 o))),(7,p),(19,an),(20,(iv (List.length w:Int))),(21,(iv af))] a ∧ Bl (wE f) x ∧ Sp (wE f) x [A5 f (Bf [A3 AV 76 n d g]),A3 AV 76 n d g,Ab Ao s p q,Ab Cx F5 v4 u3] ∧ (rdS Cx (· ∈ F5) x an w) ∧ BU w g o m q af = some r) FU ?_ ?_)))))))))))
 ·exact fun a ha=>⟨[],0,bo,bp,ha.sb rfl,br,(av.sel [2,3,0,1] rfl),a4,c⟩
 ·rintro ag a x ⟨q,af,p,s,ha,a5,y,v,c⟩ d1 bv
  refine BB ?_ ha
  cases ag with
  | zero=>exact Be c
  | succ ag =>
   obtain ⟨d2,a6⟩:∃ k,k = BU w g o ag:=⟨_,rfl⟩
   rw [BU,← a6] at c
   refine Al 1 rfl (Am fun _ bw=>(A2 rfl c (fun _ c=>?_) (fun _ c=>?_)))
   ·refine Au (bw ?_)
    refine Am fun _ bx=>Az (Ak fun _ bz=>(bB c fun b1 b2 c=>(BM (e:=Cx) Tryz.underlying61 rfl rfl rfl (v.mono (fun b hb=>((y.get (i:=3) rfl).2.1 b hb).2)) b2 ?_)))
    rintro d3 _ rfl b3
    refine BV Nj rfl b3 rfl (Aq 1 rfl (bz (Ak fun _ b4=>(wp 1 rfl (bB c fun ah b5 c=>(Bs rfl Tryz.call82 a5 y (US x b1 _ b5) rfl fun d4 b6 a7 a8=>?_))))))
    have v:=v.keep (fun b hb=>b6.block b (((y.get (i:=3) rfl).2.1 b hb).2))
    refine Aq 5 rfl (b4 (Am fun _ b7=>(Am fun b8 b9=>?_)))
    obtain ⟨ca,cb,c⟩:=Ch c
    have a9:∀ (aw:Bool) (ai:Ae) (z:rdS Cx (· ∈ F5) ai an w) (_:ca aw = some r) (_:Bl (wE f) ai) (_:Sp (wE f) ai [A5 f (Bf [A3 AV 76 n d g]),A3 AV 76 n d g,Ab Ao s p q,Ab Cx F5 v4 u3]),∀ a,St 69 [(0,(.pointer (some ⟨d,0,none⟩))),(6,(.string (B5 o))),(7,p),(10,(iv ah.1)),(19,an),(20,(iv (List.length w:Int))),(21,(iv af)),(35,(.bool aw))] a → b8 a ai:=by
     intro aw ai z c ba ax
     subst cb
     refine b9 (A2 rfl c (fun _ c=>?_) (fun _ c=>?_))
     ·refine Al 1 rfl ?_
      refine Aw (rt hQ rfl rfl (by cases c; exact ⟨n,rfl,ba,ax.sel [0,1] rfl⟩))
     ·refine Au (b7 ?_)
      refine As (wp 2 rfl (Bb (vs:=[(iv ah.1)]) (l:=[ah.1]) Ca Tryz.underlying36 rfl rfl rfl rfl rfl rfl ba ax fun d5 d6 cc cd ce ao=>?_))
      have z:=z.keep (fun b hb=>cd.block b (((ax.get (i:=3) rfl).2.1 b hb).2))
      refine bB c fun cf cg c=>AE (i:=3) (S:=(· < cc.heap.size)) Ca Tryz.underlying36 rfl rfl rfl ce ao rfl (ao.own_ro (i:=0) rfl) cg fun ch ci d7 cj ck cl=>?_
      have z:=z.keep (fun b hb=>cj.2.1 b (((ao.get (i:=4) rfl).2.1 b hb).2) (ao.disj (i:=4) (j:=3) rfl rfl rfl b hb))
      refine Aq 1 rfl (bx (As (Aq 2 rfl ?_)))
      rw [a6] at c
      exact fun a ha=>bv a _ ag (AB ag) ⟨cf,(Ag (af + 1)),ch,ci,ha.sb rfl,ck,(cl.sel [1,2,3,4] rfl),z,c⟩
    refine As (wp 3 rfl ?_)
    rcases bE (!ah.2) with t | t
    ·replace c:=B9 t c
     refine wo rfl t (wo rfl t (AA rfl rfl t rfl (Ah ?_)))
     exact jx (a9 true _ v c a7 (a8.sel [0,1,2,3] rfl)) rfl
    ·replace c:=Cf t c
     refine wn rfl t (wp 1 rfl (wn rfl t (wp 1 rfl (A6 rfl rfl t rfl (Ah ?_)))))
     exact jx (a9 ((decide (99999 < ah.1))) _ v c a7 (a8.sel [0,1,2,3] rfl)) rfl
   ·refine Bc (bs ?_)
    refine Am fun _ cm=>Ak fun _ cn=>wp 1 rfl (BQ (y.own_ro (i:=2) rfl) Tryz.underlying36 rfl (wp 1 rfl (bB c fun d8 co c=>(Bs rfl Tryz.call83 a5 y (Rn x o _ co) rfl fun d9 cp aa ab=>?_))))
    have v:=v.keep (fun b hb=>cp.block b (((y.get (i:=3) rfl).2.1 b hb).2))
    refine Aq 1 rfl (cn (A2 rfl c (fun _ c=>?_) (fun _ c=>?_)))
    ·refine Al 1 rfl ?_
     refine Aw (rt hQ rfl rfl (by cases c; exact ⟨n,rfl,aa,ab.sel [0,1] rfl⟩))
    ·refine Au (cm ?_)
     refine Am fun _ cq=>Al 1 rfl (Az (Am fun cr cs=>?_))
     obtain ⟨ct,cu,c⟩:=Ch c
     have aj:∀ (ay:Bool) (ak:Ae) (_:ct ay = some r) (_:Bl (wE f) ak) (_:Sp (wE f) ak [A5 f (Bf [A3 AV 76 n d g]),A3 AV 76 n d g,Ab Ao s p q]),∀ a,St 69 [(0,(.pointer (some ⟨d,0,none⟩))),(6,(.string (B5 o))),(7,p),(46,(.string (B5 o))),(47,(.bool ay))] a → cr a ak:=by
      intro ay ak c al ac
      subst cu
      refine cs (A2 rfl c (fun _ c=>?_) (fun _ c=>?_))
      ·refine Ak fun _ cv=>?_
       refine wp 3 rfl (bB c fun cw cx c=>(A7 rfl Tryz.call84 (Nu ak g d n o q p s (ac.sel [1,2] rfl).base0 _ cx) rfl ?_))
       rintro _ cy ⟨bb,rfl,cz,bc⟩
       refine ⟨_,rfl,?_⟩
       have c0:=ac.takeB [1,2] rfl (M:=[A3 AV 76 n d g,Ab Ao s p q]) rfl al cz bc
       have c1:Sp (wE f) cy [A3 AV 76 bb d cw.2,A5 f (Bf [A3 AV 76 n d g])]:=ac.take [1,2] [0] rfl (M:=[A3 AV 76 n d g,Ab Ao s p q]) rfl bc al.size
       refine Aq 1 rfl (cv (Aw (rt hQ rfl rfl (by cases c; exact ⟨bb,rfl,c0,c1.sel [1,0] rfl⟩))))
      ·refine Am fun c2 c3=>?_
       obtain ⟨c4,c5,c⟩:=Ch c
       have az:∀ (a0:Bool) (ad:Ae) (_:c4 a0 = some r) (_:Bl (wE f) ad) (_:Sp (wE f) ad [A5 f (Bf [A3 AV 76 n d g]),A3 AV 76 n d g,Ab Ao s p q]),∀ a,St 69 [(0,(.pointer (some ⟨d,0,none⟩))),(6,(.string (B5 o))),(7,p),(57,(.bool a0))] a → c2 a ad:=by
        intro a0 ad c a1 ap
        subst c5
        refine c3 (A2 rfl c (fun _ c=>?_) (fun _ c=>?_))
        ·refine Ak fun _ c6=>?_
         refine wp 3 rfl (bB c fun c7 c8 c=>(A7 rfl Tryz.call85 (O0 ad g d n o q p s (ap.sel [1,2] rfl).base0 _ c8) rfl ?_))
         rintro _ c9 ⟨bd,rfl,da,be⟩
         refine ⟨_,rfl,?_⟩
         have db:=ap.takeB [1,2] rfl (M:=[A3 AV 76 n d g,Ab Ao s p q]) rfl a1 da be
         have dc:Sp (wE f) c9 [A3 AV 76 bd d c7.2,A5 f (Bf [A3 AV 76 n d g])]:=ap.take [1,2] [0] rfl (M:=[A3 AV 76 n d g,Ab Ao s p q]) rfl be a1.size
         refine Aq 1 rfl (c6 (Aw (rt hQ rfl rfl (by cases c; exact ⟨bd,rfl,db,dc.sel [1,0] rfl⟩))))
        ·refine Au (cq ?_)
         refine Ak fun _ dd=>wp 3 rfl ?_
         obtain ⟨de,ea,df,eb,dg,ec,dh,ed,di,ee,u⟩:=Iw (ap.sel [1,0,2] rfl)
         refine bB c fun ef dj c=>Bs rfl Tryz.call86 a1 u (Oz ad (hT _ (u.ok (i:=6) rfl)) g ⟨d,0,none⟩ de (u.own_ro (i:=1) rfl) df (u.own_ro (i:=2) rfl) dg (u.own_ro (i:=3) rfl) dh (u.own_ro (i:=4) rfl) di (u.own_ro (i:=5) rfl) (XR (i:=0) u rfl) o q p (u.own_ro (i:=7) rfl) _ dj) rfl fun dk _ dl dm=>Aq 1 rfl (dd (Aw ?_))
         obtain ⟨dn,dp⟩:∃ F,Sp (wE f) dk [A3 AV 76 F d g,A5 f (Bf [A3 AV 76 n d g]),Ab Ao s p q]:=⟨_,Du (dm.sel [0,1,2,3,4,5,6,7] rfl)⟩
         refine rt hQ rfl rfl (by cases c; exact ⟨dn,rfl,dl,dp.sel [1,0] rfl⟩)
       refine Ak fun _ dq=>AQ rfl rfl rfl (Aq 1 rfl (dq (A2 rfl c (fun _ c=>?_) (fun _ c=>?_))))
       ·refine Au ?_
        exact jx (az ((o == [109,101,97,115,117,114,101])) _ c al (ac.sel [0,1,2] rfl)) rfl
       ·refine Ak fun _ dr=>?_
        refine AQ rfl rfl rfl (Aq 1 rfl (dr (A2 rfl c (fun _ c=>?_) (fun _ c=>?_))))
        ·refine Au ?_
         exact jx (az ((o == [99,97,114,114,121])) _ c al (ac.sel [0,1,2] rfl)) rfl
        ·refine As ?_
         refine AQ rfl rfl rfl (Aq 1 rfl ?_)
         exact jx (az ((o == [118,101,114,115,105,111,110])) _ c al (ac.sel [0,1,2] rfl)) rfl
     refine Ak fun _ ds=>AQ rfl rfl rfl (Aq 1 rfl (ds (A2 rfl c (fun _ c=>?_) (fun _ c=>?_))))
     ·refine Au ?_
      exact jx (aj ((o == [115,112,111,116])) _ c aa (ab.sel [0,1,2] rfl)) rfl
     ·refine Ak fun _ dt=>?_
      refine AQ rfl rfl rfl (Aq 1 rfl (dt (A2 rfl c (fun _ c=>?_) (fun _ c=>?_))))
      ·refine Au ?_
       exact jx (aj ((o == [112,108,97,99,101])) _ c aa (ab.sel [0,1,2] rfl)) rfl
      ·refine Ak fun _ du=>?_
       refine AQ rfl rfl rfl (Aq 1 rfl (du (A2 rfl c (fun _ c=>?_) (fun _ c=>?_))))
       ·refine Au ?_
        exact jx (aj ((o == [109,105,114,114,111,114])) _ c aa (ab.sel [0,1,2] rfl)) rfl
       ·refine Ak fun _ dv=>?_
        refine AQ rfl rfl rfl (Aq 1 rfl (dv (A2 rfl c (fun _ c=>?_) (fun _ c=>?_))))
        ·refine Au ?_
         exact jx (aj ((o == [107,101,101,112])) _ c aa (ab.sel [0,1,2] rfl)) rfl
        ·refine As ?_
         refine AQ rfl rfl rfl (Aq 1 rfl ?_)
         exact jx (aj ((o == [99,111,117,110,116,115])) _ c aa (ab.sel [0,1,2] rfl)) rfl
theorem SO (c:Ae) (hT:Tab c) (w:(List Aj)) (r:((Bool × (Ae4 × Ae4 × Int × Ae4 × Ae5 × Ae7)) × (List (List Aj)) × Bool)) (b:IJ w = some r) :
  A1 47 [(.string (B5 w))] c fun e w'=>∃ (y:Ac) (z:Nat) (H0:An) (q0:Ac) (G0:An),e = .returned (.tuple #[y,q0,(.bool r.2.2)]) ∧ y = pvl r.1.1 z ∧ Bl c w' ∧ Sp c w' (Aej r.1.1 [A3 AV 76 H0 z r.1.2] ++ [Ab Cx G0 q0 r.2.1]):=by
 refine cm Tryz.func47 Tryz.ntmps47 rfl fun Q hQ hP hB hS=>?_
 unfold IJ at b
 refine Al 3 rfl (Ak fun _ ap=>(wp 1 rfl (bB b fun j aq b=>(En rfl Tryz.call58 hB hS (Ro c w _ aq) rfl fun x F5 w6 _ _ ad ae=>(Aq 5 rfl (ap (Am fun _ au=>(Al 2 rfl (A2 rfl b (fun _ b=>?_) (fun _ b=>?_))))))))))
 ·refine Al 3 rfl ?_
  refine Aw ?_
  have av:=ae.push0 (r:=Ab Cx [] (.slice none 0 0) []) rfl fun _=>.inl ⟨rfl,rfl,rfl⟩
  refine rt hQ rfl rfl (by cases b; exact ⟨(.pointer none),0,[],(.slice none 0 0),[],rfl,rfl,ad,av.sel [0] rfl⟩)
 ·refine Au (au ?_)
  refine Ak fun _ aw=>bB b fun ax ay b=>En rfl Tryz.call65 ad ae (TN w6  _ ay) rfl fun d az bs _ _ a0 a1=>Bb (vs:=[]) (l:=[]) IB Tryz.underlying61 rfl rfl rfl rfl rfl rfl a0 a1 fun a2 a3 bt _ a4 af=>Aq 2 rfl (aw (Am fun _ a5=>(Ak fun _ a6=>(wp 1 rfl (BQ (af.own_ro (i:=2) rfl) Tryz.underlying61 rfl (Aq 1 rfl (a6 (Az (AN (fun m a p=>∃ (f:(Ae4 × Ae4 × Int × Ae4 × Ae5 × Ae7)) (q:(List (List Aj))) (s:Int) (g:An) (n:Ac) (t:An),St 35 [(7,(.pointer (some ⟨d,0,none⟩))),(8,n),(20,x),(21,(iv (List.length j.1:Int))),(22,(iv s))] a ∧ Bl c p ∧ Sp c p [A3 AV 76 g d f,Ab Cx t n q,Ab Cx F5 x j.1] ∧ Ew j m f q s = some r) FU ?_ ?_)))))))))
  ·exact fun a ha=>⟨ax,[],0,az,a2,a3,ha.sb rfl,a4,(af.sel [1,0,2] rfl),b⟩
  ·rintro o a p ⟨f,q,s,g,n,t,ha,u,h,b⟩ bu a7
   refine BB ?_ ha
   cases o with
   | zero=>exact Be b
   | succ o =>
    obtain ⟨bv,ag⟩:∃ k,k = Ew j o:=⟨_,rfl⟩
    rw [Ew,← ag] at b
    refine Al 1 rfl (Am fun _ a8=>(A2 rfl b (fun _ b=>?_) (fun _ b=>?_)))
    ·refine Au (a8 ?_)
     refine Am fun _ a9=>Az (Ak fun _ ba=>(bB b fun bb bc b=>(Cj (e:=Cx) (i:=2) Tryz.underlying61 rfl rfl rfl h rfl bc ?_)))
     rintro bw _ rfl bd bx
     refine BV Nj rfl bd rfl (Aq 1 rfl (ba (As (wp 3 rfl (bB b fun v be b=>(A7 rfl Tryz.call66 (Oy p f d g bb (h.sel [0] rfl).base0 (TabX.of hT u (h.sel [0] rfl)) _ be) rfl ?_))))))
     rintro _ bf ⟨ah,rfl,bg,ai⟩
     refine ⟨_,rfl,?_⟩
     have bh:=h.takeB [0] rfl (M:=[A3 AV 76 g d f]) rfl u bg ai
     have bi:Sp c bf [A3 AV 76 ah d v.2,Ab Cx t n q,Ab Cx F5 x j.1]:=h.take [0] [1,2] rfl (M:=[A3 AV 76 g d f]) rfl ai u.size
     refine Bb (vs:=[(.string (B5 v.1))]) (l:=[v.1]) IB Tryz.underlying61 rfl rfl rfl rfl rfl rfl bh bi fun bz b0 bj _ bk aj=>bB b fun bl bm b=>AE (i:=2) (S:=(· < bj.heap.size)) IB Tryz.underlying61 rfl rfl rfl bk aj rfl (aj.own_ro (i:=0) rfl) bm fun bn bo b1 _ bp bq=>Aq 1 rfl (a9 (As (Aq 2 rfl ?_)))
     rw [ag] at b
     exact fun a ha=>a7 a _ o (AB o) ⟨v.2,bl,(Ag (s + 1)),ah,bn,bo,ha.sb rfl,bp,(bq.sel [1,2,3] rfl),b⟩
    ·refine Bc (a5 ?_)
     refine Al 5 rfl (Aw (rt hQ rfl rfl (by cases b; exact ⟨(.pointer (some ⟨d,0,none⟩)),d,g,n,t,rfl,rfl,u,h.sel [0,1] rfl⟩)))
theorem Ri (d:Ae) (h:(List Int)) (j:Ac) (n:An) (o:Int) (al:Sep 0 d [Ab Ao n j h]) (r:(List Int)) (c:Jz h o = some r) :
  A1 53 [j,(iv o)] d fun e w'=>∃ (q0:Ac) (G0:An),e = .returned q0 ∧ Below 0 (wE d) w' ∧ Sep 0 w' [A5 d (Bf [Ab Ao n j h]),Ab Ao G0 q0 r]:=by
 refine Gb Tryz.func53 rfl Tryz.ntmps53 rfl rfl fun Q hQ hP=>?_
 have hB:Bl (wE d) d:=Ek d
 have hS:Sp (wE d) d [A5 d (Bf [Ab Ao n j h]),Ab Ao n j h]:=al.rest
 unfold Jz at c
 refine Al 1 rfl (Al 1 rfl (Am fun _ ap=>(Az (AN (fun m a w=>∃ (p:Int),St 48 [(0,j),(1,(iv o)),(5,(iv p))] a ∧ Bl (wE d) w ∧ Sp (wE d) w [A5 d (Bf [Ab Ao n j h]),Ab Ao n j h] ∧ DL h o m p = some r) FU ?_ ?_))))
 ·exact fun a ha=>⟨0,ha.sb rfl,hB,(hS.sel [0,1] rfl),c⟩
 ·rintro q a w ⟨p,ha,ae,t,c⟩ bz aq
  refine BB ?_ ha
  cases q with
  | zero=>exact Be c
  | succ q =>
   obtain ⟨b0,af⟩:∃ k,k = DL h o q:=⟨_,rfl⟩
   rw [DL,← af] at c
   refine Am fun _ ar=>Am fun au av=>?_
   obtain ⟨aw,ax,c⟩:=Ch c
   have ag:∀ (x:Bool) (u:Ae) (_:aw x = some r) (_:Bl (wE d) u) (_:Sp (wE d) u [A5 d (Bf [Ab Ao n j h]),Ab Ao n j h]),∀ a,St 48 [(0,j),(1,(iv o)),(5,(iv p)),(18,(.bool x))] a → au a u:=by
    intro x u c y s
    subst ax
    refine av (A2 rfl c (fun _ c=>?_) (fun _ c=>?_))
    ·refine Au (ar ?_)
     refine Az (As (Aq 3 rfl ?_))
     rw [af] at c
     exact fun a ha=>aq a _ q (AB q) ⟨(Ag (p + 1)),ha.sb rfl,y,(s.sel [0,1] rfl),c⟩
    ·refine Bc (ap ?_)
     refine Am fun _ ay=>Am fun az a0=>?_
     obtain ⟨a1,a2,c⟩:=Ch c
     have ah:∀ (z:Bool) (v:Ae) (_:a1 z = some r) (_:Bl (wE d) v) (_:Sp (wE d) v [A5 d (Bf [Ab Ao n j h]),Ab Ao n j h]),∀ a,St 48 [(0,j),(1,(iv o)),(5,(iv p)),(32,(.bool z))] a → az a v:=by
      intro z v c ai aj
      subst a2
      refine a0 (A2 rfl c (fun _ c=>?_) (fun _ c=>?_))
      ·refine Al 2 rfl ?_
       refine Aw (rt hQ rfl rfl (by cases c; exact ⟨j,n,rfl,ai,aj.sel [0,1] rfl⟩))
      ·refine Au (ay ?_)
       refine Ak fun _ a3=>Bb (vs:=[]) (l:=[]) Ca Tryz.underlying36 rfl rfl rfl rfl rfl rfl ai aj fun b1 b2 a4 _ a5 aa=>wp 2 rfl (bB c fun b3 a6 c=>(Lj (e:=Ao) Tryz.underlying36 rfl rfl (aa.ok (i:=2) rfl:ownS Ao _ _ _ _).rd a6 (.inl ⟨rfl,rfl⟩) (.inr ⟨_,_,rfl,rfl⟩) fun b4 a7 _=>?_))
       have a8:=a7.mono fun b hb=>((aa.get (i:=2) rfl).2.1 b hb).2
       refine bB c fun b5 a9 c=>AE (i:=0) (S:=(· < a4.heap.size)) Ca Tryz.underlying36 rfl rfl rfl a5 aa rfl a8 a9 fun b6 b7 b8 _ ba bb=>Aq 1 rfl (a3 (Ak fun _ bc=>(wp 2 rfl (Bb (vs:=[(iv o)]) (l:=[o]) Ca Tryz.underlying36 rfl rfl rfl rfl rfl rfl ba bb fun b9 ca bd _ be ak=>(bB c fun cb bf c=>(AE (i:=1) (S:=(· < bd.heap.size)) Ca Tryz.underlying36 rfl rfl rfl be ak rfl (ak.own_ro (i:=0) rfl) bf fun cc cd bg _ bh ab=>(Aq 1 rfl (bc (Ak fun _ bi=>(wp 3 rfl (bB c fun u64 bj c=>(Lj (e:=Ao) Tryz.underlying36 rfl rfl (ab.ok (i:=3) rfl:ownS Ao _ _ _ _).rd bj (.inr ⟨_,_,rfl,rfl⟩) (.inl ⟨rfl,rfl⟩) fun ce bk _=>?_))))))))))))
       have bl:=bk.mono fun b hb=>((ab.get (i:=3) rfl).2.1 b hb).2
       refine bB c fun cf bm c=>AE (i:=1) (S:=(· < bg.heap.size)) Ca Tryz.underlying36 rfl rfl rfl bh ab rfl bl bm fun bn bo cg _ bp bq=>Aq 1 rfl (bi (Aw (rt hQ rfl rfl (by cases c; exact ⟨bn,bo,rfl,bp,bq.sel [2,1] rfl⟩))))
     refine As (wp 2 rfl (BQ (s.own_ro (i:=1) rfl) Tryz.underlying36 rfl (wp 2 rfl ?_)))
     rcases bE (decide (p < (List.length h:Int))) with f | f
     ·replace c:=B9 f c
      refine wn rfl f (wp 1 rfl (wn rfl f (wp 1 rfl (wn rfl f (bB c fun br bs c=>(Cj (e:=Ao) (i:=1) Tryz.underlying36 rfl rfl rfl s rfl bs ?_))))))
      rintro ch _ rfl bt ci
      refine wn rfl f (BV A4 rfl bt rfl (wn rfl f (wp 1 rfl (wn rfl f (wp 1 rfl (AA rfl rfl f rfl (Ah ?_)))))))
      exact jx (ah ((br == o)) _ c y (s.sel [0,1] rfl)) rfl
     ·replace c:=Cf f c
      refine wo rfl f (wo rfl f (wo rfl f (wo rfl f (wo rfl f (wo rfl f (A6 rfl rfl f rfl (Ah ?_)))))))
      exact jx (ah false _ c y (s.sel [0,1] rfl)) rfl
   refine As (wp 2 rfl (BQ (t.own_ro (i:=1) rfl) Tryz.underlying36 rfl (wp 2 rfl ?_)))
   rcases bE (decide (p < (List.length h:Int))) with g | g
   ·replace c:=B9 g c
    refine wn rfl g (wp 1 rfl (wn rfl g (wp 1 rfl (wn rfl g (bB c fun bu bv c=>(Cj (e:=Ao) (i:=1) Tryz.underlying36 rfl rfl rfl t rfl bv ?_))))))
    rintro cj _ rfl bw ck
    refine wn rfl g (BV A4 rfl bw rfl (wn rfl g (wp 1 rfl (wn rfl g (wp 1 rfl (AA rfl rfl g rfl (Ah ?_)))))))
    exact jx (ag ((decide (bu < o))) _ c ae (t.sel [0,1] rfl)) rfl
   ·replace c:=Cf g c
    refine wo rfl g (wo rfl g (wo rfl g (wo rfl g (wo rfl g (wo rfl g (A6 rfl rfl g rfl (Ah ?_)))))))
    exact jx (ag false _ c ae (t.sel [0,1] rfl)) rfl
theorem Rm (g:Ae) (x:(List Aj)) (r:((List Int) × Bool)) (c:HI x = some r) :
  A1 24 [(.string (B5 x))] g fun e w'=>∃ (q0:Ac) (G0:An),e = .returned (.tuple #[q0,(.bool r.2)]) ∧ Bl g w' ∧ Sp g w' [Ab Ao G0 q0 r.1]:=by
 refine cm Tryz.func24 Tryz.ntmps24 rfl fun Q hQ d hB hS=>?_
 unfold HI at c
 refine Al 2 rfl (Ak fun _ ax=>(wp 1 rfl (bB c fun u3 ay c=>(En rfl Tryz.call46 hB hS (Xh g x _ ay) rfl fun b4 F5 w6 _ _ ae af=>(Aq 7 rfl (ax (Am fun _ a0=>(Al 2 rfl (A2 rfl c (fun _ c=>?_) (fun _ c=>?_))))))))))
 ·refine Al 2 rfl ?_
  refine Aw ?_
  have a1:=af.push0 (r:=Ab Ao [] (.slice none 0 0) []) rfl fun _=>.inl ⟨rfl,rfl,rfl⟩
  refine rt hQ rfl rfl (by cases c; exact ⟨(.slice none 0 0),[],rfl,ae,a1.sel [0] rfl⟩)
 ·refine Au (a0 ?_)
  refine Al 1 rfl (Am fun _ a2=>(Am fun _ a3=>?_))
  obtain ⟨bu,bv,bw,bx,bz,b0,b1,b2,b3,b5,a4,b6,b7,b8,a5⟩:=Hi (af.sel [0] rfl)
  refine AR B2 [] ae a5 fun s _ ag t=>?_
  have f:=KeepX.refl s []
  refine Ax 0 rfl d f (Ad 1 rfl d f (B6 rfl rfl (Ad 2 rfl d f (C5 Ut rfl (Ad 3 rfl d f (CJ 0 EQ rfl t rfl (by simp) (Ax 5 rfl d f (Ad 6 rfl d f (B6 rfl rfl (Ad 7 rfl d f (C5 Us rfl (Ad 8 rfl d f (CJ 0 EQ rfl t rfl (by simp) (Ax 11 rfl d f (Av 4 rfl (bB c fun b9 a6 c=>(A7 rfl Tryz.call52 (Oq s u3.1.2.2.2.2.2.2.1 a4 (t.own_ro (i:=6) rfl) _ a6) rfl ?_)))))))))))))))))
  rintro _ a7 ⟨ca,a8,rfl,y,ah⟩
  refine ⟨_,rfl,?_⟩
  have a9:=tm ag y
  have ba:∀ b ∈ a8,s.heap.size ≤ b:=fun b hb=>Ay (Nat.le_refl s.heap.size) ((ah.get (i:=0) rfl).2.1 b hb).1
  have ai:=t.join y ah ag.size
  have aj:=f.ext y
  refine Ah (Ap aj (Av 9 rfl (bB c fun h bb c=>(AE (i:=0) (S:=(· < a7.heap.size)) Ca Tryz.underlying36 rfl rfl rfl a9 ai rfl (ai.own_ro (i:=8) rfl) bb fun u z bc ak bd al=>?_))))
  have am:=aj.wr' ak.1 ak.2.1 (fun b hlt hb=>absurd hlt (AK.2 (ba b hb)))
  refine Ah (Ap am (Ad 10 rfl d am (LU (e:=Ao) (l:=h) Tryz.underlying36 rfl rfl (al.own_ro (i:=0) rfl) (Ba (a3 (Az ?_))))))
  obtain ⟨cb,be⟩:∃ F,Sp g bc [A3 B1 74 F b4 u3.1,Ab Ao z u h]:=⟨_,D5 (al.sel [1,2,3,4,5,6,7,8,0] rfl)⟩
  refine AN (fun m a v=>∃ (n:(List Int)) (w:Int) (j:Ac) (o:An),St 38 [(7,j),(27,u),(28,(iv (List.length h:Int))),(29,(iv w))] a ∧ Bl g v ∧ Sp g v [Ab Ao o j n,Ab Ao z u h] ∧ DN h m n w = some r) FU ?_ ?_
  ·have bf:=be.push0 (r:=Ab Ao [] (.slice none 0 0) []) rfl fun _=>.inl ⟨rfl,rfl,rfl⟩
   exact fun a ha=>⟨[],0,(.slice none 0 0),[],ha.sb rfl,bd,(bf.sel [0,2] rfl),c⟩
  ·rintro p a v ⟨n,w,j,o,ha,aa,q,c⟩ cc bg
   refine BB ?_ ha
   cases p with
   | zero=>exact Be c
   | succ p =>
    obtain ⟨cd,an⟩:∃ k,k = DN h p:=⟨_,rfl⟩
    rw [DN,← an] at c
    refine Al 1 rfl (Am fun _ bh=>(A2 rfl c (fun _ c=>?_) (fun _ c=>?_)))
    ·refine Au (bh ?_)
     refine Am fun _ bi=>Az (Ak fun _ bj=>(bB c fun bk bl c=>(Cj (e:=Ao) (i:=1) Tryz.underlying36 rfl rfl rfl q rfl bl ?_)))
     rintro ce _ rfl bm cf
     refine BV A4 rfl bm rfl (Aq 1 rfl (bj (As (wp 2 rfl (bB c fun ao bn c=>(A7 rfl Tryz.call53 (Ri v n j o bk (q.sel [0] rfl).base0 _ bn) rfl ?_))))))
     rintro _ bo ⟨ap,aq,rfl,bp,ar⟩
     refine ⟨_,rfl,?_⟩
     have bq:=q.takeB [0] rfl (M:=[Ab Ao o j n]) rfl aa bp ar
     have br:Sp g bo [Ab Ao aq ap ao,Ab Ao z u h]:=q.take [0] [1] rfl (M:=[Ab Ao o j n]) rfl ar aa.size
     refine Aq 1 rfl (bi (As (Aq 2 rfl ?_)))
     rw [an] at c
     exact fun a ha=>bg a _ p (AB p) ⟨ao,(Ag (w + 1)),ap,aq,ha.sb rfl,bq,(br.sel [0,1] rfl),c⟩
    ·refine Bc (a2 ?_)
     refine Al 3 rfl (Aw (rt hQ rfl rfl (by cases c; exact ⟨j,o,rfl,aa,q.sel [0] rfl⟩)))
theorem Nh (c:Ae) (hT:Tab c) (x0:(List Aj)) (r:((List Int) × Bool)) (b:GH x0 = some r) :
  A1 25 [(.string (B5 x0))] c fun e w'=>∃ (q0:Ac) (G0:An),e = .returned (.tuple #[q0,(.bool r.2)]) ∧ Bl c w' ∧ Sp c w' [Ab Ao G0 q0 r.1]:=by
 refine cm Tryz.func25 Tryz.ntmps25 rfl fun Q hQ hP p hS=>?_
 unfold GH at b
 refine Al 2 rfl (Am fun K2 a8=>?_)
 obtain ⟨a9,ba,b⟩:=Nd b
 have ao:∀ (d:(List (List Aj))) (y9:Bool) (f:Ac) (q:An) (v:Ae) (_:a9 d y9 = some r) (_:Bl c v) (_:Sp c v [Ab Cx q f d]),∀ a,St 39 [(5,f),(6,(.bool y9))] a → K2 a v:=by
  intro d y9 f q v b ap aq
  subst ba
  refine a8 (Am fun _ bb=>(Al 2 rfl (A2 rfl b (fun _ b=>?_) (fun _ b=>?_))))
  ·refine Al 2 rfl ?_
   refine Aw ?_
   have bc:=aq.push0 (r:=Ab Ao [] (.slice none 0 0) []) rfl fun _=>.inl ⟨rfl,rfl,rfl⟩
   refine rt hQ rfl rfl (by cases b; exact ⟨(.slice none 0 0),[],rfl,ap,bc.sel [0] rfl⟩)
  ·refine Au (bb ?_)
   refine Ak fun _ bd=>Bb (vs:=[]) (l:=[]) Ca Tryz.underlying36 rfl rfl rfl rfl rfl rfl ap aq fun be bf cg _ bg ar=>Aq 1 rfl (bd (Am fun _ bh=>(Ak fun _ bi=>(wp 1 rfl (BQ (ar.own_ro (i:=1) rfl) Tryz.underlying61 rfl (Aq 1 rfl (bi (Az (AN (fun m a ah=>∃ (s:(List Int)) (g:Int) (n:Ac) (t:An),St 39 [(7,n),(19,f),(20,(iv (List.length d:Int))),(21,(iv g))] a ∧ Bl c ah ∧ Sp c ah [Ab Ao t n s,Ab Cx q f d] ∧ Dt d m s g = some r) FU ?_ ?_)))))))))
   ·exact fun a ha=>⟨[],0,be,bf,ha.sb rfl,bg,(ar.sel [0,1] rfl),b⟩
   ·rintro u a ah ⟨s,g,n,t,ha,ai,w,b⟩ ch bj
    refine BB ?_ ha
    cases u with
    | zero=>exact Be b
    | succ u =>
     obtain ⟨ci,au⟩:∃ k,k = Dt d u:=⟨_,rfl⟩
     rw [Dt,← au] at b
     refine Al 1 rfl (Am fun _ bk=>(A2 rfl b (fun _ b=>?_) (fun _ b=>?_)))
     ·refine Au (bk ?_)
      refine Am fun bl bm=>?_
      obtain ⟨bn,bo,b⟩:=Ch b
      have av:∀ (x:(List Int)) (y:Ac) (aj:An) (z:Ae) (_:bn x = some r) (_:Bl c z) (_:Sp c z [Ab Ao aj y x,Ab Cx q f d]),∀ a,St 39 [(7,y),(19,f),(20,(iv (List.length d:Int))),(21,(iv g))] a → bl a z:=by
       intro x y aj z b bp bq
       subst bo
       refine bm (As (Aq 2 rfl ?_))
       rw [au] at b
       exact fun a ha=>bj a _ u (AB u) ⟨x,(Ag (g + 1)),y,aj,ha.sb rfl,bp,(bq.sel [0,1] rfl),b⟩
      refine Az (Ak fun _ br=>(wp 1 rfl (bB b fun aw bs b=>(Cj (e:=Cx) (i:=1) Tryz.underlying61 rfl rfl rfl w rfl bs ?_))))
      rintro cj _ rfl bt ck
      refine BV Nj rfl bt rfl (Aq 2 rfl (br (Am fun bu bv=>?_)))
      obtain ⟨bw,bx,b⟩:=Ch b
      have ax:∀ (ak:Bool) (aa:Ae) (_:bw ak = some r) (_:Bl c aa) (_:Sp c aa [Ab Ao t n s,Ab Cx q f d]),∀ a,St 39 [(7,n),(8,(iv g)),(19,f),(20,(iv (List.length d:Int))),(21,(iv g)),(31,(.bool ak))] a → bu a aa:=by
       intro ak aa b ay az
       subst bx
       refine bv (A2 rfl b (fun _ b=>?_) (fun _ b=>?_))
       ·refine As ?_
        refine wp 3 rfl (Bb (vs:=[(iv (Ag (g + 1)))]) (l:=[(Ag (g + 1))]) Ca Tryz.underlying36 rfl rfl rfl rfl rfl rfl ay az fun cl cn bz _ b0 a0=>(bB b fun b1 b2 b=>(AE (i:=1) (S:=(· < bz.heap.size)) Ca Tryz.underlying36 rfl rfl rfl b0 a0 rfl (a0.own_ro (i:=0) rfl) b2 fun b3 b4 co _ b5 b6=>(Aq 1 rfl ?_))))
        exact jx (av b1 b3 b4 _ b b5 (b6.sel [1,2] rfl)) rfl
       ·refine Au ?_
        exact jx (av s n t _ b ay (az.sel [0,1] rfl)) rfl
      refine As (wp 1 rfl (AQ rfl rfl rfl (wp 1 rfl ?_)))
      rcases bE (aw == [110,111]) with h | h
      ·replace b:=B9 h b
       refine wo rfl h (wo rfl h (AA rfl rfl h rfl (Ah ?_)))
       exact jx (ax true _ b ai (w.sel [0,1] rfl)) rfl
      ·replace b:=Cf h b
       refine wn rfl h (wp 1 rfl (wn rfl h (AQ rfl rfl rfl (A6 rfl rfl h rfl (Ah ?_)))))
       exact jx (ax ((aw == [119,104,97,116])) _ b ai (w.sel [0,1] rfl)) rfl
     ·refine Bc (bh ?_)
      refine Al 3 rfl (Aw (rt hQ rfl rfl (by cases b; exact ⟨n,t,rfl,ai,w.sel [0] rfl⟩)))
 refine As (wp 1 rfl (bB b fun j b7 b=>(A7 rfl Tryz.call47 (SO c (hT.st p) x0 _ b7) rfl ?_)))
 rintro _ a1 ⟨a2,a3,b8,ab,ac,rfl,a4,ad,ae⟩
 refine ⟨_,rfl,?_⟩
 rcases bE j.1.1 with o | o
 ·replace b:=B9 o b
  obtain rfl:a2 = (.pointer (some ⟨a3,0,none⟩)):=a4.trans (by rw [o]; rfl)
  have b9:Sp c a1 [A3 AV 76 b8 a3 j.1.2,Ab Cx ac ab j.2.1]:=by rw [o] at ae; exact ae
  have ca:=tm p ad
  have cb:=hS.join ad b9 p.size
  refine Aq 7 rfl ?_
  exact jx (ao (j.2.1) (j.2.2) ab ac _ b ca (cb.sel [1] rfl)) rfl
 ·replace b:=Cf o b
  obtain rfl:a2 = (.pointer none):=a4.trans (by rw [o]; rfl)
  have cc:Sp c a1 [Ab Cx ac ab j.2.1]:=by rw [o] at ae; exact ae
  have cd:=tm p ad
  have ce:=hS.join ad cc p.size
  refine Aq 7 rfl ?_
  exact jx (ao (j.2.1) (j.2.2) ab ac _ b cd (ce.sel [0] rfl)) rfl
theorem Q2 (f:Ae) (h:(List Int)) (n:Ac) (o:RO Ao f n h) (i:(List Int)) (p:Ac) (t:RO Ao f p i) (r:Bool) (b:Kw h i = some r) :
  A1 26 [n,p] f fun e w'=>e = .returned (.bool r) ∧ Bl f w':=by
 refine cm Tryz.func26 Tryz.ntmps26 rfl fun Q q c u x=>?_
 unfold Kw at b
 refine Al 1 rfl (Am fun _ y=>(Ak fun _ z=>(wp 1 rfl (BQ o Tryz.underlying36 rfl (wp 1 rfl (BQ t Tryz.underlying36 rfl (Aq 1 rfl (z (A2 rfl b (fun _ b=>?_) (fun _ b=>?_))))))))))
 ·refine Al 1 rfl ?_
  refine Aw (rt q rfl rfl (by cases b; exact ⟨rfl,u⟩))
 ·refine Au (y ?_)
  refine Am fun _ aa=>Al 1 rfl (Az (AN (fun m a s=>∃ (j:Int),St 26 [(0,n),(1,p),(5,(iv j))] a ∧ Bl f s ∧ Sp f s [] ∧ H4 h i m j = some r) FU ?_ ?_))
  ·exact fun a ha=>⟨0,ha.sb rfl,u,(x.sel [] rfl),b⟩
  ·rintro g a s ⟨j,ha,v,ab,b⟩ an ac
   refine BB ?_ ha
   cases g with
   | zero=>exact Be b
   | succ g =>
    obtain ⟨ao,w⟩:∃ k,k = H4 h i g:=⟨_,rfl⟩
    rw [H4,← w] at b
    refine Am fun _ ad=>Ak fun _ ae=>wp 2 rfl (BQ o Tryz.underlying36 rfl (Aq 1 rfl (ae (A2 rfl b (fun _ b=>?_) (fun _ b=>?_)))))
    ·refine Au (ad ?_)
     refine Am fun _ af=>Az (Am fun _ ag=>(AR B2 [] v ab fun ah _ l ai=>?_))
     have d:=KeepX.refl ah []
     refine Ax 0 rfl c d (Ax 1 rfl c d (bB b fun ap aj b=>(Ad 2 rfl c d (BA (e:=Ao) Tryz.underlying36 rfl rfl rfl o aj ?_))))
     rintro aq _ rfl ak
     refine Ad 3 rfl c d (BJ A4 rfl (ak.kx l (by simp)) rfl (Ax 4 rfl c d (Ax 5 rfl c d (bB b fun ar al b=>(Ad 6 rfl c d (BA (e:=Ao) Tryz.underlying36 rfl rfl rfl t al ?_))))))
     rintro au _ rfl am
     refine Ad 7 rfl c d (BJ A4 rfl (am.kx l (by simp)) rfl (Ad 8 rfl c d (YW rfl rfl rfl (Ba (ag (A2 rfl b (fun _ b=>?_) (fun _ b=>?_)))))))
     ·refine Al 1 rfl ?_
      refine Aw (rt q rfl rfl (by cases b; exact ⟨rfl,l⟩))
     ·refine Au (af ?_)
      refine As (Aq 3 rfl ?_)
      rw [w] at b
      exact fun a ha=>ac a _ g (AB g) ⟨(Ag (j + 1)),ha.sb rfl,l,(ai.sel [] rfl),b⟩
    ·refine Bc (aa ?_)
     refine Al 1 rfl (Aw (rt q rfl rfl (by cases b; exact ⟨rfl,v⟩)))
theorem TM (b:Ae) (f:(List Int)) (d:Ac) (g:An) (q:Int) (w:Sep 0 b [Ab Ao g d f]) (r:(Int × (List Int))) (c:KK f q = some r) :
  A1 27 [d,(iv q)] b fun e w'=>e = .returned (iv r.1) ∧ Below 0 (wE b) w' ∧ Sep 0 w' [A5 b (Bf [Ab Ao g d f]),Ab Ao g d r.2]:=by
 refine Gb Tryz.func27 rfl Tryz.ntmps27 rfl rfl fun Q x hP=>?_
 have y:Bl (wE b) b:=Ek b
 have z:Sp (wE b) b [A5 b (Bf [Ab Ao g d f]),Ab Ao g d f]:=w.rest
 unfold KK at c
 refine Al 1 rfl (Am fun _ aa=>(Al 1 rfl (Az (AN (fun m a s=>∃ (n:(List Int)) (h:Int) (j:Int),St 19 [(0,d),(1,(iv h)),(5,(iv j))] a ∧ Bl (wE b) s ∧ Sp (wE b) s [A5 b (Bf [Ab Ao g d f]),Ab Ao g d n] ∧ ED m n h j = some r) FU ?_ ?_))))
 ·exact fun a ha=>⟨f,q,0,ha.sb rfl,y,(z.sel [0,1] rfl),c⟩
 ·rintro l a s ⟨n,h,j,ha,t,p,c⟩ ak ab
  refine BB ?_ ha
  cases l with
  | zero=>exact Be c
  | succ l =>
   obtain ⟨al,u⟩:∃ k,k = ED l:=⟨_,rfl⟩
   rw [ED,← u] at c
   refine Am fun _ ac=>Ak fun _ ad=>wp 2 rfl (BQ (p.own_ro (i:=1) rfl) Tryz.underlying36 rfl (Aq 1 rfl (ad (A2 rfl c (fun _ c=>?_) (fun _ c=>?_)))))
   ·refine Au (ac ?_)
    refine Am fun _ ae=>Az (Ak fun _ af=>(wp 3 rfl (bB c fun am v c=>(Cj (e:=Ao) (i:=1) Tryz.underlying36 rfl rfl rfl p rfl v ?_))))
    rintro an _ rfl ao ag
    refine BO (i:=1) (o:=0) (vs:=[(iv h)]) (u':=h) Ca A4 rfl rfl rfl rfl ag v t p rfl rfl ⟨rfl,trivial⟩ rfl fun ap _ ah ai=>Ah (af (As (Aq 3 rfl (ae (As (Aq 3 rfl ?_))))))
    rw [u] at c
    exact fun a ha=>ab a _ l (AB l) ⟨(BE n j h),(Ag (h + 1)),(Ag (j + 1)),ha.sb rfl,ah,(ai.sel [0,1] rfl),c⟩
   ·refine Bc (aa ?_)
    refine Al 2 rfl (Aw (rt x rfl rfl (by cases c; exact ⟨rfl,t,p.sel [0,1] rfl⟩)))
theorem OP (c:Ae) (f:(List Int)) (j:Ac) (o:RO Ao c j f) (l:Int) (r:Int) (b:J1 f l = some r) :
  A1 28 [j,(iv l)] c fun e w'=>e = .returned (iv r) ∧ Bl c w':=by
 refine cm Tryz.func28 Tryz.ntmps28 rfl fun Q p hP s t=>?_
 unfold J1 at b
 refine Al 1 rfl (Am fun _ u=>(Al 1 rfl (Az (AN (fun m a n=>∃ (g:Int) (h:Int),St 21 [(0,j),(1,(iv g)),(5,(iv h))] a ∧ Bl c n ∧ Sp c n [] ∧ EE f m g h = some r) FU ?_ ?_))))
 ·exact fun a ha=>⟨l,0,ha.sb rfl,s,(t.sel [] rfl),b⟩
 ·rintro d a n ⟨g,h,ha,i,v,b⟩ af w
  refine BB ?_ ha
  cases d with
  | zero=>exact Be b
  | succ d =>
   obtain ⟨ag,q⟩:∃ k,k = EE f d:=⟨_,rfl⟩
   rw [EE,← q] at b
   refine Am fun _ x=>Ak fun _ y=>wp 2 rfl (BQ o Tryz.underlying36 rfl (Aq 1 rfl (y (A2 rfl b (fun _ b=>?_) (fun _ b=>?_)))))
   ·refine Au (x ?_)
    refine Am fun _ z=>Az (Am fun _ aa=>(Ak fun _ ab=>(wp 2 rfl (bB b fun ah ac b=>(BM (e:=Ao) Tryz.underlying36 rfl rfl rfl o ac ?_)))))
    rintro ai _ rfl ad
    refine BV A4 rfl (ad.ro i) rfl (Aq 2 rfl (ab (A2 rfl b (fun _ b=>?_) (fun _ b=>?_))))
    ·refine Al 1 rfl ?_
     refine Aw (rt p rfl rfl (by cases b; exact ⟨rfl,i⟩))
    ·refine Au (aa ?_)
     refine As (Aq 3 rfl (z (As (Aq 3 rfl ?_))))
     rw [q] at b
     exact fun a ha=>w a _ d (AB d) ⟨(Ag (g + 1)),(Ag (h + 1)),ha.sb rfl,i,(v.sel [] rfl),b⟩
   ·refine Bc (u ?_)
    refine Al 2 rfl (Aw (rt p rfl rfl (by cases b; exact ⟨rfl,i⟩)))
theorem NA (g:Ae) (hT:Tab g) (m:(List Aj)) (r:Bool) (b:GN m = some r) :
  A1 7 [(.string (B5 m))] g fun e w'=>e = .returned (.bool r) ∧ Bl g w':=by
 refine cm Tryz.func7 Tryz.ntmps7 rfl fun Q h hP hB hS=>?_
 unfold GN at b
 refine Al 1 rfl (Am fun _ aq=>(Ak fun _ ar=>(wp 1 rfl (DJ Tryz.underlying9 rfl rfl (Aq 1 rfl (ar (A2 rfl b (fun _ b=>?_) (fun _ b=>?_))))))))
 ·refine Al 1 rfl ?_
  refine Aw (rt h rfl rfl (by cases b; exact ⟨rfl,hB⟩))
 ·refine Au (aq ?_)
  refine Ak fun _ au=>wp 1 rfl (bB b fun k av b=>(En rfl Tryz.call24 hB hS (Rm g m _ av) rfl fun o F9 aw _ _ ad ax=>(Aq 5 rfl (au (Ak fun _ ay=>(wp 1 rfl (bB b fun n az b=>(En rfl Tryz.call25 ad ax (Nh aw (hT.st ad) m _ az) rfl fun c j a0 _ _ a1 t=>(Aq 5 rfl (ay (Am fun _ a2=>(Am fun a3 a4=>?_))))))))))))
  obtain ⟨a5,a6,b⟩:=Ch b
  have ae:∀ (u:Bool) (p:Ae) (_:a5 u = some r) (_:Bl g p) (_:Sp g p [Ab Ao F9 o k.1,Ab Ao j c n.1]),∀ a,St 66 [(0,(.string (B5 m))),(3,o),(4,(.bool k.2)),(5,c),(32,(.bool u))] a → a3 a p:=by
   intro u p b v w
   subst a6
   refine a4 (A2 rfl b (fun _ b=>?_) (fun _ b=>?_))
   ·refine Al 1 rfl ?_
    refine Aw (rt h rfl rfl (by cases b; exact ⟨rfl,v⟩))
   ·refine Au (a2 ?_)
    refine Al 1 rfl (Ak fun _ a7=>(wp 2 rfl (bB b fun l a8 b=>(A7 rfl Tryz.call27 (TM p n.1 c j 1 (w.sel [1] rfl).base0 _ a8) rfl ?_))))
    rintro _ af ⟨rfl,a9,ag⟩
    refine ⟨_,rfl,?_⟩
    have ba:=w.mutB [1] rfl (M:=[Ab Ao j c n.1]) rfl (M':=[Ab Ao j c l.2]) rfl v v.size a9 ag
    have ah:Sp g af [Ab Ao j c l.2,Ab Ao F9 o k.1]:=w.mut [1] [0] rfl (M:=[Ab Ao j c n.1]) rfl (M':=[Ab Ao j c l.2]) rfl ag
    refine Aq 1 rfl (a7 (Al 1 rfl (Ak fun _ bb=>(wp 2 rfl (bB b fun b3 bc b=>(Bs rfl Tryz.call28 ba ah (OP af l.2 c (ah.own_ro (i:=0) rfl) 1 _ bc) rfl fun bd _ s be=>(Aq 1 rfl (bb (Am fun _ bf=>(Al 2 rfl (A2 rfl b (fun _ b=>?_) (fun _ b=>?_))))))))))))
    ·refine Al 1 rfl ?_
     refine Aw (rt h rfl rfl (by cases b; exact ⟨rfl,s⟩))
    ·refine Au (bf ?_)
     refine Am fun _ bg=>Al 3 rfl (A2 rfl b (fun _ b=>?_) (fun _ b=>?_))
     ·refine Al 1 rfl ?_
      refine Aw (rt h rfl rfl (by cases b; exact ⟨rfl,s⟩))
     ·refine Au (bg ?_)
      refine Ak fun _ bh=>wp 1 rfl (bB b fun ai bi b=>(En rfl Tryz.call25 s be (Nh bd (hT.st s) m _ bi) rfl fun bj b4 bk _ _ bl x=>(Aq 5 rfl (bh (Am fun _ bm=>(Am fun bn bo=>?_))))))
      obtain ⟨bp,bq,b⟩:=Ch b
      have aj:∀ (y:Bool) (q:Ae) (_:bp y = some r) (_:Bl g q) (_:Sp g q [Ab Ao j c l.2]),∀ a,St 66 [(5,c),(7,(iv l.1)),(57,(.bool y))] a → bn a q:=by
       intro y q b ak br
       subst bq
       refine bo (A2 rfl b (fun _ b=>?_) (fun _ b=>?_))
       ·refine Al 1 rfl ?_
        refine Aw (rt h rfl rfl (by cases b; exact ⟨rfl,ak⟩))
       ·refine Au (bm ?_)
        refine Al 1 rfl (Ak fun _ bs=>(wp 2 rfl (bB b fun b5 bt b=>(A7 rfl Tryz.call28 (OP q l.2 c (br.own_ro (i:=0) rfl) 1 _ bt) rfl ?_))))
        rintro _ b6 ⟨rfl,bu⟩
        refine ⟨_,rfl,?_⟩
        have z:=tm ak bu
        refine Aq 1 rfl (bs (Am fun _ bv=>(Al 2 rfl (A2 rfl b (fun _ b=>?_) (fun _ b=>?_)))))
        ·refine Al 1 rfl ?_
         refine Aw (rt h rfl rfl (by cases b; exact ⟨rfl,z⟩))
        ·refine Au (bv ?_)
         refine Am fun _ bw=>Al 3 rfl (A2 rfl b (fun _ b=>?_) (fun _ b=>?_))
         ·refine Al 1 rfl ?_
          refine Aw (rt h rfl rfl (by cases b; exact ⟨rfl,z⟩))
         ·refine Au (bw ?_)
          refine Al 1 rfl (Aw (rt h rfl rfl (by cases b; exact ⟨rfl,z⟩)))
      refine As (wp 2 rfl (bB b fun bx bz b=>(Bs rfl Tryz.call26 bl x (Q2 bk ai.1 bj (x.own_ro (i:=0) rfl) k.1 o (x.own_ro (i:=2) rfl) _ bz) rfl fun b7 _ al am=>(wp 2 rfl ?_))))
      rcases bE (!bx) with d | d
      ·replace b:=B9 d b
       refine wo rfl d (wo rfl d (wo rfl d (AA rfl rfl d rfl (Ah ?_))))
       exact jx (aj true _ b al (am.sel [1] rfl)) rfl
      ·replace b:=Cf d b
       refine wn rfl d (wp 1 rfl (wn rfl d (wp 1 rfl (wn rfl d (X6 Tryz.underlying4 rfl rfl rfl (A6 rfl rfl d rfl (Ah ?_)))))))
       exact jx (aj ((ai.2 != k.2)) _ b al (am.sel [1] rfl)) rfl
  refine As (wp 2 rfl (bB b fun b0 b1 b=>(Bs rfl Tryz.call26 a1 t (Q2 a0 n.1 c (t.own_ro (i:=0) rfl) k.1 o (t.own_ro (i:=1) rfl) _ b1) rfl fun b8 _ an ao=>(wp 2 rfl ?_))))
  rcases bE (!b0) with f | f
  ·replace b:=B9 f b
   refine wo rfl f (wo rfl f (wo rfl f (AA rfl rfl f rfl (Ah ?_))))
   exact jx (ae true _ b an (ao.sel [1,0] rfl)) rfl
  ·replace b:=Cf f b
   refine wn rfl f (wp 1 rfl (wn rfl f (wp 1 rfl (wn rfl f (X6 Tryz.underlying4 rfl rfl rfl (A6 rfl rfl f rfl (Ah ?_)))))))
   exact jx (ae ((n.2 != k.2)) _ b an (ao.sel [1,0] rfl)) rfl
end Go.Proofs.YtellehgihceicaaGreatDoor
