/-
  THE WALKS of functions of this seat, by program (gen.py, prune.py).
-/
import Derived.Test.YtellehgihceicaaGreatDoorWXFnExactRunLinesc
set_option linter.unusedVariables false
set_option linter.unusedSimpArgs false
set_option maxRecDepth 100000
set_option maxHeartbeats 1600000
namespace Go.Proofs.YtellehgihceicaaGreatDoor
open Go Go.RowKit
theorem GK:∀ (m:Nat) (j:Ae) (p:Ae2) (d:Ac) (f:Al) (l:Int) (q:Int) (n:Int) (bq:Sep 0 j [Ab Az f d p]) (r:Ae2) (c:AN m p l q n = some r),
  A1 211 [d,(iv l),(iv q),(iv n),(.func (.func 115) #[] #[])] j fun e w'=>e = .returned (.tuple #[]) ∧ Below 0 (wE j) w' ∧ Sep 0 w' [A6 j (Be [Ab Az f d p]),Ab Az f d r]:=by
 intro m
 induction m with
 | zero =>
  intro j p d f l q n bq r c
  exact Bg c
 | succ m ih =>
  intro j p d f l q n bq r c
  replace c:BV (AN m) p l q n = some r:=c
  obtain ⟨rec,hrec⟩:∃ k,k = AN m:=⟨_,rfl⟩
  rw [← hrec] at c ih
  refine Ij Tryz.func211 rfl Tryz.ntmps211 rfl rfl fun Q hQn hQ g=>?_
  have hB:Bl (wE j) j:=Ej j
  have hS:Sp (wE j) j [A6 j (Be [Ab Az f d p]),Ab Az f d p]:=bq.rest
  unfold BV at c
  refine Ap fun _ ef=>An 4 rfl (A3 rfl c (fun _ c=>?_) (fun _ c=>?_))
  ·refine An 2 rfl ?_
   refine An 2 rfl (Ap fun _ eg=>(A0 (AU (fun m a w7=>∃ (ad:Int) (ao:Int),St 220 [(0,d),(1,(iv l)),(4,(.func (.func 115) #[] #[])),(10,(iv ad)),(11,(iv ao))] a ∧ Bl (wE j) w7 ∧ Sp (wE j) w7 [A6 j (Be [Ab Az f d p]),Ab Az f d p] ∧ AJ p l m ad ao = some r) FU ?_ ?_)))
   ·exact fun a ha=>⟨q,n,ha.sb rfl,hB,(hS.sel [0,1] rfl),c⟩
   ·rintro ak a w7 ⟨ad,ao,ha,cq,cr,c⟩ hx cs
    refine BE ?_ ha
    cases ak with
    | zero=>exact Bg c
    | succ ak =>
     obtain ⟨hy,bs⟩:∃ k,k = AJ p l ak:=⟨_,rfl⟩
     rw [AJ,← bs] at c
     refine Ap fun _ eh=>An 3 rfl (A3 rfl c (fun _ c=>?_) (fun _ c=>?_))
     ·refine Au (eh ?_)
      refine A0 (Ak fun _ ei=>(wp 3 rfl (DU Tryz.underlying3 Tryz.underlying117 rfl rfl (Gi rfl rfl rfl rfl (DU Tryz.underlying117 Tryz.underlying3 rfl rfl (Aq 1 rfl (ei (Ap fun _ ej=>(AQ B4 [] cq cr fun ct _ ek bt=>?_)))))))))
      have ae:=KeepX.refl ct []
      refine Ax 0 rfl g ae (Ax 1 rfl g ae (Ax 2 rfl g ae (bB c fun av el c=>(Ad 3 rfl g ae (Bv (e:=Az) (i:=1) Tryz.underlying72 rfl rfl rfl bt rfl el ?_)))))
      rintro hz _ rfl em h0
      refine Ad 4 rfl g ae (BL BD rfl (em.kx0) rfl (Ax 5 rfl g ae (Ax 6 rfl g ae (bB c fun aw en c=>(Ad 7 rfl g ae (Bv (e:=Az) (i:=1) Tryz.underlying72 rfl rfl rfl bt rfl en ?_))))))
      rintro h1 _ rfl eo h2
      refine Ad 8 rfl g ae (BL BD rfl (eo.kx0) rfl (Av 9 rfl (bB c fun h3 ep c=>(PD (caps:=[]) (vs:=[(.agg #[(iv av.1),(iv av.2.1),(iv av.2.2.1),(iv av.2.2.2)]),(.agg #[(iv aw.1),(iv aw.2.1),(iv aw.2.2.1),(iv aw.2.2.2)])]) rfl rfl Tryz.call115 (GE ct av aw _ ep) rfl ?_))))
      rintro _ h4 ⟨rfl,bu⟩
      refine ⟨_,rfl,?_⟩
      have cu:=tm ek bu
      have cv:=bt.below bu
      have cw:=ae.ext bu
      refine Ah (Am cw (Ad 10 rfl g cw (LY rfl rfl rfl (Ba (ej (A3 rfl c (fun _ c=>?_) (fun _ c=>?_)))))))
      ·refine As ?_
       refine Aq 3 rfl ?_
       rw [bs] at c
       exact fun a ha=>cs a _ ak (AB ak) ⟨(Ag ((Ag (Bq .u64 (Bh (Ag (ad + ao))) 1)) + 1)),ao,ha.sb rfl,cu,(cv.sel [0,1] rfl),c⟩
      ·refine As ?_
       refine Aq 2 rfl ?_
       rw [bs] at c
       exact fun a ha=>cs a _ ak (AB ak) ⟨ad,(Ag (Bq .u64 (Bh (Ag (ad + ao))) 1)),ha.sb rfl,cu,(cv.sel [0,1] rfl),c⟩
     ·refine Bd (eg ?_)
      refine Ap fun _ eq=>An 2 rfl (A0 (AU (fun m a bv=>∃ (ax:Ae2) (ah:Int),St 220 [(0,d),(10,(iv ad)),(13,(iv ah))] a ∧ Bl (wE j) bv ∧ Sp (wE j) bv [A6 j (Be [Ab Az f d p]),Ab Az f d ax] ∧ Bz ad m ax ah = some r) FU ?_ ?_))
      ·exact fun a ha=>⟨p,l,ha.sb rfl,cq,(cr.sel [0,1] rfl),c⟩
      ·rintro ay a bv ⟨ax,ah,ha,cx,cy,c⟩ h5 er
       refine BE ?_ ha
       cases ay with
       | zero=>exact Bg c
       | succ ay =>
        obtain ⟨h6,cz⟩:∃ k,k = Bz ad ay:=⟨_,rfl⟩
        rw [Bz,← cz] at c
        refine Ap fun _ es=>An 4 rfl (A3 rfl c (fun _ c=>?_) (fun _ c=>?_))
        ·refine Au (es ?_)
         refine Ap fun et eu=>?_
         obtain ⟨ev,ew,c⟩:=Cj c
         have c0:∀ (bc:Ae2) (bd:Ae) (_:ev bc = some r) (_:Bl (wE j) bd) (_:Sp (wE j) bd [A6 j (Be [Ab Az f d p]),Ab Az f d bc]),∀ a,St 220 [(0,d),(10,(iv ad)),(13,(iv ah))] a → et a bd:=by
          intro bc bd c ex ey
          subst ew
          refine eu (As (Aq 3 rfl ?_))
          rw [cz] at c
          exact fun a ha=>er a _ ay (AB ay) ⟨bc,(Ag (ah + 1)),ha.sb rfl,ex,(ey.sel [0,1] rfl),c⟩
         refine A0 (AQ B4 f cx cy fun az _ c1 ap=>?_)
         have t:=KeepX.refl az f
         refine Ax 0 rfl g t (Ax 1 rfl g t (Ax 2 rfl g t (Ax 3 rfl g t (Ad 4 rfl g t (E7 rfl rfl rfl (Ax 5 rfl g t (Ax 6 rfl g t (Ad 7 rfl g t (E7 rfl rfl rfl (bB c fun v ez c=>(Ad 8 rfl g t (Bv (e:=Az) (i:=1) Tryz.underlying72 rfl rfl rfl ap rfl ez ?_))))))))))))
         rintro h7 _ rfl c2 h8
         refine Ax 10 rfl g t (Ax 11 rfl g t (bB c fun w e0 c=>(Ad 12 rfl g t (Bv (e:=Az) (i:=1) Tryz.underlying72 rfl rfl rfl ap rfl e0 ?_))))
         rintro h9 _ rfl c3 ia
         refine C0 (is:=[9,13]) (by kernel_rfl) rfl (Bb.2 ⟨⟨_,rfl,?_⟩,Bb.2 ⟨⟨_,rfl,?_⟩,fun _ h=>by cases h⟩⟩)
         ·refine BZ BD rfl c2 rfl ?_
          refine Ah (Am t (Av 13 rfl (BZ BD rfl c3 rfl (Ah (Am t (bB c fun ib c4 c=>(Ad 14 rfl g t (Bv (e:=Az) (i:=1) Tryz.underlying72 rfl rfl rfl ap rfl c4 ?_))))))))
          rintro ic _ rfl ie e1
          refine Av 15 rfl (BT (i:=1) (o:=0) (vs:=[(iv v.1),(iv v.2.1),(iv v.2.2.1),(iv v.2.2.2)]) (u':=v) Cs BD rfl rfl rfl rfl e1 c4 c1 ap rfl rfl ⟨rfl,rfl,rfl,rfl,trivial⟩ rfl fun ig bw e2 c5=>?_)
          have bx:=t.wr' bw.1 bw.2.1 (fun _ _ h=>h)
          have e3:∀ b,b < az.heap.size → b ∈ f → b ∈ f:=fun b hlt hb=>(bw.2.2 b hb).elim ((fun _ _ h=>h) b hlt) (fun h=>absurd hlt (AK.2 (Aw (Nat.le_refl az.heap.size) h)))
          refine Ah (Am bx (Av 16 rfl (bB c fun ii c6 c=>(Cw (e:=Az) (i:=1) Tryz.underlying72 rfl rfl rfl c5 rfl c6 ?_))))
          rintro ij _ rfl ik e4
          refine Ah (Am bx (Av 17 rfl (BT (i:=1) (o:=0) (vs:=[(iv w.1),(iv w.2.1),(iv w.2.2.1),(iv w.2.2.2)]) (u':=w) Cs BD rfl rfl rfl rfl e4 c6 e2 c5 rfl rfl ⟨rfl,rfl,rfl,rfl,trivial⟩ rfl fun il c7 e5 e6=>?_)))
          have e7:=bx.wr' c7.1 c7.2.1 (e3)
          refine Ah (Am e7 (Ba ?_))
          exact jx (c0 ((BG (BG ax ah v) (Ag (ah + 1)) w)) _ c e5 (e6.sel [0,1] rfl)) rfl
         ·refine BZ BD rfl c3 rfl ?_
          refine Ah (Am t (Av 9 rfl (BZ BD rfl c2 rfl (Ah (Am t (bB c fun im c8 c=>(Ad 14 rfl g t (Bv (e:=Az) (i:=1) Tryz.underlying72 rfl rfl rfl ap rfl c8 ?_))))))))
          rintro io _ rfl ip e8
          refine Av 15 rfl (BT (i:=1) (o:=0) (vs:=[(iv v.1),(iv v.2.1),(iv v.2.2.1),(iv v.2.2.2)]) (u':=v) Cs BD rfl rfl rfl rfl e8 c8 c1 ap rfl rfl ⟨rfl,rfl,rfl,rfl,trivial⟩ rfl fun iq bz e9 c9=>?_)
          have b0:=t.wr' bz.1 bz.2.1 (fun _ _ h=>h)
          have fa:∀ b,b < az.heap.size → b ∈ f → b ∈ f:=fun b hlt hb=>(bz.2.2 b hb).elim ((fun _ _ h=>h) b hlt) (fun h=>absurd hlt (AK.2 (Aw (Nat.le_refl az.heap.size) h)))
          refine Ah (Am b0 (Av 16 rfl (bB c fun ir da c=>(Cw (e:=Az) (i:=1) Tryz.underlying72 rfl rfl rfl c9 rfl da ?_))))
          rintro it _ rfl iu fb
          refine Ah (Am b0 (Av 17 rfl (BT (i:=1) (o:=0) (vs:=[(iv w.1),(iv w.2.1),(iv w.2.2.1),(iv w.2.2.2)]) (u':=w) Cs BD rfl rfl rfl rfl fb da e9 c9 rfl rfl ⟨rfl,rfl,rfl,rfl,trivial⟩ rfl fun iw db fc fd=>?_)))
          have fe:=b0.wr' db.1 db.2.1 (fa)
          refine Ah (Am fe (Ba ?_))
          exact jx (c0 ((BG (BG ax ah v) (Ag (ah + 1)) w)) _ c fc (fd.sel [0,1] rfl)) rfl
        ·refine Bd (eq ?_)
         refine Ay ?_
         obtain rfl:=Option.some.inj c
         exact IM (vs:=[]) hQ rfl trivial ⟨rfl,cx,cy.sel [0,1] rfl⟩
  ·refine Au (ef ?_)
   refine Ap fun _ ff=>An 4 rfl (A3 rfl c (fun _ c=>?_) (fun _ c=>?_))
   ·refine An 2 rfl ?_
    refine An 2 rfl (Ap fun _ fg=>(A0 (AU (fun m a b1=>∃ (af:Int) (aq:Int),St 220 [(0,d),(2,(iv q)),(4,(.func (.func 115) #[] #[])),(14,(iv af)),(15,(iv aq))] a ∧ Bl (wE j) b1 ∧ Sp (wE j) b1 [A6 j (Be [Ab Az f d p]),Ab Az f d p] ∧ AH p q m af aq = some r) FU ?_ ?_)))
    ·exact fun a ha=>⟨l,q,ha.sb rfl,hB,(hS.sel [0,1] rfl),c⟩
    ·rintro al a b1 ⟨af,aq,ha,dc,dd,c⟩ ix de
     refine BE ?_ ha
     cases al with
     | zero=>exact Bg c
     | succ al =>
      obtain ⟨iy,b2⟩:∃ k,k = AH p q al:=⟨_,rfl⟩
      rw [AH,← b2] at c
      refine Ap fun _ fh=>An 3 rfl (A3 rfl c (fun _ c=>?_) (fun _ c=>?_))
      ·refine Au (fh ?_)
       refine A0 (Ak fun _ fi=>(wp 3 rfl (DU Tryz.underlying3 Tryz.underlying117 rfl rfl (Gi rfl rfl rfl rfl (DU Tryz.underlying117 Tryz.underlying3 rfl rfl (Aq 1 rfl (fi (Ap fun _ fj=>(AQ B4 [] dc dd fun df _ fk b3=>?_)))))))))
       have ag:=KeepX.refl df []
       refine Ax 0 rfl g ag (Ax 1 rfl g ag (Ax 2 rfl g ag (bB c fun a0 fl c=>(Ad 3 rfl g ag (Bv (e:=Az) (i:=1) Tryz.underlying72 rfl rfl rfl b3 rfl fl ?_)))))
       rintro iz _ rfl fm i0
       refine Ad 4 rfl g ag (BL BD rfl (fm.kx0) rfl (Ax 5 rfl g ag (Ax 6 rfl g ag (bB c fun a1 fn c=>(Ad 7 rfl g ag (Bv (e:=Az) (i:=1) Tryz.underlying72 rfl rfl rfl b3 rfl fn ?_))))))
       rintro i1 _ rfl fo i2
       refine Ad 8 rfl g ag (BL BD rfl (fo.kx0) rfl (Av 9 rfl (bB c fun i3 fp c=>(PD (caps:=[]) (vs:=[(.agg #[(iv a0.1),(iv a0.2.1),(iv a0.2.2.1),(iv a0.2.2.2)]),(.agg #[(iv a1.1),(iv a1.2.1),(iv a1.2.2.1),(iv a1.2.2.2)])]) rfl rfl Tryz.call115 (GE df a0 a1 _ fp) rfl ?_))))
       rintro _ i4 ⟨rfl,b4⟩
       refine ⟨_,rfl,?_⟩
       have dg:=tm fk b4
       have dh:=b3.below b4
       have b5:=ag.ext b4
       refine Ah (Am b5 (Ad 10 rfl g b5 (LY rfl rfl rfl (Ad 11 rfl g b5 (KM rfl rfl (Ba (fj (A3 rfl c (fun _ c=>?_) (fun _ c=>?_)))))))))
       ·refine As ?_
        refine Aq 3 rfl ?_
        rw [b2] at c
        exact fun a ha=>de a _ al (AB al) ⟨(Ag ((Ag (Bq .u64 (Bh (Ag (af + aq))) 1)) + 1)),aq,ha.sb rfl,dg,(dh.sel [0,1] rfl),c⟩
       ·refine As ?_
        refine Aq 2 rfl ?_
        rw [b2] at c
        exact fun a ha=>de a _ al (AB al) ⟨af,(Ag (Bq .u64 (Bh (Ag (af + aq))) 1)),ha.sb rfl,dg,(dh.sel [0,1] rfl),c⟩
      ·refine Bd (fg ?_)
       refine Ap fun _ fq=>An 2 rfl (A0 (AU (fun m a b6=>∃ (a2:Ae2) (ai:Int),St 220 [(0,d),(14,(iv af)),(17,(iv ai))] a ∧ Bl (wE j) b6 ∧ Sp (wE j) b6 [A6 j (Be [Ab Az f d p]),Ab Az f d a2] ∧ Bx af m a2 ai = some r) FU ?_ ?_))
       ·exact fun a ha=>⟨p,q,ha.sb rfl,dc,(dd.sel [0,1] rfl),c⟩
       ·rintro a3 a b6 ⟨a2,ai,ha,di,dj,c⟩ i5 fr
        refine BE ?_ ha
        cases a3 with
        | zero=>exact Bg c
        | succ a3 =>
         obtain ⟨i6,dk⟩:∃ k,k = Bx af a3:=⟨_,rfl⟩
         rw [Bx,← dk] at c
         refine Ap fun _ fs=>An 3 rfl (A3 rfl c (fun _ c=>?_) (fun _ c=>?_))
         ·refine Au (fs ?_)
          refine Ap fun ft fu=>?_
          obtain ⟨fv,fw,c⟩:=Cj c
          have dl:∀ (be:Ae2) (bf:Ae) (_:fv be = some r) (_:Bl (wE j) bf) (_:Sp (wE j) bf [A6 j (Be [Ab Az f d p]),Ab Az f d be]),∀ a,St 220 [(0,d),(14,(iv af)),(17,(iv ai))] a → ft a bf:=by
           intro be bf c fx fy
           subst fw
           refine fu (As (Aq 3 rfl ?_))
           rw [dk] at c
           exact fun a ha=>fr a _ a3 (AB a3) ⟨be,(Ag (ai - 1)),ha.sb rfl,fx,(fy.sel [0,1] rfl),c⟩
          refine A0 (AQ B4 f di dj fun a4 _ dm ar=>?_)
          have u:=KeepX.refl a4 f
          refine Ax 0 rfl g u (Ax 1 rfl g u (Ax 2 rfl g u (Ax 3 rfl g u (Ad 4 rfl g u (GM rfl rfl rfl (Ax 5 rfl g u (Ax 6 rfl g u (Ad 7 rfl g u (GM rfl rfl rfl (bB c fun x fz c=>(Ad 8 rfl g u (Bv (e:=Az) (i:=1) Tryz.underlying72 rfl rfl rfl ar rfl fz ?_))))))))))))
          rintro i7 _ rfl dn i8
          refine Ax 10 rfl g u (Ax 11 rfl g u (bB c fun y f0 c=>(Ad 12 rfl g u (Bv (e:=Az) (i:=1) Tryz.underlying72 rfl rfl rfl ar rfl f0 ?_))))
          rintro i9 _ rfl dp ja
          refine C0 (is:=[9,13]) (by kernel_rfl) rfl (Bb.2 ⟨⟨_,rfl,?_⟩,Bb.2 ⟨⟨_,rfl,?_⟩,fun _ h=>by cases h⟩⟩)
          ·refine BZ BD rfl dn rfl ?_
           refine Ah (Am u (Av 13 rfl (BZ BD rfl dp rfl (Ah (Am u (bB c fun jb dq c=>(Ad 14 rfl g u (Bv (e:=Az) (i:=1) Tryz.underlying72 rfl rfl rfl ar rfl dq ?_))))))))
           rintro jc _ rfl jd f1
           refine Av 15 rfl (BT (i:=1) (o:=0) (vs:=[(iv x.1),(iv x.2.1),(iv x.2.2.1),(iv x.2.2.2)]) (u':=x) Cs BD rfl rfl rfl rfl f1 dq dm ar rfl rfl ⟨rfl,rfl,rfl,rfl,trivial⟩ rfl fun je b7 f2 dr=>?_)
           have b8:=u.wr' b7.1 b7.2.1 (fun _ _ h=>h)
           have f3:∀ b,b < a4.heap.size → b ∈ f → b ∈ f:=fun b hlt hb=>(b7.2.2 b hb).elim ((fun _ _ h=>h) b hlt) (fun h=>absurd hlt (AK.2 (Aw (Nat.le_refl a4.heap.size) h)))
           refine Ah (Am b8 (Av 16 rfl (bB c fun jf ds c=>(Cw (e:=Az) (i:=1) Tryz.underlying72 rfl rfl rfl dr rfl ds ?_))))
           rintro jg _ rfl jh f4
           refine Ah (Am b8 (Av 17 rfl (BT (i:=1) (o:=0) (vs:=[(iv y.1),(iv y.2.1),(iv y.2.2.1),(iv y.2.2.2)]) (u':=y) Cs BD rfl rfl rfl rfl f4 ds f2 dr rfl rfl ⟨rfl,rfl,rfl,rfl,trivial⟩ rfl fun ji dt f5 f6=>?_)))
           have f7:=b8.wr' dt.1 dt.2.1 (f3)
           refine Ah (Am f7 (Ba ?_))
           exact jx (dl ((BG (BG a2 ai x) (Ag (ai - 1)) y)) _ c f5 (f6.sel [0,1] rfl)) rfl
          ·refine BZ BD rfl dp rfl ?_
           refine Ah (Am u (Av 9 rfl (BZ BD rfl dn rfl (Ah (Am u (bB c fun jj du c=>(Ad 14 rfl g u (Bv (e:=Az) (i:=1) Tryz.underlying72 rfl rfl rfl ar rfl du ?_))))))))
           rintro jk _ rfl jl f8
           refine Av 15 rfl (BT (i:=1) (o:=0) (vs:=[(iv x.1),(iv x.2.1),(iv x.2.2.1),(iv x.2.2.2)]) (u':=x) Cs BD rfl rfl rfl rfl f8 du dm ar rfl rfl ⟨rfl,rfl,rfl,rfl,trivial⟩ rfl fun jm b9 f9 dv=>?_)
           have ca:=u.wr' b9.1 b9.2.1 (fun _ _ h=>h)
           have ga:∀ b,b < a4.heap.size → b ∈ f → b ∈ f:=fun b hlt hb=>(b9.2.2 b hb).elim ((fun _ _ h=>h) b hlt) (fun h=>absurd hlt (AK.2 (Aw (Nat.le_refl a4.heap.size) h)))
           refine Ah (Am ca (Av 16 rfl (bB c fun jn dw c=>(Cw (e:=Az) (i:=1) Tryz.underlying72 rfl rfl rfl dv rfl dw ?_))))
           rintro jo _ rfl jp gb
           refine Ah (Am ca (Av 17 rfl (BT (i:=1) (o:=0) (vs:=[(iv y.1),(iv y.2.1),(iv y.2.2.1),(iv y.2.2.2)]) (u':=y) Cs BD rfl rfl rfl rfl gb dw f9 dv rfl rfl ⟨rfl,rfl,rfl,rfl,trivial⟩ rfl fun jq dx gc gd=>?_)))
           have ge:=ca.wr' dx.1 dx.2.1 (ga)
           refine Ah (Am ge (Ba ?_))
           exact jx (dl ((BG (BG a2 ai x) (Ag (ai - 1)) y)) _ c gc (gd.sel [0,1] rfl)) rfl
         ·refine Bd (fq ?_)
          refine Ay ?_
          obtain rfl:=Option.some.inj c
          exact IM (vs:=[]) hQ rfl trivial ⟨rfl,di,dj.sel [0,1] rfl⟩
   ·refine Au (ff ?_)
    refine Ak fun _ gf=>wp 3 rfl (DU Tryz.underlying3 Tryz.underlying117 rfl rfl (Gi rfl rfl rfl rfl (DU Tryz.underlying117 Tryz.underlying3 rfl rfl (Aq 1 rfl (gf (An 4 rfl (An 2 rfl (Ap fun gg gh=>?_))))))))
    obtain ⟨gi,gj,c⟩:=Nn c
    have dy:∀ (bg:Int) (bh:Int) (bi:Ae) (_:gi bg bh = some r) (_:Bl (wE j) bi) (_:Sp (wE j) bi [A6 j (Be [Ab Az f d p]),Ab Az f d p]),∀ a,St 220 [(0,d),(1,(iv l)),(2,(iv q)),(3,(iv n)),(4,(.func (.func 115) #[] #[])),(18,(iv (Ag (Bq .u64 (Bh (Ag (l + n))) 1)))),(19,(iv (Ag ((Ag (Bq .u64 (Bh (Ag (l + n))) 1)) + q)))),(20,(iv bg)),(21,(iv bh))] a → gg a bi:=by
     intro bg bh bi c gk gl
     subst gj
     refine gh (An 3 rfl (Ap fun _ gm=>(A0 (AU (fun m a cb=>∃ (s:Int) (au:Int),St 220 [(0,d),(1,(iv l)),(2,(iv q)),(3,(iv n)),(4,(.func (.func 115) #[] #[])),(18,(iv (Ag (Bq .u64 (Bh (Ag (l + n))) 1)))),(19,(iv (Ag ((Ag (Bq .u64 (Bh (Ag (l + n))) 1)) + q)))),(20,(iv s)),(21,(iv au)),(22,(iv (Ag ((Ag ((Ag (Bq .u64 (Bh (Ag (l + n))) 1)) + q)) - 1))))] a ∧ Bl (wE j) cb ∧ Sp (wE j) cb [A6 j (Be [Ab Az f d p]),Ab Az f d p] ∧ AG p l n q rec m s au = some r) FU ?_ ?_))))
     ·exact fun a ha=>⟨bg,bh,ha.sb rfl,gk,(gl.sel [0,1] rfl),c⟩
     ·rintro am a cb ⟨s,au,ha,cc,cd,c⟩ jr dz
      refine BE ?_ ha
      cases am with
      | zero=>exact Bg c
      | succ am =>
       obtain ⟨js,ce⟩:∃ k,k = AG p l n q rec am:=⟨_,rfl⟩
       rw [AG,← ce] at c
       refine Ap fun _ gn=>An 3 rfl (A3 rfl c (fun _ c=>?_) (fun _ c=>?_))
       ·refine Au (gn ?_)
        refine A0 (Ak fun _ go=>(wp 3 rfl (DU Tryz.underlying3 Tryz.underlying117 rfl rfl (Gi rfl rfl rfl rfl (DU Tryz.underlying117 Tryz.underlying3 rfl rfl (Aq 1 rfl (go (Ap fun _ gp=>(AQ B4 [] cc cd fun d0 _ gq cf=>?_)))))))))
        have z:=KeepX.refl d0 []
        refine Ax 0 rfl g z (Ax 1 rfl g z (Ax 2 rfl g z (Ax 3 rfl g z (Ad 4 rfl g z (GM rfl rfl rfl (bB c fun a5 gr c=>(Ad 5 rfl g z (Bv (e:=Az) (i:=1) Tryz.underlying72 rfl rfl rfl cf rfl gr ?_))))))))
        rintro jt _ rfl gs ju
        refine Ad 6 rfl g z (BL BD rfl (gs.kx0) rfl (Ax 7 rfl g z (Ax 8 rfl g z (bB c fun a6 gt c=>(Ad 9 rfl g z (Bv (e:=Az) (i:=1) Tryz.underlying72 rfl rfl rfl cf rfl gt ?_))))))
        rintro jv _ rfl gu jw
        refine Ad 10 rfl g z (BL BD rfl (gu.kx0) rfl (Av 11 rfl (bB c fun jy gv c=>(PD (caps:=[]) (vs:=[(.agg #[(iv a5.1),(iv a5.2.1),(iv a5.2.2.1),(iv a5.2.2.2)]),(.agg #[(iv a6.1),(iv a6.2.1),(iv a6.2.2.1),(iv a6.2.2.2)])]) rfl rfl Tryz.call115 (GE d0 a5 a6 _ gv) rfl ?_))))
        rintro _ jz ⟨rfl,cg⟩
        refine ⟨_,rfl,?_⟩
        have d1:=tm gq cg
        have d2:=cf.below cg
        have ch:=z.ext cg
        refine Ah (Am ch (Ad 12 rfl g ch (LY rfl rfl rfl (Ad 13 rfl g ch (KM rfl rfl (Ba (gp (A3 rfl c (fun _ c=>?_) (fun _ c=>?_)))))))))
        ·refine As ?_
         refine Aq 3 rfl ?_
         rw [ce] at c
         exact fun a ha=>dz a _ am (AB am) ⟨(Ag ((Ag (Bq .u64 (Bh (Ag (s + au))) 1)) + 1)),au,ha.sb rfl,d1,(d2.sel [0,1] rfl),c⟩
        ·refine As ?_
         refine Aq 2 rfl ?_
         rw [ce] at c
         exact fun a ha=>dz a _ am (AB am) ⟨s,(Ag (Bq .u64 (Bh (Ag (s + au))) 1)),ha.sb rfl,d1,(d2.sel [0,1] rfl),c⟩
       ·refine Bd (gm ?_)
        refine An 4 rfl (Ap fun gw gx=>?_)
        obtain ⟨gy,gz,c⟩:=Cj c
        have d3:∀ (aj:Ae2) (bj:Ae) (_:gy aj = some r) (_:Bl (wE j) bj) (_:Sp (wE j) bj [A6 j (Be [Ab Az f d p]),Ab Az f d aj]),∀ a,St 220 [(0,d),(1,(iv l)),(3,(iv n)),(4,(.func (.func 115) #[] #[])),(18,(iv (Ag (Bq .u64 (Bh (Ag (l + n))) 1)))),(20,(iv s)),(24,(iv (Ag ((Ag ((Ag (Bq .u64 (Bh (Ag (l + n))) 1)) + q)) - s))))] a → gw a bj:=by
         intro aj bj c d4 d5
         subst gz
         refine gx (Ap fun g0 g1=>?_)
         obtain ⟨g2,g3,c⟩:=Cj c
         have d6:∀ (an:Ae2) (bk:Ae) (_:g2 an = some r) (_:Bl (wE j) bk) (_:Sp (wE j) bk [A6 j (Be [Ab Az f d p]),Ab Az f d an]),∀ a,St 220 [(0,d),(3,(iv n)),(4,(.func (.func 115) #[] #[])),(18,(iv (Ag (Bq .u64 (Bh (Ag (l + n))) 1)))),(24,(iv (Ag ((Ag ((Ag (Bq .u64 (Bh (Ag (l + n))) 1)) + q)) - s))))] a → g0 a bk:=by
          intro an bk c d7 d8
          subst g3
          refine g1 (Ap fun g4 g5=>?_)
          obtain ⟨g6,g7,c⟩:=Cj c
          have d9:∀ (ci:Bool) (a7:Ae) (_:g6 ci = some r) (_:Bl (wE j) a7) (_:Sp (wE j) a7 [A6 j (Be [Ab Az f d p]),Ab Az f d an]),∀ a,St 220 [(0,d),(3,(iv n)),(4,(.func (.func 115) #[] #[])),(18,(iv (Ag (Bq .u64 (Bh (Ag (l + n))) 1)))),(24,(iv (Ag ((Ag ((Ag (Bq .u64 (Bh (Ag (l + n))) 1)) + q)) - s)))),(213,(.bool ci))] a → g4 a a7:=by
           intro ci a7 c cj bl
           subst g7
           refine g5 (A3 rfl c (fun _ c=>?_) (fun _ c=>?_))
           ·refine As ?_
            refine wp 5 rfl (bB c fun ck g8 c=>(A7 rfl Tryz.call211 (ih a7 an d f (Ag (Bq .u64 (Bh (Ag (l + n))) 1)) (Ag ((Ag ((Ag (Bq .u64 (Bh (Ag (l + n))) 1)) + q)) - s)) n (bl.sel [1] rfl).base0 _ g8) rfl ?_))
            rintro _ g9 ⟨rfl,hc,ea⟩
            refine ⟨_,rfl,?_⟩
            have hd:=bl.mutB [1] rfl (M:=[Ab Az f d an]) rfl (M':=[Ab Az f d ck]) rfl cj cj.size hc ea
            have he:Sp (wE j) g9 [Ab Az f d ck,A6 j (Be [Ab Az f d p])]:=bl.mut [1] [0] rfl (M:=[Ab Az f d an]) rfl (M':=[Ab Az f d ck]) rfl ea
            refine Ah ?_
            obtain rfl:=Option.some.inj c
            exact LW (vs:=[]) hQn rfl trivial ⟨rfl,hd,he.sel [1,0] rfl⟩
           ·refine Au ?_
            obtain rfl:=Option.some.inj c
            exact LW (vs:=[]) hQn rfl trivial ⟨rfl,cj,bl.sel [0,1] rfl⟩
          refine As (wp 4 rfl ?_)
          rcases bE (decide ((Ag (Bq .u64 (Bh (Ag (l + n))) 1)) < (Ag ((Ag ((Ag (Bq .u64 (Bh (Ag (l + n))) 1)) + q)) - s)))) with aa | aa
          ·replace c:=BA aa c
           refine wn rfl aa (wp 1 rfl (wn rfl aa (wp 1 rfl (wn rfl aa (wp 1 rfl (AA rfl rfl aa rfl (Ah ?_)))))))
           exact jx (d9 ((decide ((Ag ((Ag ((Ag (Bq .u64 (Bh (Ag (l + n))) 1)) + q)) - s)) < n))) _ c d7 (d8.sel [0,1] rfl)) rfl
          ·replace c:=Cf aa c
           refine wo rfl aa (wo rfl aa (wo rfl aa (A9 rfl rfl aa rfl (Ah ?_))))
           exact jx (d9 false _ c d7 (d8.sel [0,1] rfl)) rfl
         refine Ap fun hf hg=>?_
         obtain ⟨hh,hi,c⟩:=Cj c
         have eb:∀ (cl:Bool) (a8:Ae) (_:hh cl = some r) (_:Bl (wE j) a8) (_:Sp (wE j) a8 [A6 j (Be [Ab Az f d p]),Ab Az f d aj]),∀ a,St 220 [(0,d),(1,(iv l)),(3,(iv n)),(4,(.func (.func 115) #[] #[])),(18,(iv (Ag (Bq .u64 (Bh (Ag (l + n))) 1)))),(20,(iv s)),(24,(iv (Ag ((Ag ((Ag (Bq .u64 (Bh (Ag (l + n))) 1)) + q)) - s)))),(199,(.bool cl))] a → hf a a8:=by
          intro cl a8 c cm bm
          subst hi
          refine hg (A3 rfl c (fun _ c=>?_) (fun _ c=>?_))
          ·refine As ?_
           refine wp 5 rfl (bB c fun bn hj c=>(A7 rfl Tryz.call211 (ih a8 aj d f l s (Ag (Bq .u64 (Bh (Ag (l + n))) 1)) (bm.sel [1] rfl).base0 _ hj) rfl ?_))
           rintro _ hk ⟨rfl,hl,ec⟩
           refine ⟨_,rfl,?_⟩
           have hm:=bm.mutB [1] rfl (M:=[Ab Az f d aj]) rfl (M':=[Ab Az f d bn]) rfl cm cm.size hl ec
           have hn:Sp (wE j) hk [Ab Az f d bn,A6 j (Be [Ab Az f d p])]:=bm.mut [1] [0] rfl (M:=[Ab Az f d aj]) rfl (M':=[Ab Az f d bn]) rfl ec
           refine Ah ?_
           exact jx (d6 bn _ c hm (hn.sel [1,0] rfl)) rfl
          ·refine Au ?_
           exact jx (d6 aj _ c cm (bm.sel [0,1] rfl)) rfl
         refine As (wp 4 rfl ?_)
         rcases bE (decide (l < s)) with ab | ab
         ·replace c:=BA ab c
          refine wn rfl ab (wp 1 rfl (wn rfl ab (wp 1 rfl (wn rfl ab (wp 1 rfl (AA rfl rfl ab rfl (Ah ?_)))))))
          exact jx (eb ((decide (s < (Ag (Bq .u64 (Bh (Ag (l + n))) 1))))) _ c d4 (d5.sel [0,1] rfl)) rfl
         ·replace c:=Cf ab c
          refine wo rfl ab (wo rfl ab (wo rfl ab (A9 rfl rfl ab rfl (Ah ?_))))
          exact jx (eb false _ c d4 (d5.sel [0,1] rfl)) rfl
        refine Ap fun ho hp=>?_
        obtain ⟨hq,hr,c⟩:=Cj c
        have ed:∀ (cn:Bool) (a9:Ae) (_:hq cn = some r) (_:Bl (wE j) a9) (_:Sp (wE j) a9 [A6 j (Be [Ab Az f d p]),Ab Az f d p]),∀ a,St 220 [(0,d),(1,(iv l)),(2,(iv q)),(3,(iv n)),(4,(.func (.func 115) #[] #[])),(18,(iv (Ag (Bq .u64 (Bh (Ag (l + n))) 1)))),(20,(iv s)),(24,(iv (Ag ((Ag ((Ag (Bq .u64 (Bh (Ag (l + n))) 1)) + q)) - s)))),(185,(.bool cn))] a → ho a a9:=by
         intro cn a9 c co bo
         subst hr
         refine hp (A3 rfl c (fun _ c=>?_) (fun _ c=>?_))
         ·refine As ?_
          refine wp 5 rfl (bB c fun bp hs c=>(A7 rfl Tryz.call235 (He a9 p d f s q (Ag ((Ag ((Ag (Bq .u64 (Bh (Ag (l + n))) 1)) + q)) - s)) (bo.sel [1] rfl).base0 _ hs) rfl ?_))
          rintro _ ht ⟨rfl,hu,ee⟩
          refine ⟨_,rfl,?_⟩
          have hv:=bo.mutB [1] rfl (M:=[Ab Az f d p]) rfl (M':=[Ab Az f d bp]) rfl co co.size hu ee
          have hw:Sp (wE j) ht [Ab Az f d bp,A6 j (Be [Ab Az f d p])]:=bo.mut [1] [0] rfl (M:=[Ab Az f d p]) rfl (M':=[Ab Az f d bp]) rfl ee
          refine Ah ?_
          exact jx (d3 bp _ c hv (hw.sel [1,0] rfl)) rfl
         ·refine Au ?_
          exact jx (d3 p _ c co (bo.sel [0,1] rfl)) rfl
        refine As (wp 4 rfl ?_)
        rcases bE (decide (s < q)) with ac | ac
        ·replace c:=BA ac c
         refine wn rfl ac (wp 1 rfl (wn rfl ac (wp 1 rfl (wn rfl ac (wp 1 rfl (AA rfl rfl ac rfl (Ah ?_)))))))
         exact jx (ed ((decide (q < (Ag ((Ag ((Ag (Bq .u64 (Bh (Ag (l + n))) 1)) + q)) - s))))) _ c cc (cd.sel [0,1] rfl)) rfl
        ·replace c:=Cf ac c
         refine wo rfl ac (wo rfl ac (wo rfl ac (A9 rfl rfl ac rfl (Ah ?_))))
         exact jx (ed false _ c cc (cd.sel [0,1] rfl)) rfl
    refine An 3 rfl (A3 rfl c (fun _ c=>?_) (fun _ c=>?_))
    ·refine An 4 rfl ?_
     refine As (Aq 2 rfl ?_)
     exact jx (dy ((Ag ((Ag ((Ag (Bq .u64 (Bh (Ag (l + n))) 1)) + q)) - n))) ((Ag (Bq .u64 (Bh (Ag (l + n))) 1))) _ c hB (hS.sel [0,1] rfl)) rfl
    ·refine An 2 rfl ?_
     refine As (Aq 2 rfl ?_)
     exact jx (dy l q _ c hB (hS.sel [0,1] rfl)) rfl
theorem DX (a:Ae) (c:Ae2) (b:Ac) (d:Al) (f:Int) (g:Int) (h:Int) (i:Sep 0 a [Ab Az d b c]) (r:Ae2) (j:Cb c f g h = some r) :
  A1 211 [b,(iv f),(iv g),(iv h),(.func (.func 115) #[] #[])] a fun e w'=>e = .returned (.tuple #[]) ∧ Below 0 (wE a) w' ∧ Sep 0 w' [A6 a (Be [Ab Az d b c]),Ab Az d b r] :=
 GK FU a c b d f g h i r j
theorem Hd (f:Ae) (g:Ae2) (c:Ac) (d:Al) (h:Int) (aw:Sep 0 f [Ab Az d c g]) (r:Ae2) (b:C8 g h = some r) :
  A1 167 [c,(iv h),(.func (.func 115) #[] #[])] f fun e w'=>e = .returned (.tuple #[]) ∧ Below 0 (wE f) w' ∧ Sep 0 w' [A6 f (Be [Ab Az d c g]),Ab Az d c r]:=by
 refine Ij Tryz.func167 rfl Tryz.ntmps167 rfl rfl fun Q hQn hQ hP=>?_
 have hB:Bl (wE f) f:=Ej f
 have hS:Sp (wE f) f [A6 f (Be [Ab Az d c g]),Ab Az d c g]:=aw.rest
 unfold C8 at b
 refine An 1 rfl (An 3 rfl (Ap fun _ az=>(A0 (AU (fun m a t=>∃ (l:Ae2) (u:Int) (p:Int),St 63 [(0,c),(1,(iv h)),(2,(.func (.func 115) #[] #[])),(6,(iv 20)),(7,(iv u)),(8,(iv p))] a ∧ Bl (wE f) t ∧ Sp (wE f) t [A6 f (Be [Ab Az d c g]),Ab Az d c l] ∧ AL h m l u p = some r) FU ?_ ?_))))
 ·exact fun a ha=>⟨g,0,20,ha.sb rfl,hB,(hS.sel [0,1] rfl),b⟩
 ·rintro v a t ⟨l,u,p,ha,aa,q,b⟩ b3 a0
  refine BE ?_ ha
  cases v with
  | zero=>exact Bg b
  | succ v =>
   obtain ⟨b4,aj⟩:∃ k,k = AL h v:=⟨_,rfl⟩
   rw [AL] at b; try rw [← aj] at b
   refine Ap fun _ a1=>An 3 rfl (A3 rfl b (fun _ b=>?_) (fun _ b=>?_))
   ·refine Au (a1 ?_)
    refine A0 (Ak fun _ a2=>(wp 4 rfl (bB b fun ab a3 b=>(A7 rfl Tryz.call210 (D8 t l c d u p (q.sel [1] rfl).base0 _ a3) rfl ?_))))
    rintro _ a4 ⟨rfl,a5,ak⟩
    refine ⟨_,rfl,?_⟩
    have a6:=q.mutB [1] rfl (M:=[Ab Az d c l]) rfl (M':=[Ab Az d c ab]) rfl aa aa.size a5 ak
    have a7:Sp (wE f) a4 [Ab Az d c ab,A6 f (Be [Ab Az d c g])]:=q.mut [1] [0] rfl (M:=[Ab Az d c l]) rfl (M':=[Ab Az d c ab]) rfl ak
    refine Ah (a2 (An 2 rfl (As (Aq 4 rfl ?_))))
    rw [aj] at b
    exact fun a ha=>a0 a _ v (AB v) ⟨ab,p,(Ag (p + 20)),ha.sb rfl,a6,(a7.sel [1,0] rfl),b⟩
   ·refine Bd (az ?_)
    refine Ak fun _ a8=>wp 4 rfl (bB b fun ac a9 b=>(A7 rfl Tryz.call210 (D8 t l c d u h (q.sel [1] rfl).base0 _ a9) rfl ?_))
    rintro _ ba ⟨rfl,bb,al⟩
    refine ⟨_,rfl,?_⟩
    have bc:=q.mutB [1] rfl (M:=[Ab Az d c l]) rfl (M':=[Ab Az d c ac]) rfl aa aa.size bb al
    have bd:Sp (wE f) ba [Ab Az d c ac,A6 f (Be [Ab Az d c g])]:=q.mut [1] [0] rfl (M:=[Ab Az d c l]) rfl (M':=[Ab Az d c ac]) rfl al
    refine Ah (a8 (A0 (AU (fun m a ai=>∃ (ad:Ae2) (i:Int),St 63 [(0,c),(1,(iv h)),(2,(.func (.func 115) #[] #[])),(6,(iv i))] a ∧ Bl (wE f) ai ∧ Sp (wE f) ai [A6 f (Be [Ab Az d c g]),Ab Az d c ad] ∧ AD h m ad i = some r) FU ?_ ?_)))
    ·exact fun a ha=>⟨ac,20,ha.sb rfl,bc,(bd.sel [1,0] rfl),b⟩
    ·rintro w a ai ⟨ad,i,ha,am,an,b⟩ b5 be
     refine BE ?_ ha
     cases w with
     | zero=>exact Bg b
     | succ w =>
      obtain ⟨ao,ap⟩:∃ k,k = AD h w:=⟨_,rfl⟩
      rw [AD] at b; try rw [← ap] at b
      refine Ap fun _ bf=>An 3 rfl (A3 rfl b (fun _ b=>?_) (fun _ b=>?_))
      ·refine Au (bf ?_)
       refine A0 (An 4 rfl (Ap fun _ bg=>(A0 (AU (fun m a x=>∃ (j:Ae2) (n:Int) (s:Int),St 63 [(0,c),(1,(iv h)),(2,(.func (.func 115) #[] #[])),(6,(iv i)),(7,(iv n)),(8,(iv s))] a ∧ Bl (wE f) x ∧ Sp (wE f) x [A6 f (Be [Ab Az d c g]),Ab Az d c j] ∧ Bn h i ao m j n s = some r) FU ?_ ?_))))
       ·exact fun a ha=>⟨ad,0,(Ag (2 * i)),ha.sb rfl,am,(an.sel [0,1] rfl),b⟩
       ·rintro y a x ⟨j,n,s,ha,z,o,b⟩ b6 bh
        refine BE ?_ ha
        cases y with
        | zero=>exact Bg b
        | succ y =>
         obtain ⟨b7,aq⟩:∃ k,k = Bn h i ao y:=⟨_,rfl⟩
         rw [Bn] at b; try rw [← aq] at b
         refine Ap fun _ bi=>An 3 rfl (A3 rfl b (fun _ b=>?_) (fun _ b=>?_))
         ·refine Au (bi ?_)
          refine A0 (Ak fun _ bj=>(wp 7 rfl (bB b fun ae bk b=>(A7 rfl Tryz.call211 (DX x j c d n (Ag (n + i)) s (o.sel [1] rfl).base0 _ bk) rfl ?_))))
          rintro _ bl ⟨rfl,bm,ar⟩
          refine ⟨_,rfl,?_⟩
          have bn:=o.mutB [1] rfl (M:=[Ab Az d c j]) rfl (M':=[Ab Az d c ae]) rfl z z.size bm ar
          have bo:Sp (wE f) bl [Ab Az d c ae,A6 f (Be [Ab Az d c g])]:=o.mut [1] [0] rfl (M:=[Ab Az d c j]) rfl (M':=[Ab Az d c ae]) rfl ar
          refine Ah (bj (An 2 rfl (As (Aq 5 rfl ?_))))
          rw [aq] at b
          exact fun a ha=>bh a _ y (AB y) ⟨ae,s,(Ag (s + (Ag (2 * i)))),ha.sb rfl,bn,(bo.sel [1,0] rfl),b⟩
         ·refine Bd (bg ?_)
          refine Ap fun bp bq=>?_
          obtain ⟨br,bs,b⟩:=Cj b
          have au:∀ (af:Ae2) (ag:Ae) (_:br af = some r) (_:Bl (wE f) ag) (_:Sp (wE f) ag [A6 f (Be [Ab Az d c g]),Ab Az d c af]),∀ a,St 63 [(0,c),(1,(iv h)),(2,(.func (.func 115) #[] #[])),(6,(iv i))] a → bp a ag:=by
           intro af ag b bt bu
           subst bs
           refine bq (As (Aq 3 rfl ?_))
           rw [ap] at b
           exact fun a ha=>be a _ w (AB w) ⟨af,(Ag (i * 2)),ha.sb rfl,bt,(bu.sel [0,1] rfl),b⟩
          refine An 4 rfl (An 3 rfl (A3 rfl b (fun _ b=>?_) (fun _ b=>?_)))
          ·refine As ?_
           refine wp 5 rfl (bB b fun ah bv b=>(A7 rfl Tryz.call211 (DX x j c d n (Ag (n + i)) h (o.sel [1] rfl).base0 _ bv) rfl ?_))
           rintro _ bw ⟨rfl,bx,av⟩
           refine ⟨_,rfl,?_⟩
           have bz:=o.mutB [1] rfl (M:=[Ab Az d c j]) rfl (M':=[Ab Az d c ah]) rfl z z.size bx av
           have b0:Sp (wE f) bw [Ab Az d c ah,A6 f (Be [Ab Az d c g])]:=o.mut [1] [0] rfl (M:=[Ab Az d c j]) rfl (M':=[Ab Az d c ah]) rfl av
           refine Ah ?_
           exact jx (au ah _ b bz (b0.sel [1,0] rfl)) rfl
          ·refine Au ?_
           exact jx (au j _ b z (o.sel [0,1] rfl)) rfl
      ·refine Bd ?_
       obtain rfl:=Option.some.inj b
       exact LW (vs:=[]) hQn rfl trivial ⟨rfl,am,an.sel [0,1] rfl⟩
theorem FK (a:Ae) (d:Ae2) (b:Ac) (c:Al) (l:Sep 0 a [Ab Az c b d]) (r:Ae2) (f:B6 d = some r) :
  A1 114 [b,(.func (.func 115) #[] #[])] a fun e w'=>e = .returned (.tuple #[]) ∧ Below 0 (wE a) w' ∧ Sep 0 w' [A6 a (Be [Ab Az c b d]),Ab Az c b r]:=by
 refine Ij Tryz.func114 rfl Tryz.ntmps114 rfl rfl fun Q hQn s t=>?_
 have j:Bl (wE a) a:=Ej a
 have g:Sp (wE a) a [A6 a (Be [Ab Az c b d]),Ab Az c b d]:=l.rest
 unfold B6 at f
 refine As (wp 2 rfl (BX (g.own_ro (i:=1) rfl) Tryz.underlying72 rfl (wp 1 rfl (bB f fun h m f=>(A7 rfl Tryz.call167 (Hd a d b c (List.length d:Int) (g.sel [1] rfl).base0 _ m) rfl ?_)))))
 rintro _ n ⟨rfl,o,k⟩
 refine ⟨_,rfl,?_⟩
 have p:=g.mutB [1] rfl (M:=[Ab Az c b d]) rfl (M':=[Ab Az c b h]) rfl j j.size o k
 have q:Sp (wE a) n [Ab Az c b h,A6 a (Be [Ab Az c b d])]:=g.mut [1] [0] rfl (M:=[Ab Az c b d]) rfl (M':=[Ab Az c b h]) rfl k
 refine Ah ?_
 obtain rfl:=Option.some.inj f
 exact LW (vs:=[]) hQn rfl trivial ⟨rfl,p,q.sel [1,0] rfl⟩
theorem On (g:Ae) (f:(Ae1 × Ae1 × Int × Ae1 × Ae2 × Ae4)) (j:Nat) (p:Al) (x1:(List Ai)) (k:(List Int)) (m:Ac) (n:Al) (ei:Sep 0 g [A2 AR 76 p j f,Ab Ar n m k]) (r:((List Ai) × (Ae1 × Ae1 × Int × Ae1 × Ae2 × Ae4))) (c:CG f x1 k = some r) :
  A1 85 [(.pointer (some ⟨j,0,none⟩)),(.string (B1 x1)),m] g fun e w'=>∃ (H_0:Al),e = .returned (.string (B1 r.1)) ∧ Below 0 (wE g) w' ∧ Sep 0 w' [A6 g (Be [A2 AR 76 p j f,Ab Ar n m k]),A2 AR 76 H_0 j r.2]:=by
 refine G4 Tryz.func85 rfl Tryz.ntmps85 rfl rfl fun Q hQ d=>?_
 have hB:Bl (wE g) g:=Ej g
 have hS:Sp (wE g) g [A6 g (Be [A2 AR 76 p j f,Ab Ar n m k]),A2 AR 76 p j f,Ab Ar n m k]:=ei.rest
 unfold CG at c
 refine An 1 rfl (Ap fun _ ej=>(An 1 rfl (A0 (Ak fun _ ek=>(AP rfl rfl rfl (Aq 1 rfl (ek (A3 rfl c (fun _ c=>?_) (fun _ c=>?_)))))))))
 ·refine Ap fun K6 em=>?_
  obtain ⟨en,eo,c⟩:=Nn c
  have be:∀ (ag:(Ae1 × Ae1 × Int × Ae1 × Ae2 × Ae4)) (ao:Ae1) (bf:Al) (ak:Ac) (b5:Al) (ap:Ae) (_:en ag ao = some r) (_:Bl (wE g) ap) (_:Sp (wE g) ap [A6 g (Be [A2 AR 76 p j f,Ab Ar n m k]),A2 AR 76 bf j ag,Ab BN b5 ak ao]),∀ a,St 93 [(0,(.pointer (some ⟨j,0,none⟩))),(7,ak)] a → K6 a ap:=by
   intro ag ao bf ak b5 ap c ep b6
   subst eo
   refine em (Ap fun _ eq=>(Ak fun _ er=>(wp 1 rfl (bB c fun kh es c=>(Bu rfl Tryz.call44 ep b6 (P9 ap ao ak (b6.own_ro (i:=2) rfl) _ es) rfl fun ki _ b7 b8=>(Aq 1 rfl (er (A3 rfl c (fun _ c=>?_) (fun _ c=>?_)))))))))
   ·refine An 1 rfl ?_
    refine Ay (rt hQ rfl rfl (by cases c; exact ⟨bf,rfl,b7,b8.sel [0,1] rfl⟩))
   ·refine Au (eq ?_)
    refine Ak fun _ et=>wp 2 rfl (BC rfl rfl (Bp Ui rfl ?_))
    obtain ⟨eu,kj,ev,kk,ew,ex,ey,kl,ez,km,bg⟩:=Ir (b8.sel [1,0,2] rfl)
    refine B9 (i:=0) (vs:=[ak]) (cs':=[eu,ev,(iv ag.2.2.1),ak,ey,ez]) Ry rfl rfl (Ce (bg.own_ro (i:=7) rfl).one) rfl b7 bg rfl rfl ⟨(bg.own_ro (i:=7) rfl).one,trivial⟩ rfl fun e0 _ e1 e2=>Ah (et (An 1 rfl (Ay ?_)))
    obtain ⟨e3,e4⟩:∃ F,Sp (wE g) e0 [A2 AR 76 F j (ag.1,ag.2.1,ag.2.2.1,ao,ag.2.2.2.2.1,ag.2.2.2.2.2),Ab BN ex ew ag.2.2.2.1,A6 g (Be [A2 AR 76 p j f,Ab Ar n m k])]:=⟨_,Dt (e2.sel [0,1,2,7,4,5,3,6] rfl)⟩
    refine rt hQ rfl rfl (by cases c; exact ⟨e3,rfl,e1,e4.sel [2,0] rfl⟩)
  obtain ⟨kn,ko,kp,kq,kr,ks,kt,ku,kv,kw,e5⟩:=Ir (hS.sel [1,0,2] rfl)
  refine AQ B4 [] hB e5 fun ac _ aw aj=>?_
  have t:=KeepX.refl ac []
  refine Ax 1 rfl d t (Ad 2 rfl d t (B8 rfl rfl (Ad 3 rfl d t (C9 Ui rfl (Ad 4 rfl d t (CQ 0 Ry rfl aj rfl (by simp) (Ax 6 rfl d t (bB c fun u e6 c=>(Ad 7 rfl d t (CA (e:=Ar) (i:=7) Tryz.underlying36 rfl rfl rfl aj rfl e6 ?_))))))))))
  rintro kx _ rfl e7 ky
  refine Ad 8 rfl d t (BL A4 rfl (fun w hw=>e7.keepS (fun b q=>(hw.blk b (((aj.get (i:=7) rfl).2.1 b q).2) (by simp))) (fun _ h=>h)) rfl (Ax 9 rfl d t (bB c fun v e8 c=>(Ad 10 rfl d t (CA (e:=Ar) (i:=7) Tryz.underlying36 rfl rfl rfl aj rfl e8 ?_)))))
  rintro kz _ rfl e9 k0
  refine Ad 11 rfl d t (BL A4 rfl (fun w hw=>e9.keepS (fun b q=>(hw.blk b (((aj.get (i:=7) rfl).2.1 b q).2) (by simp))) (fun _ h=>h)) rfl (Ad 12 rfl d t (HR (zs:=[(iv 0),(iv 0)]) (out:=[(iv u),(iv v)]) (vs:=[(iv u),(iv v)]) (css:=[[(iv u)],[(iv v)]]) GL VG rfl rfl rfl rfl rfl (C0 (is:=[0,13]) (by kernel_rfl) rfl (Bb.2 ⟨⟨_,rfl,?_⟩,Bb.2 ⟨⟨_,rfl,?_⟩,fun _ h=>by cases h⟩⟩)))))
  ·refine Bc (vs:=[]) (l:=[]) GH Tryz.underlying31 rfl rfl rfl rfl rfl rfl (Bf ac) (Sep.nil _ _) fun k1 fa b9 ax _ ca=>?_
   have bh:=tm aw ax
   have bi:=aj.join ax ca aw.size
   have ay:∀ b ∈ fa,ac.heap.size ≤ b:=fun b hb=>Aw (Nat.le_refl ac.heap.size) ((ca.1 _ (List.mem_cons_self ..)).2.1 b hb).1
   have bj:=t.ext ax
   have cb:=Aw (Nat.le_refl ac.heap.size) ax.size
   refine Ah (Am bj (C0 (is:=[5,13]) (by kernel_rfl) rfl (Bb.2 ⟨⟨_,rfl,?_⟩,Bb.2 ⟨⟨_,rfl,?_⟩,fun _ h=>by cases h⟩⟩)))
   ·refine bB c fun k2 fb c=>?_
    refine AF (i:=0) (S:=(· < b9.heap.size)) GH Tryz.underlying31 rfl rfl rfl bh bi rfl (bi.own_ro (i:=4) rfl) fb fun k3 fc fd bk cc fe=>?_
    have cd:=bj.wr' bk.1 bk.2.1 (fun b hlt hb=>absurd hlt (AK.2 (ay b hb)))
    have ff:∀ b ∈ fc,ac.heap.size ≤ b:=fun b hb=>(bk.2.2 b hb).elim (ay b) fun h=>Aw cb h
    refine Ah (Am cd (Av 13 rfl (Bc (vs:=[(.agg #[(iv u),(iv v)])]) (l:=[(u,v)]) GH Tryz.underlying31 rfl rfl rfl rfl rfl rfl (Bf fd) (Sep.nil _ _) fun fg fh fi bl _ fj=>?_)))
    have fk:=tm cc bl
    have ce:=fe.join bl fj cc.size
    have cf:=cd.ext bl
    refine Ah (Am cf (Av 14 rfl (bB c fun cg fl c=>(AF (i:=1) (S:=(· < fi.heap.size)) GH Tryz.underlying31 rfl rfl rfl fk ce rfl (ce.own_ro (i:=0) rfl) fl fun ch ci fm cj fn fo=>?_))))
    have ck:=cf.wr' cj.1 cj.2.1 (fun b hlt hb=>absurd hlt (AK.2 (ff b hb)))
    refine Ah (Am ck (Ad 15 rfl d ck (AC rfl rfl (Ba ?_))))
    obtain ⟨fp,fq⟩:∃ F,Sp (wE g) fm [A2 AR 76 F j f,Ab BN fh fg [(u,v)],Ab BN ci ch cg,A6 g (Be [A2 AR 76 p j f,Ab Ar n m k]),Ab Ar n m k]:=⟨_,Dt (fo.sel [2,3,4,5,6,7,0,1,8,9] rfl)⟩
    exact jx (be f cg fp ch ci _ c fn (fq.sel [3,0,2] rfl)) rfl
   ·refine Bc (vs:=[(.agg #[(iv u),(iv v)])]) (l:=[(u,v)]) GH Tryz.underlying31 rfl rfl rfl rfl rfl rfl (Bf b9) (Sep.nil _ _) fun fr fs ft az _ fu=>?_
    have fv:=tm bh az
    have cl:=bi.join az fu bh.size
    have cm:=bj.ext az
    have fw:=Aw cb az.size
    refine Ah (Am cm (Av 5 rfl (bB c fun k4 fx c=>(AF (i:=1) (S:=(· < ft.heap.size)) GH Tryz.underlying31 rfl rfl rfl fv cl rfl (cl.own_ro (i:=5) rfl) fx fun k5 fy fz bm f0 cn=>?_))))
    have co:=cm.wr' bm.1 bm.2.1 (fun b hlt hb=>absurd hlt (AK.2 (ay b hb)))
    have f1:∀ b ∈ fy,ac.heap.size ≤ b:=fun b hb=>(bm.2.2 b hb).elim (ay b) fun h=>Aw fw h
    refine Ah (Am co (Av 14 rfl (bB c fun cp f2 c=>(AF (i:=1) (S:=(· < fz.heap.size)) GH Tryz.underlying31 rfl rfl rfl f0 cn rfl (cn.own_ro (i:=0) rfl) f2 fun cq cr f3 cs f4 f5=>?_))))
    have ct:=co.wr' cs.1 cs.2.1 (fun b hlt hb=>absurd hlt (AK.2 (f1 b hb)))
    refine Ah (Am ct (Ad 15 rfl d ct (AC rfl rfl (Ba ?_))))
    obtain ⟨f6,f7⟩:∃ F,Sp (wE g) f3 [A2 AR 76 F j f,Ab BN fs fr [(u,v)],Ab BN cr cq cp,A6 g (Be [A2 AR 76 p j f,Ab Ar n m k]),Ab Ar n m k]:=⟨_,Dt (f5.sel [2,3,4,5,6,7,0,1,8,9] rfl)⟩
    exact jx (be f cp f6 cq cr _ c f4 (f7.sel [3,0,2] rfl)) rfl
  ·refine Bc (vs:=[(.agg #[(iv u),(iv v)])]) (l:=[(u,v)]) GH Tryz.underlying31 rfl rfl rfl rfl rfl rfl (Bf ac) (Sep.nil _ _) fun f8 f9 ga a0 _ gb=>?_
   have cu:=tm aw a0
   have gc:=aj.join a0 gb aw.size
   have cv:=t.ext a0
   have cw:=Aw (Nat.le_refl ac.heap.size) a0.size
   refine Ah (Am cv (Av 0 rfl (Bc (vs:=[]) (l:=[]) GH Tryz.underlying31 rfl rfl rfl rfl rfl rfl (Bf ga) (Sep.nil _ _) fun k6 gd ge a1 _ cx=>?_)))
   have gf:=tm cu a1
   have cy:=gc.join a1 cx cu.size
   have cz:∀ b ∈ gd,ac.heap.size ≤ b:=fun b hb=>Aw cw ((cx.1 _ (List.mem_cons_self ..)).2.1 b hb).1
   have c0:=cv.ext a1
   have gg:=Aw cw a1.size
   refine Ah (Am c0 (Av 5 rfl (bB c fun k7 gh c=>(AF (i:=0) (S:=(· < ge.heap.size)) GH Tryz.underlying31 rfl rfl rfl gf cy rfl (cy.own_ro (i:=5) rfl) gh fun k8 gi gj bn gk c1=>?_))))
   have c2:=c0.wr' bn.1 bn.2.1 (fun b hlt hb=>absurd hlt (AK.2 (cz b hb)))
   have gl:∀ b ∈ gi,ac.heap.size ≤ b:=fun b hb=>(bn.2.2 b hb).elim (cz b) fun h=>Aw gg h
   refine Ah (Am c2 (Av 14 rfl (bB c fun c3 gm c=>(AF (i:=0) (S:=(· < gj.heap.size)) GH Tryz.underlying31 rfl rfl rfl gk c1 rfl (c1.own_ro (i:=1) rfl) gm fun c4 c5 gn c6 go gp=>?_))))
   have c7:=c2.wr' c6.1 c6.2.1 (fun b hlt hb=>absurd hlt (AK.2 (gl b hb)))
   refine Ah (Am c7 (Ad 15 rfl d c7 (AC rfl rfl (Ba ?_))))
   obtain ⟨gq,gr⟩:∃ F,Sp (wE g) gn [A2 AR 76 F j f,Ab BN c5 c4 c3,Ab BN f9 f8 [(u,v)],A6 g (Be [A2 AR 76 p j f,Ab Ar n m k]),Ab Ar n m k]:=⟨_,Dt (gp.sel [2,3,4,5,6,7,0,1,8,9] rfl)⟩
   exact jx (be f c3 gq c4 c5 _ c go (gr.sel [3,0,1] rfl)) rfl
 ·refine Ak fun _ gs=>?_
  refine AP rfl rfl rfl (Aq 1 rfl (gs (A3 rfl c (fun _ c=>?_) (fun _ c=>?_))))
  ·refine Ap fun gt gu=>?_
   obtain ⟨gv,gw,c⟩:=Nn c
   have bo:∀ (ad:(Ae1 × Ae1 × Int × Ae1 × Ae2 × Ae4)) (al:Ae2) (a2:Al) (x:Ac) (ai:Al) (aq:Ae) (_:gv ad al = some r) (_:Bl (wE g) aq) (_:Sp (wE g) aq [A6 g (Be [A2 AR 76 p j f,Ab Ar n m k]),A2 AR 76 a2 j ad,Ab Az ai x al]),∀ a,St 93 [(0,(.pointer (some ⟨j,0,none⟩))),(8,x)] a → gt a aq:=by
    intro ad al a2 x ai aq c c8 bp
    subst gw
    refine gu (Ak fun _ gx=>(wp 1 rfl (bB c fun ar gy c=>(A7 rfl Tryz.call114 (FK aq al x ai (bp.sel [2] rfl).base0 _ gy) rfl ?_))))
    rintro _ c9 ⟨rfl,gz,da⟩
    refine ⟨_,rfl,?_⟩
    have g0:=bp.mutB [2] rfl (M:=[Ab Az ai x al]) rfl (M':=[Ab Az ai x ar]) rfl c8 c8.size gz da
    have db:Sp (wE g) c9 [Ab Az ai x ar,A6 g (Be [A2 AR 76 p j f,Ab Ar n m k]),A2 AR 76 a2 j ad]:=bp.mut [2] [0,1] rfl (M:=[Ab Az ai x al]) rfl (M':=[Ab Az ai x ar]) rfl da
    refine Ah (gx (Ap fun _ g1=>(Ak fun _ g2=>(wp 1 rfl (bB c fun k9 g3 c=>(Bu rfl Tryz.call116 g0 db (Nt c9 ar x (db.own_ro (i:=0) rfl) _ g3) rfl fun la _ dc dd=>(Aq 1 rfl (g2 (A3 rfl c (fun _ c=>?_) (fun _ c=>?_))))))))))
    ·refine An 1 rfl ?_
     refine Ay (rt hQ rfl rfl (by cases c; exact ⟨a2,rfl,dc,dd.sel [1,2] rfl⟩))
    ·refine Au (g1 ?_)
     refine Ak fun _ g4=>wp 2 rfl (BC rfl rfl (Bp Uh rfl ?_))
     obtain ⟨g5,lb,g6,lc,g7,ld,g8,g9,ha,le,bq⟩:=Ir (dd.sel [2,0,1] rfl)
     refine B9 (i:=0) (vs:=[x]) (cs':=[g5,g6,(iv ad.2.2.1),g7,x,ha]) Rw rfl rfl (Ce (bq.own_ro (i:=6) rfl).one) rfl dc bq rfl rfl ⟨(bq.own_ro (i:=6) rfl).one,trivial⟩ rfl fun hc _ hd he=>Ah (g4 (An 1 rfl (Ay ?_)))
     obtain ⟨hf,hg⟩:∃ F,Sp (wE g) hc [A2 AR 76 F j (ad.1,ad.2.1,ad.2.2.1,ad.2.2.2.1,ar,ad.2.2.2.2.2),Ab Az g9 g8 ad.2.2.2.2.1,A6 g (Be [A2 AR 76 p j f,Ab Ar n m k])]:=⟨_,Dt (he.sel [0,1,2,3,6,5,4,7] rfl)⟩
     refine rt hQ rfl rfl (by cases c; exact ⟨hf,rfl,hd,hg.sel [2,0] rfl⟩)
   obtain ⟨lf,lg,lh,li,lj,lk,ll,lm,ln,lo,hh⟩:=Ir (hS.sel [1,0,2] rfl)
   refine AQ B4 [] hB hh fun ae _ a3 af=>?_
   have o:=KeepX.refl ae []
   refine Ax 1 rfl d o (Ad 2 rfl d o (B8 rfl rfl (Ad 3 rfl d o (C9 Uh rfl (Ad 4 rfl d o (CQ 0 Rw rfl af rfl (by simp) (Ax 6 rfl d o (bB c fun y hi c=>(Ad 7 rfl d o (CA (e:=Ar) (i:=7) Tryz.underlying36 rfl rfl rfl af rfl hi ?_))))))))))
   rintro lp _ rfl hj lq
   refine Ad 8 rfl d o (BL A4 rfl (fun w hw=>hj.keepS (fun b q=>(hw.blk b (((af.get (i:=7) rfl).2.1 b q).2) (by simp))) (fun _ h=>h)) rfl (Ax 9 rfl d o (bB c fun z hk c=>(Ad 10 rfl d o (CA (e:=Ar) (i:=7) Tryz.underlying36 rfl rfl rfl af rfl hk ?_)))))
   rintro lr _ rfl hl ls
   refine Ad 11 rfl d o (BL A4 rfl (fun w hw=>hl.keepS (fun b q=>(hw.blk b (((af.get (i:=7) rfl).2.1 b q).2) (by simp))) (fun _ h=>h)) rfl (Ax 12 rfl d o (bB c fun aa hm c=>(Ad 13 rfl d o (CA (e:=Ar) (i:=7) Tryz.underlying36 rfl rfl rfl af rfl hm ?_)))))
   rintro lt _ rfl hn lu
   refine Ad 14 rfl d o (BL A4 rfl (fun w hw=>hn.keepS (fun b q=>(hw.blk b (((af.get (i:=7) rfl).2.1 b q).2) (by simp))) (fun _ h=>h)) rfl (Ax 15 rfl d o (bB c fun ab ho c=>(Ad 16 rfl d o (CA (e:=Ar) (i:=7) Tryz.underlying36 rfl rfl rfl af rfl ho ?_)))))
   rintro lv _ rfl hp lw
   refine Ad 17 rfl d o (BL A4 rfl (fun w hw=>hp.keepS (fun b q=>(hw.blk b (((af.get (i:=7) rfl).2.1 b q).2) (by simp))) (fun _ h=>h)) rfl (Ad 18 rfl d o (HR (zs:=[(iv 0),(iv 0),(iv 0),(iv 0)]) (out:=[(iv y),(iv z),(iv aa),(iv ab)]) (vs:=[(iv y),(iv z),(iv aa),(iv ab)]) (css:=[[(iv y)],[(iv z)],[(iv aa)],[(iv ab)]]) BD Ze rfl rfl rfl rfl rfl (C0 (is:=[0,19]) (by kernel_rfl) rfl (Bb.2 ⟨⟨_,rfl,?_⟩,Bb.2 ⟨⟨_,rfl,?_⟩,fun _ h=>by cases h⟩⟩)))))
   ·refine Bc (vs:=[]) (l:=[]) Cs Tryz.underlying72 rfl rfl rfl rfl rfl rfl (Bf ae) (Sep.nil _ _) fun lx hq de a4 _ df=>?_
    have br:=tm a3 a4
    have bs:=af.join a4 df a3.size
    have a5:∀ b ∈ hq,ae.heap.size ≤ b:=fun b hb=>Aw (Nat.le_refl ae.heap.size) ((df.1 _ (List.mem_cons_self ..)).2.1 b hb).1
    have bt:=o.ext a4
    have dg:=Aw (Nat.le_refl ae.heap.size) a4.size
    refine Ah (Am bt (C0 (is:=[5,19]) (by kernel_rfl) rfl (Bb.2 ⟨⟨_,rfl,?_⟩,Bb.2 ⟨⟨_,rfl,?_⟩,fun _ h=>by cases h⟩⟩)))
    ·refine bB c fun ly hr c=>?_
     refine AF (i:=0) (S:=(· < de.heap.size)) Cs Tryz.underlying72 rfl rfl rfl br bs rfl (bs.own_ro (i:=5) rfl) hr fun lz hs ht bu dh hu=>?_
     have di:=bt.wr' bu.1 bu.2.1 (fun b hlt hb=>absurd hlt (AK.2 (a5 b hb)))
     have hv:∀ b ∈ hs,ae.heap.size ≤ b:=fun b hb=>(bu.2.2 b hb).elim (a5 b) fun h=>Aw dg h
     refine Ah (Am di (Av 19 rfl (Bc (vs:=[(.agg #[(iv y),(iv z),(iv aa),(iv ab)])]) (l:=[(y,z,aa,ab)]) Cs Tryz.underlying72 rfl rfl rfl rfl rfl rfl (Bf ht) (Sep.nil _ _) fun hx hy hz bv _ h1=>?_)))
     have h2:=tm dh bv
     have dj:=hu.join bv h1 dh.size
     have dk:=di.ext bv
     refine Ah (Am dk (Av 20 rfl (bB c fun dl h3 c=>(AF (i:=1) (S:=(· < hz.heap.size)) Cs Tryz.underlying72 rfl rfl rfl h2 dj rfl (dj.own_ro (i:=0) rfl) h3 fun dm dn h4 dp h5 h6=>?_))))
     have dq:=dk.wr' dp.1 dp.2.1 (fun b hlt hb=>absurd hlt (AK.2 (hv b hb)))
     refine Ah (Am dq (Ad 21 rfl d dq (AC rfl rfl (Ba ?_))))
     obtain ⟨h7,h8⟩:∃ F,Sp (wE g) h4 [A2 AR 76 F j f,Ab Az hy hx [(y,z,aa,ab)],Ab Az dn dm dl,A6 g (Be [A2 AR 76 p j f,Ab Ar n m k]),Ab Ar n m k]:=⟨_,Dt (h6.sel [2,3,4,5,6,7,0,1,8,9] rfl)⟩
     exact jx (bo f dl h7 dm dn _ c h5 (h8.sel [3,0,2] rfl)) rfl
    ·refine Bc (vs:=[(.agg #[(iv y),(iv z),(iv aa),(iv ab)])]) (l:=[(y,z,aa,ab)]) Cs Tryz.underlying72 rfl rfl rfl rfl rfl rfl (Bf de) (Sep.nil _ _) fun h9 ia ib a6 _ ic=>?_
     have ie:=tm br a6
     have dr:=bs.join a6 ic br.size
     have ds:=bt.ext a6
     have ig:=Aw dg a6.size
     refine Ah (Am ds (Av 5 rfl (bB c fun l0 ih c=>(AF (i:=1) (S:=(· < ib.heap.size)) Cs Tryz.underlying72 rfl rfl rfl ie dr rfl (dr.own_ro (i:=6) rfl) ih fun l1 ii ij bw ik dt=>?_))))
     have du:=ds.wr' bw.1 bw.2.1 (fun b hlt hb=>absurd hlt (AK.2 (a5 b hb)))
     have il:∀ b ∈ ii,ae.heap.size ≤ b:=fun b hb=>(bw.2.2 b hb).elim (a5 b) fun h=>Aw ig h
     refine Ah (Am du (Av 20 rfl (bB c fun dv im c=>(AF (i:=1) (S:=(· < ij.heap.size)) Cs Tryz.underlying72 rfl rfl rfl ik dt rfl (dt.own_ro (i:=0) rfl) im fun dw dx io dy ip iq=>?_))))
     have dz:=du.wr' dy.1 dy.2.1 (fun b hlt hb=>absurd hlt (AK.2 (il b hb)))
     refine Ah (Am dz (Ad 21 rfl d dz (AC rfl rfl (Ba ?_))))
     obtain ⟨ir,it⟩:∃ F,Sp (wE g) io [A2 AR 76 F j f,Ab Az ia h9 [(y,z,aa,ab)],Ab Az dx dw dv,A6 g (Be [A2 AR 76 p j f,Ab Ar n m k]),Ab Ar n m k]:=⟨_,Dt (iq.sel [2,3,4,5,6,7,0,1,8,9] rfl)⟩
     exact jx (bo f dv ir dw dx _ c ip (it.sel [3,0,2] rfl)) rfl
   ·refine Bc (vs:=[(.agg #[(iv y),(iv z),(iv aa),(iv ab)])]) (l:=[(y,z,aa,ab)]) Cs Tryz.underlying72 rfl rfl rfl rfl rfl rfl (Bf ae) (Sep.nil _ _) fun iu iw ix a7 _ iy=>?_
    have d0:=tm a3 a7
    have iz:=af.join a7 iy a3.size
    have d1:=o.ext a7
    have d2:=Aw (Nat.le_refl ae.heap.size) a7.size
    refine Ah (Am d1 (Av 0 rfl (Bc (vs:=[]) (l:=[]) Cs Tryz.underlying72 rfl rfl rfl rfl rfl rfl (Bf ix) (Sep.nil _ _) fun l2 i0 i1 a8 _ d3=>?_)))
    have i2:=tm d0 a8
    have d4:=iz.join a8 d3 d0.size
    have d5:∀ b ∈ i0,ae.heap.size ≤ b:=fun b hb=>Aw d2 ((d3.1 _ (List.mem_cons_self ..)).2.1 b hb).1
    have d6:=d1.ext a8
    have i3:=Aw d2 a8.size
    refine Ah (Am d6 (Av 5 rfl (bB c fun l3 i4 c=>(AF (i:=0) (S:=(· < i1.heap.size)) Cs Tryz.underlying72 rfl rfl rfl i2 d4 rfl (d4.own_ro (i:=6) rfl) i4 fun l4 i5 i6 bx i7 d7=>?_))))
    have d8:=d6.wr' bx.1 bx.2.1 (fun b hlt hb=>absurd hlt (AK.2 (d5 b hb)))
    have i8:∀ b ∈ i5,ae.heap.size ≤ b:=fun b hb=>(bx.2.2 b hb).elim (d5 b) fun h=>Aw i3 h
    refine Ah (Am d8 (Av 20 rfl (bB c fun d9 i9 c=>(AF (i:=0) (S:=(· < i6.heap.size)) Cs Tryz.underlying72 rfl rfl rfl i7 d7 rfl (d7.own_ro (i:=1) rfl) i9 fun ea eb ja ec jb jc=>?_))))
    have ed:=d8.wr' ec.1 ec.2.1 (fun b hlt hb=>absurd hlt (AK.2 (i8 b hb)))
    refine Ah (Am ed (Ad 21 rfl d ed (AC rfl rfl (Ba ?_))))
    obtain ⟨jd,je⟩:∃ F,Sp (wE g) ja [A2 AR 76 F j f,Ab Az eb ea d9,Ab Az iw iu [(y,z,aa,ab)],A6 g (Be [A2 AR 76 p j f,Ab Ar n m k]),Ab Ar n m k]:=⟨_,Dt (jc.sel [2,3,4,5,6,7,0,1,8,9] rfl)⟩
    exact jx (bo f d9 jd ea eb _ c jb (je.sel [3,0,1] rfl)) rfl
  ·refine Au (ej ?_)
   refine Ap fun _ jf=>?_
   obtain ⟨l5,l6,l7,l8,l9,ma,mb,mc,jg,md,jh⟩:=Ir (hS.sel [1,0,2] rfl)
   refine AQ B4 [] hB jh fun ee _ ji ah=>?_
   have s:=KeepX.refl ee []
   refine Ax 0 rfl d s (Ad 1 rfl d s (B8 rfl rfl (Ad 2 rfl d s (C9 Ug rfl (Ad 3 rfl d s (CQ 0 Rx rfl ah rfl (by simp) (Ax 4 rfl d s (bB c fun a9 jj c=>(Ad 5 rfl d s (CA (e:=Ar) (i:=7) Tryz.underlying36 rfl rfl rfl ah rfl jj ?_))))))))))
   rintro me _ rfl jk mf
   refine Ad 6 rfl d s (BL A4 rfl (fun w hw=>jk.keepS (fun b q=>(hw.blk b (((ah.get (i:=7) rfl).2.1 b q).2) (by simp))) (fun _ h=>h)) rfl (Ax 7 rfl d s (bB c fun ba jl c=>(Ad 8 rfl d s (CA (e:=Ar) (i:=7) Tryz.underlying36 rfl rfl rfl ah rfl jl ?_)))))
   rintro mg _ rfl jm mh
   refine Ad 9 rfl d s (BL A4 rfl (fun w hw=>jm.keepS (fun b q=>(hw.blk b (((ah.get (i:=7) rfl).2.1 b q).2) (by simp))) (fun _ h=>h)) rfl (Ax 10 rfl d s (bB c fun bb jn c=>(Ad 11 rfl d s (CA (e:=Ar) (i:=7) Tryz.underlying36 rfl rfl rfl ah rfl jn ?_)))))
   rintro mi _ rfl jo mj
   refine Ad 12 rfl d s (BL A4 rfl (fun w hw=>jo.keepS (fun b q=>(hw.blk b (((ah.get (i:=7) rfl).2.1 b q).2) (by simp))) (fun _ h=>h)) rfl (Ad 13 rfl d s (HR (zs:=[(iv 0),(iv 0),(iv 0)]) (out:=[(iv a9),(iv ba),(iv bb)]) (vs:=[(iv a9),(iv ba),(iv bb)]) (css:=[[(iv a9)],[(iv ba)],[(iv bb)]]) L2 VF rfl rfl rfl rfl rfl (Av 14 rfl (bB c fun au jp c=>(E6 rfl Tryz.call117 ji ah (RM ee f.2.2.2.2.2 jg (ah.own_ro (i:=5) rfl) (a9,ba,bb) _ jp) rfl fun bz jq jr js _ ef jt=>?_))))))
   have am:=s.ext js
   refine Ah (Am am (Ax 15 rfl d am (Ad 16 rfl d am (AV rfl rfl rfl (Ad 17 rfl d am (AV rfl rfl rfl (Ad 18 rfl d am (AC rfl rfl (Ad 19 rfl d am (AC rfl rfl (Ba (jf (Ap fun ju jv=>?_)))))))))))))
   obtain ⟨jw,eg⟩:∃ F,Sp (wE g) jr [A2 AR 76 F j f,Ab Ch jq bz au.1,A6 g (Be [A2 AR 76 p j f,Ab Ar n m k]),Ab Ar n m k]:=⟨_,Dt (jt.sel [1,2,3,4,5,6,0,7,8] rfl)⟩
   obtain ⟨jy,jz,c⟩:=Cj c
   have eh:∀ (b1:(Ae1 × Ae1 × Int × Ae1 × Ae2 × Ae4)) (b2:Al) (av:Ae) (_:jy b1 = some r) (_:Bl (wE g) av) (_:Sp (wE g) av [A6 g (Be [A2 AR 76 p j f,Ab Ar n m k]),A2 AR 76 b2 j b1]),∀ a,St 93 [(10,(.bool au.2))] a → ju a av:=by
    intro b1 b2 av c j0 j1
    subst jz
    refine jv (Ak fun _ j2=>(wp 1 rfl (bB c fun mk j3 c=>(Bu rfl Tryz.call118 j0 j1 (P6 av au.2 _ j3) rfl fun ml _ j4 j5=>(Aq 1 rfl (j2 (Ay (rt hQ rfl rfl (by cases c; exact ⟨b2,rfl,j4,j5.sel [0,1] rfl⟩)))))))))
   refine An 1 rfl (A3 rfl c (fun _ c=>?_) (fun _ c=>?_))
   ·refine As ?_
    refine wp 2 rfl (BC rfl rfl (Bp Ug rfl ?_))
    obtain ⟨j6,mm,j7,mn,j8,mo,j9,mp,ka,kb,b3⟩:=Ir (eg.sel [0,1,2,3] rfl)
    refine B9 (i:=0) (vs:=[bz]) (cs':=[j6,j7,(iv f.2.2.1),j8,j9,bz]) Rx rfl rfl (Ce (b3.own_ro (i:=6) rfl).one) rfl ef b3 rfl rfl ⟨(b3.own_ro (i:=6) rfl).one,trivial⟩ rfl fun kc _ kd ke=>Ah ?_
    obtain ⟨kf,kg⟩:∃ F,Sp (wE g) kc [A2 AR 76 F j (f.1,f.2.1,f.2.2.1,f.2.2.2.1,f.2.2.2.2.1,au.1),Ab Ch kb ka f.2.2.2.2.2,A6 g (Be [A2 AR 76 p j f,Ab Ar n m k]),Ab Ar n m k]:=⟨_,Dt (ke.sel [0,1,2,3,4,6,5,7,8] rfl)⟩
    exact jx (eh ((f.1,f.2.1,f.2.2.1,f.2.2.2.1,f.2.2.2.2.1,au.1)) kf _ c kd (kg.sel [2,0] rfl)) rfl
   ·refine Au ?_
    exact jx (eh f jw _ c ef (eg.sel [2,0] rfl)) rfl
theorem Oi (g:Ae) (h:Ae1) (l:Ac) (t:RO Ao g l h) (i:Ae1) (m:Ac) (u:RO Ao g m i) (n:Int) (r:Bool) (b:H2 h i n = some r) :
  A1 169 [l,m,(iv n)] g fun e w'=>e = .returned (.bool r) ∧ Bl g w':=by
 refine cm Tryz.func169 Tryz.ntmps169 rfl fun Q x hP v y=>?_
 unfold H2 at b
 refine An 1 rfl (Ap fun z aa=>?_)
 obtain ⟨k7,ac,b⟩:=Cj b
 have j:∀ (o:Bool) (k:Ae) (_:k7 o = some r) (_:Bl g k) (_:Sp g k []),∀ a,St 24 [(6,(.bool o))] a → z a k:=by
  intro o k b ad ap
  subst ac
  refine aa (Ay (rt x rfl rfl (by cases b; exact ⟨rfl,ad⟩)))
 refine As (wp 1 rfl (bB b fun u9 af b=>(Bu rfl Tryz.call43 v y (GF g h l (t.ro v) _ af) rfl fun ag _ p w=>(wp 1 rfl ?_))))
 rcases bE u9 with d | d
 ·replace b:=BA d b
  refine wn rfl d (wp 1 rfl (wn rfl d (bB b fun ah ai b=>(Bu rfl Tryz.call43 p w (GF ag i m (u.ro p) _ ai) rfl fun aj _ q s=>(AA rfl rfl d rfl (wp 1 rfl ?_))))))
  rcases bE ah with c | c
  ·replace b:=BA c b
   refine wn rfl c (wp 1 rfl (wn rfl c (BX t Tryz.underlying26 rfl (wn rfl c (wp 1 rfl (wn rfl c (BX u Tryz.underlying26 rfl (wn rfl c (wp 1 rfl (AA rfl rfl c rfl (wp 1 rfl ?_)))))))))))
   rcases bE ((List.length h:Int) == (List.length i:Int)) with f | f
   ·replace b:=BA f b
    refine wn rfl f (wp 1 rfl (wn rfl f (bB b fun ak al b=>(Bu rfl Tryz.call60 q s (Cr aj n 1 64 _ al) rfl fun aq _ am an=>(AA rfl rfl f rfl (Aq 1 rfl ?_))))))
    exact jx (j ak _ b am (an.sel [] rfl)) rfl
   ·replace b:=Cf f b
    refine wo rfl f (wo rfl f (A9 rfl rfl f rfl (Aq 1 rfl ?_)))
    exact jx (j false _ b q (s.sel [] rfl)) rfl
  ·replace b:=Cf c b
   refine wo rfl c (wo rfl c (wo rfl c (wo rfl c (wo rfl c (A9 rfl rfl c rfl (wp 1 rfl (wo rfl rfl (wo rfl rfl (A9 rfl rfl rfl rfl (Aq 1 rfl ?_))))))))))
   exact jx (j false _ b q (s.sel [] rfl)) rfl
 ·replace b:=Cf d b
  refine wo rfl d (wo rfl d (A9 rfl rfl d rfl (wp 1 rfl (wo rfl rfl (wo rfl rfl (wo rfl rfl (wo rfl rfl (wo rfl rfl (A9 rfl rfl rfl rfl (wp 1 rfl (wo rfl rfl (wo rfl rfl (A9 rfl rfl rfl rfl (Aq 1 rfl ?_))))))))))))))
  exact jx (j false _ b p (w.sel [] rfl)) rfl
theorem GZ (d:Ae) (b:(Int × Int)) (c:(Int × Int)) (r:Int) (f:Ed b c = some r) :
  A1 183 [(.agg #[(iv b.1),(iv b.2)]),(.agg #[(iv c.1),(iv c.2)])] d fun e w'=>e = .returned (iv r) ∧ Bl d w':=by
 refine cm Tryz.func183 Tryz.ntmps183 rfl fun Q g o h i=>?_
 unfold Ed at f
 refine Ak fun _ j=>CK rfl h i fun p q _ k l=>CK rfl k l fun s t _ m a=>Aq 1 rfl (j (Ak fun _ n=>(Bp CJ rfl (AO 1 A4 rfl a rfl rfl (Bp CJ rfl (AO 0 A4 rfl a rfl rfl (wp 1 rfl (Bp CJ rfl (AO 1 A4 rfl a rfl rfl (Bp CJ rfl (AO 0 A4 rfl a rfl rfl (wp 2 rfl (Bp CI rfl (AO 1 A4 rfl a rfl rfl (Bp CI rfl (AO 0 A4 rfl a rfl rfl (wp 1 rfl (Bp CI rfl (AO 1 A4 rfl a rfl rfl (Bp CI rfl (AO 0 A4 rfl a rfl rfl (Aq 4 rfl (n (Ay (rt g rfl rfl (by cases f; exact ⟨rfl,m⟩))))))))))))))))))))))))))
theorem SA (c:Ae) (g:Ae1) (t:Ac) (ae:RO Ao c t g) (d:Ae1) (n:Ac) (af:RO Ao c n d) (r:Ae6) (b:IB g d = some r) :
  A1 172 [t,n] c fun e w'=>∃ (q0:Ac) (G0:Al),e = .returned q0 ∧ Bl c w' ∧ Sp c w' [Ab Ci G0 q0 r]:=by
 refine cm Tryz.func172 Tryz.ntmps172 rfl fun Q hQ hP hB hS=>?_
 unfold IB at b
 refine An 1 rfl (Ak fun _ au=>(TK (e:=Ci) Tryz.underlying155 rfl hB hS fun v3 F4 w5 _ ax ay=>(Aq 1 rfl (au (Ap fun _ az=>(Ak fun _ a0=>(wp 1 rfl (BX ae Tryz.underlying26 rfl (Aq 1 rfl (a0 (A0 (AU (fun m a x=>∃ (h:Ae6) (f:Int) (j:Ac) (u:Al),St 38 [(1,n),(5,j),(12,t),(13,(iv (List.length g:Int))),(14,(iv f))] a ∧ Bl c x ∧ Sp c x [Ab Ci u j h] ∧ DE g d m h f = some r) FU ?_ ?_))))))))))))
 ·exact fun a ha=>⟨[],0,v3,F4,ha.sb rfl,ax,(ay.sel [0] rfl),b⟩
 ·rintro o a x ⟨h,f,j,u,ha,y,ah,b⟩ ci a1
  refine BE ?_ ha
  cases o with
  | zero=>exact Bg b
  | succ o =>
   obtain ⟨ai,aj⟩:∃ k,k = DE g d o:=⟨_,rfl⟩
   rw [DE,← aj] at b
   refine An 1 rfl (Ap fun _ a2=>(A3 rfl b (fun _ b=>?_) (fun _ b=>?_)))
   ·refine Au (a2 ?_)
    refine Ap fun _ a3=>A0 (Ak fun _ a4=>(bB b fun p a5 b=>(BP (e:=Ao) Tryz.underlying26 rfl rfl rfl ae a5 ?_)))
    rintro cj _ rfl a6
    refine BZ Bs rfl (a6.ro y) rfl (Ei Bs rfl y ah fun ak ck _ a7 a8=>(Gj 0 Bs rfl rfl a7 a8 rfl rfl rfl fun cl _ a9 ba=>(Ah (a4 (Ak fun _ bb=>(Bc (vs:=[]) (l:=[]) Co Tryz.underlying36 rfl rfl rfl rfl rfl rfl a9 ba fun bc bd cn _ be bf=>(Aq 1 rfl (bb (Ap fun _ bg=>(Ak fun _ bh=>(wp 1 rfl (BX af Tryz.underlying26 rfl (Aq 1 rfl (bh (A0 (AU (fun m a z=>∃ (v:(List Int)) (w:Int) (q:Ac) (aa:Al),St 38 [(1,n),(5,j),(7,(.pointer (some ⟨ak,0,none⟩))),(8,q),(12,t),(13,(iv (List.length g:Int))),(14,(iv f)),(19,n),(20,(iv (List.length d:Int))),(21,(iv w))] a ∧ Bl c z ∧ Sp c z [Ab Ci u j h,A5 ak 79 [(iv p.1),(iv p.2)],Ab Ar aa q v] ∧ Es d p h ai f m v w = some r) FU ?_ ?_))))))))))))))))
    ·exact fun a ha=>⟨[],0,bc,bd,ha.sb rfl,be,(bf.sel [2,1,0] rfl),b⟩
    ·rintro s a z ⟨v,w,q,aa,ha,ab,ac,b⟩ co bi
     refine BE ?_ ha
     cases s with
     | zero=>exact Bg b
     | succ s =>
      obtain ⟨cp,al⟩:∃ k,k = Es d p h ai f s:=⟨_,rfl⟩
      rw [Es,← al] at b
      refine An 1 rfl (Ap fun _ bj=>(A3 rfl b (fun _ b=>?_) (fun _ b=>?_)))
      ·refine Au (bj ?_)
       refine Ap fun _ bk=>A0 (Ak fun _ bl=>(bB b fun bm bn b=>(BP (e:=Ao) Tryz.underlying26 rfl rfl rfl af bn ?_)))
       rintro cq _ rfl bo
       refine BZ Bs rfl (bo.ro ab) rfl (Ei Bs rfl ab ac fun cr cs _ bp bq=>(Gj 0 Bs rfl rfl bp bq rfl rfl rfl fun br _ bs ad=>(Ah (bl (As (wp 1 rfl (AO 2 Bs rfl ad rfl rfl (AO 0 Bs rfl ad rfl rfl (bB b fun am bt b=>(Bu rfl Tryz.call183 bs ad (GZ br p bm _ bt) rfl fun ct _ bu bv=>(Bc (vs:=[(iv am)]) (l:=[am]) Co Tryz.underlying36 rfl rfl rfl rfl rfl rfl bu bv fun cu cv bw _ bx an=>(bB b fun bz b0 b=>(AF (i:=4) (S:=(· < bw.heap.size)) Co Tryz.underlying36 rfl rfl rfl bx an rfl (an.own_ro (i:=0) rfl) b0 fun b1 b2 cw _ b3 b4=>(Aq 1 rfl (bk (As (Aq 2 rfl ?_)))))))))))))))))
       rw [al] at b
       exact fun a ha=>bi a _ s (AB s) ⟨bz,(Ag (w + 1)),b1,b2,ha.sb rfl,b3,(b4.sel [2,3,4] rfl),b⟩
      ·refine Bd (bg ?_)
       refine As (wp 2 rfl ?_)
       have b5:=ac.sel [2,0,1] rfl
       have b6:=b5.head (r':=Qc Ci aa [q] v) (rfl) fun _ h0=>⟨_,rfl,h0⟩
       refine N5 (e:=Ci) (vs:=[q]) Tryz.underlying155 rfl rfl (Ce (ac.own_ro (i:=2) rfl).one) rfl ab b6 fun cx cy cz _ _ b8 b9=>bB b fun ca cb b=>Lb (e:=Ci) Tryz.underlying155 rfl rfl rfl b8 (b9.sel [1,0,2] rfl) cb fun cc cd c0 _ ce cf=>Aq 1 rfl (a3 (As (Aq 2 rfl ?_)))
       rw [aj] at b
       exact fun a ha=>a1 a _ o (AB o) ⟨ca,(Ag (f + 1)),cc,cd,ha.sb rfl,ce,(cf.sel [0] rfl),b⟩
   ·refine Bd (az ?_)
    refine An 2 rfl (Ay (rt hQ rfl rfl (by cases b; exact ⟨j,u,rfl,y,ah.sel [0] rfl⟩)))
theorem Ro (a:Ae) (b:Int) (r:Int) (c:KY b = some r) :
  A1 255 [(.int .u64 b)] a fun e w'=>e = .returned (iv r) ∧ Bl a w':=by
 refine cm Tryz.func255 Tryz.ntmps255 rfl fun Q d n f _=>?_
 unfold KY at c
 refine An 1 rfl (Ak fun _ g=>(wp 1 rfl (Gi rfl rfl rfl rfl (I2 rfl rfl rfl (wp 1 rfl (I2 rfl rfl rfl (Aq 2 rfl (g (Ak fun _ h=>(wp 1 rfl (Gi rfl rfl rfl rfl (I2 rfl rfl rfl (wp 1 rfl (I2 rfl rfl rfl (Aq 2 rfl (h (Ak fun _ i=>(wp 1 rfl (Gi rfl rfl rfl rfl (wp 2 rfl (I2 rfl rfl rfl (Aq 1 rfl (i (Ak fun _ j=>(wp 2 rfl (Gi rfl rfl rfl rfl (Aq 2 rfl (j (Ak fun _ k=>(wp 2 rfl (Gi rfl rfl rfl rfl (Aq 2 rfl (k (Ak fun _ l=>(wp 2 rfl (Gi rfl rfl rfl rfl (Aq 2 rfl (l (Ak fun _ m=>(wp 1 rfl (DU Tryz.underlying89 Tryz.underlying3 rfl rfl (I2 rfl rfl rfl (Aq 1 rfl (m (Ay (rt d rfl rfl (by cases c; exact ⟨rfl,f⟩)))))))))))))))))))))))))))))))))))))))))))))))
theorem SI (b:Ae) (c:Int) (r:Int) (a:H4 c = some r) :
  A1 236 [(.int .u64 c)] b fun e w'=>e = .returned (iv r) ∧ Bl b w':=by
 refine cm Tryz.func236 Tryz.ntmps236 rfl fun Q d l f _=>?_
 unfold H4 at a
 refine An 1 rfl (Ap fun _ g=>(Aa3 rfl rfl (Au (g (Ak fun _ h=>(wp 1 rfl (bB a fun m i a=>(A7 rfl Tryz.call255 (Ro b c _ i) rfl ?_))))))))
 rintro _ n ⟨rfl,j⟩
 refine ⟨_,rfl,?_⟩
 have k:=tm f j
 refine Aq 1 rfl (h (Ay (rt d rfl rfl (by cases a; exact ⟨rfl,k⟩))))
theorem SE (p:Ae) (q:Ae6) (x:Ac) (av:RO Ci p x q) (r:(List Int)) (c:IE q = some r) :
  A1 213 [x] p fun e w'=>∃ (q0:Ac) (G0:Al),e = .returned q0 ∧ Bl p w' ∧ Sp p w' [Ab Ar G0 q0 r]:=by
 refine cm Tryz.func213 Tryz.ntmps213 rfl fun Q hQ f hB hS=>?_
 unfold IE at c
 refine An 1 rfl (Ak fun _ bh=>(wp 1 rfl (BX av Tryz.underlying155 rfl (Aq 1 rfl (bh (Ak fun _ bi=>(wp 1 rfl ?_)))))))
 have h4:=Hl c
 replace c:=BA h4 c
 refine J8 h4 rfl rfl rfl (bB c fun u5 bk c=>(N4 (e:=Ar) Tryz.underlying36 rfl rfl bk hB hS fun v6 F7 w8 _ bn bo=>(Aq 1 rfl (bi (Ap fun _ bp=>(Ak fun _ bq=>(wp 1 rfl (J8 h4 rfl rfl rfl (Aq 2 rfl (bq (A0 (AU (fun m a ad=>∃ (ae:(List Int)) (g:Int) (y:Ac) (af:Al),St 60 [(0,x),(3,(iv (List.length q:Int))),(4,y),(5,(iv g))] a ∧ Bl p ad ∧ Sp p ad [Ab Ar af y ae] ∧ Ev q m ae g = some r) FU ?_ ?_))))))))))))
 ·exact fun a ha=>⟨u5,(Ag ((K0 .i64 1 (List.length q:Int)) - 2)),v6,F7,ha.sb rfl,bn,(bo.sel [0] rfl),c⟩
 ·rintro z a ad ⟨ae,g,y,af,ha,ax,ay,c⟩ c5 br
  refine BE ?_ ha
  cases z with
  | zero=>exact Bg c
  | succ z =>
   obtain ⟨az,a0⟩:∃ k,k = Ev q z:=⟨_,rfl⟩
   rw [Ev,← a0] at c
   refine Ap fun _ bs=>An 2 rfl (A3 rfl c (fun _ c=>?_) (fun _ c=>?_))
   ·refine Au (bs ?_)
    refine Ap fun _ bt=>A0 (Ak fun _ bu=>(wp 1 rfl (DU Tryz.underlying3 Tryz.underlying117 rfl rfl (bB c fun ag bv c=>(Bu rfl Tryz.call236 ax ay (SI ad (Bh g) _ bv) rfl fun c6 _ bw a1=>(Aq 1 rfl (bu (Ak fun _ bx=>(wp 2 rfl (bB c fun c7 a2 c=>(Cw (e:=Ar) (i:=0) Tryz.underlying36 rfl rfl rfl a1 rfl a2 ?_)))))))))))
    rintro c8 _ rfl c9 bz
    refine BT (i:=0) (o:=0) (vs:=[(iv 13194139533312)]) (u':=13194139533312) Co A4 rfl rfl rfl rfl bz a2 bw a1 rfl rfl ⟨rfl,trivial⟩ rfl fun da _ b0 b1=>Ah (bx (An 1 rfl (A0 (AU (fun m a an=>∃ (t:(List Int)) (aa:Int) (u:Ac) (s:Al),St 60 [(0,x),(3,(iv (List.length q:Int))),(4,u),(5,(iv g)),(6,(iv ag)),(7,(iv aa))] a ∧ Bl p an ∧ Sp p an [Ab Ar s u t] ∧ DG q g ag az m t aa = some r) FU ?_ ?_))))
    ·exact fun a ha=>⟨(BG ae g 13194139533312),0,y,af,ha.sb rfl,b0,(b1.sel [0] rfl),c⟩
    ·rintro ab a an ⟨t,aa,u,s,ha,ao,ap,c⟩ db b2
     refine BE ?_ ha
     cases ab with
     | zero=>exact Bg c
     | succ ab =>
      obtain ⟨dc,a3⟩:∃ k,k = DG q g ag az ab:=⟨_,rfl⟩
      rw [DG,← a3] at c
      refine Ap fun _ b3=>An 3 rfl (A3 rfl c (fun _ c=>?_) (fun _ c=>?_))
      ·refine Au (b3 ?_)
       refine Ap fun b4 b5=>?_
       obtain ⟨b6,b7,c⟩:=Cj c
       have ac:∀ (ah:(List Int)) (ai:Ac) (aq:Al) (aj:Ae) (_:b6 ah = some r) (_:Bl p aj) (_:Sp p aj [Ab Ar aq ai ah]),∀ a,St 60 [(0,x),(3,(iv (List.length q:Int))),(4,ai),(5,(iv g)),(6,(iv ag)),(7,(iv aa))] a → b4 a aj:=by
        intro ah ai aq aj c b8 b9
        subst b7
        refine b5 (As (Aq 3 rfl ?_))
        rw [a3] at c
        exact fun a ha=>b2 a _ ab (AB ab) ⟨ah,(Ag (aa + 1)),ai,aq,ha.sb rfl,b8,(b9.sel [0] rfl),c⟩
       refine A0 (Ak fun _ ca=>(wp 2 rfl ?_))
       have ak:=Hl c
       replace c:=BA ak c
       refine Gi ak rfl rfl rfl (I2 rfl rfl rfl (Aq 1 rfl (ca (A3 rfl c (fun _ c=>?_) (fun _ c=>?_)))))
       ·refine AQ B4 s ao ap fun cb _ v j=>?_
        have d:=KeepX.refl cb s
        refine Ax 0 rfl f d (Ax 1 rfl f d (Ax 2 rfl f d (Ax 3 rfl f d (bB c fun l cc c=>(Ad 4 rfl f d (Bv (e:=Ar) (i:=0) Tryz.underlying36 rfl rfl rfl j rfl cc ?_))))))
        rintro dd _ rfl al de
        refine Ax 6 rfl f d (Ax 7 rfl f d (bB c fun df cd c=>(Ad 8 rfl f d (BB (e:=Ci) Tryz.underlying155 rfl rfl rfl av cd ?_))))
        rintro dg _ ⟨dh,rfl,ce⟩ cf
        refine Ad 9 rfl f d (BL Fu rfl (cf.kx v (fun b hb=>(((j.get (i:=0) rfl).2.1 b hb).1))) rfl (Ax 10 rfl f d (bB c fun n cg c=>(Ad 11 rfl f d (BB (e:=Ar) Tryz.underlying36 rfl rfl rfl ce cg ?_)))))
        rintro di _ rfl ch
        refine Ad 12 rfl f d (BL A4 rfl (ch.kx v (fun b hb=>(((j.get (i:=0) rfl).2.1 b hb).1))) rfl (Ax 13 rfl f d (Ax 14 rfl f d (Ax 15 rfl f d (C0 (is:=[5,16]) (by kernel_rfl) rfl (Bb.2 ⟨⟨_,rfl,?_⟩,Bb.2 ⟨⟨_,rfl,?_⟩,fun _ h=>by cases h⟩⟩))))))
        ·refine BZ A4 rfl al rfl ?_
         refine Ah (Am d (Av 16 rfl (J8 ak rfl rfl rfl (Ah (Am d (Av 17 rfl (Rr rfl rfl rfl (Ah (Am d (bB c fun ar ci c=>(Ad 18 rfl f d (Bv (e:=Ar) (i:=0) Tryz.underlying36 rfl rfl rfl j rfl ci ?_))))))))))))
         rintro dj _ rfl cj dk
         refine Av 19 rfl (BZ A4 rfl cj rfl (Ah (Am d (Ad 20 rfl f d (E7 rfl rfl rfl (Ad 21 rfl f d (Tf rfl rfl rfl (bB c fun dl a4 c=>(Ad 22 rfl f d (Bv (e:=Ar) (i:=0) Tryz.underlying36 rfl rfl rfl j rfl a4 ?_))))))))))
         rintro dm _ rfl dn ck
         refine Av 23 rfl (BT (i:=0) (o:=0) (vs:=[(iv (Fn l (Ag (n + ar))))]) (u':=(Fn l (Ag (n + ar)))) Co A4 rfl rfl rfl rfl ck a4 v j rfl rfl ⟨rfl,trivial⟩ rfl fun dp a5 cl cn=>?_)
         have co:=d.wr' a5.1 a5.2.1 (fun _ _ h=>h)
         refine Ah (Am co (Ba ?_))
         exact jx (ac ((BG t g (Fn l (Ag (n + ar))))) u s _ c cl (cn.sel [0] rfl)) rfl
        ·refine J8 ak rfl rfl rfl ?_
         refine Ah (Am d (C0 (is:=[5,17]) (by kernel_rfl) rfl (Bb.2 ⟨⟨_,rfl,?_⟩,Bb.2 ⟨⟨_,rfl,?_⟩,fun _ h=>by cases h⟩⟩)))
         ·refine BZ A4 rfl al rfl ?_
          refine Ah (Am d (Av 17 rfl (Rr rfl rfl rfl (Ah (Am d (bB c fun au cp c=>(Ad 18 rfl f d (Bv (e:=Ar) (i:=0) Tryz.underlying36 rfl rfl rfl j rfl cp ?_))))))))
          rintro dq _ rfl cq dr
          refine Av 19 rfl (BZ A4 rfl cq rfl (Ah (Am d (Ad 20 rfl f d (E7 rfl rfl rfl (Ad 21 rfl f d (Tf rfl rfl rfl (bB c fun ds a6 c=>(Ad 22 rfl f d (Bv (e:=Ar) (i:=0) Tryz.underlying36 rfl rfl rfl j rfl a6 ?_))))))))))
          rintro dt _ rfl du cr
          refine Av 23 rfl (BT (i:=0) (o:=0) (vs:=[(iv (Fn l (Ag (n + au))))]) (u':=(Fn l (Ag (n + au)))) Co A4 rfl rfl rfl rfl cr a6 v j rfl rfl ⟨rfl,trivial⟩ rfl fun dv a7 cs ct=>?_)
          have cu:=d.wr' a7.1 a7.2.1 (fun _ _ h=>h)
          refine Ah (Am cu (Ba ?_))
          exact jx (ac ((BG t g (Fn l (Ag (n + au))))) u s _ c cs (ct.sel [0] rfl)) rfl
         ·refine Rr rfl rfl rfl ?_
          refine Ah (Am d (bB c fun w cv c=>(Ad 18 rfl f d (Bv (e:=Ar) (i:=0) Tryz.underlying36 rfl rfl rfl j rfl cv ?_))))
          rintro dw _ rfl a8 dx
          refine C0 (is:=[5,19]) (by kernel_rfl) rfl (Bb.2 ⟨⟨_,rfl,?_⟩,Bb.2 ⟨⟨_,rfl,?_⟩,fun _ h=>by cases h⟩⟩)
          ·refine BZ A4 rfl al rfl ?_
           refine Ah (Am d (Av 19 rfl (BZ A4 rfl a8 rfl (Ah (Am d (Ad 20 rfl f d (E7 rfl rfl rfl (Ad 21 rfl f d (Tf rfl rfl rfl (bB c fun dy a9 c=>(Ad 22 rfl f d (Bv (e:=Ar) (i:=0) Tryz.underlying36 rfl rfl rfl j rfl a9 ?_))))))))))))
           rintro dz _ rfl d0 cw
           refine Av 23 rfl (BT (i:=0) (o:=0) (vs:=[(iv (Fn l (Ag (n + w))))]) (u':=(Fn l (Ag (n + w)))) Co A4 rfl rfl rfl rfl cw a9 v j rfl rfl ⟨rfl,trivial⟩ rfl fun d1 ba cx cy=>?_)
           have cz:=d.wr' ba.1 ba.2.1 (fun _ _ h=>h)
           refine Ah (Am cz (Ba ?_))
           exact jx (ac ((BG t g (Fn l (Ag (n + w))))) u s _ c cx (cy.sel [0] rfl)) rfl
          ·refine BZ A4 rfl a8 rfl ?_
           refine Ah (Am d (Ad 20 rfl f d (E7 rfl rfl rfl (Av 5 rfl (BZ A4 rfl al rfl (Ah (Am d (Ad 21 rfl f d (Tf rfl rfl rfl (bB c fun d2 bb c=>(Ad 22 rfl f d (Bv (e:=Ar) (i:=0) Tryz.underlying36 rfl rfl rfl j rfl bb ?_))))))))))))
           rintro d3 _ rfl d4 c0
           refine Av 23 rfl (BT (i:=0) (o:=0) (vs:=[(iv (Fn l (Ag (n + w))))]) (u':=(Fn l (Ag (n + w)))) Co A4 rfl rfl rfl rfl c0 bb v j rfl rfl ⟨rfl,trivial⟩ rfl fun d5 bc c1 c2=>?_)
           have c3:=d.wr' bc.1 bc.2.1 (fun _ _ h=>h)
           refine Ah (Am c3 (Ba ?_))
           exact jx (ac ((BG t g (Fn l (Ag (n + w))))) u s _ c c1 (c2.sel [0] rfl)) rfl
       ·refine Au ?_
        exact jx (ac t u s _ c ao (ap.sel [0] rfl)) rfl
      ·refine Bd (bt ?_)
       refine As (Aq 3 rfl ?_)
       rw [a0] at c
       exact fun a ha=>br a _ z (AB z) ⟨t,(Ag (g - 1)),u,s,ha.sb rfl,ao,(ap.sel [0] rfl),c⟩
   ·refine Bd (bp ?_)
    refine An 2 rfl (Ay (rt hQ rfl rfl (by cases c; exact ⟨y,af,rfl,ax,ay.sel [0] rfl⟩)))
theorem Qf (g:Ae) (h:Ae6) (u:Ac) (y:RO Ci g u h) (r:(List Int)) (b:GS h = some r) :
  A1 171 [u] g fun e w'=>∃ (q0:Ac) (G0:Al),e = .returned q0 ∧ Bl g w' ∧ Sp g w' [Ab Ar G0 q0 r]:=by
 refine cm Tryz.func171 Tryz.ntmps171 rfl fun Q hQ f hB hS=>?_
 unfold GS at b
 refine An 1 rfl (Ak fun _ a6=>(wp 1 rfl (bB b fun q a7 b=>(E6 rfl Tryz.call213 hB hS (SE g h u (y.ro hB) _ a7) rfl fun s z w6 _ _ a8 a9=>(Bc (vs:=[]) (l:=[]) Co Tryz.underlying36 rfl rfl rfl rfl rfl rfl a8 a9 fun ba bb ck _ bc bd=>(Aq 3 rfl (a6 (Ap fun _ be=>(Ak fun _ bf=>(wp 1 rfl (BX y Tryz.underlying155 rfl (Aq 1 rfl (bf (A0 (AU (fun m a ah=>∃ (n:Int) (t:(List Int)) (j:Int) (p:Ac) (v:Al),St 59 [(0,u),(3,s),(4,(iv n)),(5,p),(12,(iv (List.length h:Int))),(13,(iv j))] a ∧ Bl g ah ∧ Sp g ah [Ab Ar z s q,Ab Ar v p t] ∧ Dx h q m n t j = some r) FU ?_ ?_)))))))))))))))
 ·exact fun a ha=>⟨0,[],0,ba,bb,ha.sb rfl,bc,(bd.sel [1,0] rfl),b⟩
 ·rintro w a ah ⟨n,t,j,p,v,ha,ap,aq,b⟩ cl bg
  refine BE ?_ ha
  cases w with
  | zero=>exact Bg b
  | succ w =>
   obtain ⟨cn,ar⟩:∃ k,k = Dx h q w:=⟨_,rfl⟩
   rw [Dx,← ar] at b
   refine An 1 rfl (Ap fun _ bh=>(A3 rfl b (fun _ b=>?_) (fun _ b=>?_)))
   ·refine Au (bh ?_)
    refine Ap fun bi bj=>?_
    obtain ⟨ai,bk,b⟩:=Nn b
    have au:∀ (aa:Int) (ab:(List Int)) (ac:Ac) (aj:Al) (ad:Ae) (_:ai aa ab = some r) (_:Bl g ad) (_:Sp g ad [Ab Ar z s q,Ab Ar aj ac ab]),∀ a,St 59 [(0,u),(3,s),(4,(iv aa)),(5,ac),(12,(iv (List.length h:Int))),(13,(iv j))] a → bi a ad:=by
     intro aa ab ac aj ad b bl bm
     subst bk
     refine bj (As (Aq 2 rfl ?_))
     rw [ar] at b
     exact fun a ha=>bg a _ w (AB w) ⟨aa,ab,(Ag (j + 1)),ac,aj,ha.sb rfl,bl,(bm.sel [0,1] rfl),b⟩
    refine A0 (An 2 rfl (Ak fun _ bn=>(wp 1 rfl (BX y Tryz.underlying155 rfl (Aq 1 rfl (bn (A0 (AU (fun m a ak=>∃ (o:Int),St 59 [(0,u),(3,s),(4,(iv n)),(5,p),(6,(iv j)),(12,(iv (List.length h:Int))),(13,(iv j)),(17,(iv (List.length h:Int))),(18,(iv o))] a ∧ Bl g ak ∧ Sp g ak [Ab Ar z s q,Ab Ar v p t] ∧ Dw h t ai n j q m o = some r) FU ?_ ?_))))))))
    ·exact fun a ha=>⟨0,ha.sb rfl,ap,(aq.sel [0,1] rfl),b⟩
    ·rintro x a ak ⟨o,ha,av,aw,b⟩ co bo
     refine BE ?_ ha
     cases x with
     | zero=>exact Bg b
     | succ x =>
      obtain ⟨cp,ax⟩:∃ k,k = Dw h t ai n j q x:=⟨_,rfl⟩
      rw [Dw,← ax] at b
      refine An 1 rfl (Ap fun _ bp=>(A3 rfl b (fun _ b=>?_) (fun _ b=>?_)))
      ·refine Au (bp ?_)
       refine Ap fun _ bq=>A0 (An 2 rfl (Ap fun br bs=>?_))
       obtain ⟨bt,bu,b⟩:=Cj b
       have ay:∀ (al:Bool) (ae:Ae) (_:bt al = some r) (_:Bl g ae) (_:Sp g ae [Ab Ar z s q,Ab Ar v p t]),∀ a,St 59 [(0,u),(3,s),(4,(iv n)),(5,p),(6,(iv j)),(7,(iv o)),(12,(iv (List.length h:Int))),(13,(iv j)),(17,(iv (List.length h:Int))),(18,(iv o)),(47,(.bool al))] a → br a ae:=by
        intro al ae b az a0
        subst bu
        refine bs (A3 rfl b (fun _ b=>?_) (fun _ b=>?_))
        ·refine Ak fun _ bv=>?_
         refine wp 2 rfl (Bc (vs:=[(iv o)]) (l:=[o]) Co Tryz.underlying36 rfl rfl rfl rfl rfl rfl az a0 fun cq cr bw _ bx a1=>(bB b fun bz b0 b=>(AF (i:=2) (S:=(· < bw.heap.size)) Co Tryz.underlying36 rfl rfl rfl bx a1 rfl (a1.own_ro (i:=0) rfl) b0 fun b1 b2 cs _ b3 b4=>(Aq 1 rfl (bv (Ak fun _ b5=>(wp 2 rfl ?_)))))))
         have a2:=Hl b
         replace b:=BA a2 b
         refine J8 a2 rfl rfl rfl (Rr rfl rfl rfl (Aq 1 rfl (b5 (Bd ?_))))
         exact jx (au ((Tj .i64 n (K0 .i64 1 o))) bz b1 b2 _ b b3 (b4.sel [1,2] rfl)) rfl
        ·refine Au (bq ?_)
         refine As (Aq 2 rfl ?_)
         rw [ax] at b
         exact fun a ha=>bo a _ x (AB x) ⟨(Ag (o + 1)),ha.sb rfl,az,(a0.sel [0,1] rfl),b⟩
       refine AQ B4 [] av aw fun b6 _ af ag=>?_
       have c:=KeepX.refl b6 []
       refine Ax 0 rfl f c (Ax 1 rfl f c (Av 2 rfl ?_))
       have am:=Hl b
       replace b:=BA am b
       refine Gi am rfl rfl rfl (Ah (Am c (Av 3 rfl (I2 rfl rfl rfl (Ah (Am c (Ad 4 rfl f c (Pn rfl rfl rfl (Ax 5 rfl f c ?_)))))))))
       rcases bE ((B5 .i64 (Bq .i64 n o) 1) == 0) with d | d
       ·replace b:=BA d b
        refine BF 6 rfl f d c (Da rfl rfl (BF 7 rfl f d c (Da rfl rfl (bB b fun ct b7 b=>(BF 8 rfl f d c (BB (e:=Ci) Tryz.underlying155 rfl rfl rfl y b7 ?_))))))
        rintro cu _ ⟨cv,rfl,b8⟩ b9
        refine BF 9 rfl f d c (BL Fu rfl (b9.kx af (by simp)) rfl (BF 10 rfl f d c (Da rfl rfl (bB b fun ca cb b=>(BF 11 rfl f d c (BB (e:=Ar) Tryz.underlying36 rfl rfl rfl b8 cb ?_))))))
        rintro cw _ rfl cc
        refine BF 12 rfl f d c (BL A4 rfl (cc.kx af (by simp)) rfl (BF 13 rfl f d c (Da rfl rfl (BF 14 rfl f d c (Da rfl rfl (BF 15 rfl f d c (Da rfl rfl (BF 21 rfl f d c (Da rfl rfl (BF 22 rfl f d c (Da rfl rfl (bB b fun cd ce b=>(BF 23 rfl f d c (Bv (e:=Ar) (i:=0) Tryz.underlying36 rfl rfl rfl ag rfl ce ?_))))))))))))))
        rintro cx _ rfl cf cy
        refine BF 24 rfl f d c (BL A4 rfl (cf.kx0) rfl (Av 16 rfl (wn rfl d (J8 am rfl rfl rfl (Ah (Am c (Av 17 rfl (wn rfl d (Rr rfl rfl rfl (Ah (Am c (bB b fun cg ch b=>(BF 18 rfl f d c (Bv (e:=Ar) (i:=0) Tryz.underlying36 rfl rfl rfl ag rfl ch ?_))))))))))))))
        rintro cz _ rfl ci c0
        refine BF 19 rfl f d c (BL A4 rfl (ci.kx0) rfl (BF 20 rfl f d c (E7 rfl rfl rfl (BF 25 rfl f d c (Pn rfl rfl rfl (Ad 26 rfl f c (Ep rfl rfl d rfl (Ba ?_))))))))
        exact jx (ay (((Ag (ca + cg)) == cd)) _ b af (ag.sel [0,1] rfl)) rfl
       ·replace b:=Cf d b
        refine AZ 6 rfl f d c (AZ 7 rfl f d c (AZ 8 rfl f d c (AZ 9 rfl f d c (AZ 10 rfl f d c (AZ 11 rfl f d c (AZ 12 rfl f d c (AZ 13 rfl f d c (AZ 14 rfl f d c (AZ 15 rfl f d c (AZ 16 rfl f d c (AZ 17 rfl f d c (AZ 18 rfl f d c (AZ 19 rfl f d c (AZ 20 rfl f d c (AZ 21 rfl f d c (AZ 22 rfl f d c (AZ 23 rfl f d c (AZ 24 rfl f d c (AZ 25 rfl f d c (Ad 26 rfl f c (FV rfl rfl d rfl (Ba ?_))))))))))))))))))))))
        exact jx (ay false _ b af (ag.sel [0,1] rfl)) rfl
      ·refine Bd ?_
       exact jx (au n t p v _ b av (aw.sel [0,1] rfl)) rfl
   ·refine Bd (be ?_)
    refine An 2 rfl (Ay (rt hQ rfl rfl (by cases b; exact ⟨p,v,rfl,ap,aq.sel [1] rfl⟩)))
theorem Mr (a:Ae) (c:(List Int)) (d:Ac) (h:RO Ar a d c) (r:(List Int)) (b:Ft c = some r) :
  A1 212 [d] a fun e w'=>∃ (f:Ac) (j:Al),e = .returned f ∧ Bl a w' ∧ Sp a w' [Ab Ar j f r]:=by
 refine cm Tryz.func212 Tryz.ntmps212 rfl fun Q k x m n=>?_
 unfold Ft at b
 refine An 1 rfl (Ak fun _ o=>(Bc (vs:=[]) (l:=[]) Co Tryz.underlying36 rfl rfl rfl rfl rfl rfl m n fun y z p _ g q=>(wp 1 rfl (bB b fun u9 s b=>(AF (i:=0) (S:=(· < p.heap.size)) Co Tryz.underlying36 rfl rfl rfl g q rfl (h.ro g) s fun t u ab _ v w=>(Aq 1 rfl (o (Ay (rt k rfl rfl (by cases b; exact ⟨t,u,rfl,v,w.sel [0] rfl⟩))))))))))
theorem Kd (h:Ae) (m:Ae1) (n:Ac) (y:RO Ao h n m) (o:Ae1) (p:Ac) (z:RO Ao h p o) (a:Int) (j:(List Int)) (k:Ac) (aa:RO Ar h k j) (r:(Ae1 × Ae1 × Int × (List Int))) (b:EI m o a j = some r) :
  A1 170 [n,p,(iv a),k] h fun e w'=>∃ (q:Ac) (G0:Al) (s:Ac) (G1:Al) (t:Ac) (G2:Al),e = .returned (.agg #[q,s,(iv r.2.2.1),t]) ∧ Bl h w' ∧ Sp h w' [Ab Ao G0 q r.1,Ab Ao G1 s r.2.1,Ab Ar G2 t r.2.2.2]:=by
 refine cm Tryz.func170 Tryz.ntmps170 rfl fun Q hQ hP hB hS=>?_
 unfold EI at b
 refine Ak fun _ ah=>Ei Bo rfl hB hS fun b2 w3 _ ai aj=>Ah (ah (Ak fun _ ak=>(Bc (vs:=[]) (l:=[]) CD Tryz.underlying26 rfl rfl rfl rfl rfl rfl ai aj fun v8 F9 al _ u am=>(wp 1 rfl (bB b fun a8 an b=>(AF (i:=0) (S:=(· < al.heap.size)) CD Tryz.underlying26 rfl rfl rfl u am rfl (y.ro u) an fun c ao a9 _ ap aq=>(Bc (vs:=[]) (l:=[]) CD Tryz.underlying26 rfl rfl rfl rfl rfl rfl ap aq fun ba bb ar _ v au=>(wp 1 rfl (bB b fun bc av b=>(AF (i:=0) (S:=(· < ar.heap.size)) CD Tryz.underlying26 rfl rfl rfl v au rfl (z.ro v) av fun d aw ax _ w ay=>(wp 2 rfl (bB b fun bd az b=>(E6 rfl Tryz.call212 w ay (Mr ax j k (aa.ro w) _ az) rfl fun f a0 be _ _ a1 g=>DV (zs:=[(.slice none 0 0),(.slice none 0 0),(iv 0),(.slice none 0 0)]) (out:=[c,d,(iv a),f]) (vs:=[c,d,(iv a),f]) (css:=[[c],[d],[(iv a)],[f]]) Bo Po rfl rfl (by simp only [List.map_cons,List.map_nil,Ce ((g.own_ro (i:=2) rfl).one),Ce ((g.own_ro (i:=1) rfl).one),Ce ((g.own_ro (i:=0) rfl).one)] <;> rfl) rfl rfl (B9 (i:=3) (vs:=[c,d,(iv a),f]) (cs':=[c,d,(iv a),f]) Bo rfl rfl rfl rfl a1 g rfl rfl ⟨(g.own_ro (i:=2) rfl).one,(g.own_ro (i:=1) rfl).one,rfl,(g.own_ro (i:=0) rfl).one,trivial⟩ rfl fun bf _ a2 x=>(Ah (ak (Ay ?_)))))))))))))))))
 obtain rfl:=Option.some.inj b
 exact IM (vs:=[(.agg #[c,d,(iv a),f])]) hQ rfl ⟨Ha (i:=3) Bo rfl x rfl rfl rfl,trivial⟩ ⟨c,ao,d,aw,f,a0,rfl,a2,x.sel [2,1,0] rfl⟩
theorem L1 (b:Ae) (c:Ae1) (d:Ac) (p:RO Ao b d c) (f:Ae1) (g:Ac) (q:RO Ao b g f) (h:Int) (r:((Ae1 × Ae1 × Int × (List Int)) × Bool)) (a:Gp c f h = some r) :
  A1 119 [d,g,(iv h)] b fun e w'=>∃ (u:Ac) (G0:Al) (v:Ac) (G1:Al) (w:Ac) (G2:Al),e = .returned (.tuple #[(.agg #[u,v,(iv r.1.2.2.1),w]),(.bool r.2)]) ∧ Bl b w' ∧ Sp b w' [Ab Ao G0 u r.1.1,Ab Ao G1 v r.1.2.1,Ab Ar G2 w r.1.2.2.2]:=by
 refine cm Tryz.func119 Tryz.ntmps119 rfl fun Q x hP hB hS=>?_
 unfold Gp at a
 refine Ak fun _ aj=>Ei Bo rfl hB hS fun b2 w3 _ s al=>Aq 1 rfl (aj (Ap fun _ am=>(Ak fun _ an=>(wp 3 rfl (bB a fun u9 ao a=>(Bu rfl Tryz.call169 s al (Oi w3 c d (p.ro s) f g (q.ro s) h _ ao) rfl fun ap _ j y=>(Aq 1 rfl (an (A3 rfl a (fun _ a=>?_) (fun _ a=>?_))))))))))
 ·refine Ak fun _ aq=>?_
  refine DV (zs:=[(.slice none 0 0),(.slice none 0 0),(iv 0),(.slice none 0 0)]) (out:=[(.slice none 0 0),(.slice none 0 0),(iv 0),(.slice none 0 0)]) (vs:=[]) (css:=[]) Bo Po rfl rfl rfl rfl rfl (Gj 0 Bo rfl rfl j y rfl rfl rfl fun bh _ ar z=>(Aq 1 rfl (aq (Ay ?_))))
  have au:=z.push0 (r:=Ab Ao [] (.slice none 0 0) []) rfl fun _=>.inl ⟨rfl,rfl,rfl⟩
  have av:=au.push0 (r:=Ab Ao [] (.slice none 0 0) []) rfl fun _=>.inl ⟨rfl,rfl,rfl⟩
  have aw:=av.push0 (r:=Ab Ar [] (.slice none 0 0) []) rfl fun _=>.inl ⟨rfl,rfl,rfl⟩
  obtain rfl:=Option.some.inj a
  exact IM (vs:=[(.agg #[(.slice none 0 0),(.slice none 0 0),(iv 0),(.slice none 0 0)]),(.bool false)]) x rfl ⟨Ha (i:=0) Bo rfl z rfl rfl rfl,Jk rfl,trivial⟩ ⟨(.slice none 0 0),[],(.slice none 0 0),[],(.slice none 0 0),[],rfl,ar,aw.sel [2,1,0] rfl⟩
 ·refine Au (am ?_)
  refine Ak fun _ ax=>wp 5 rfl (bB a fun ay az a=>(E6 rfl Tryz.call172 j y (SA ap c d (p.ro j) f g (q.ro j) _ az) rfl fun a0 bi a1 _ _ a2 aa=>(bB a fun a3 a4 a=>(E6 rfl Tryz.call171 a2 aa (Qf a1 ay a0 (aa.own_ro (i:=0) rfl) _ a4) rfl fun a5 bj a6 _ _ k ab=>(bB a fun t a7 a=>(A7 rfl Tryz.call170 (Kd a6 c d (p.ro k) f g (q.ro k) h a3 a5 (ab.own_ro (i:=0) rfl) _ a7) rfl ?_))))))
  rintro _ bk ⟨l,a8,m,a9,n,ba,rfl,ac,bb⟩
  refine ⟨_,rfl,?_⟩
  have bc:=tm k ac
  have o:=ab.join ac bb k.size
  refine B9 (i:=5) (vs:=[l,m,(iv t.2.2.1),n]) (cs':=[l,m,(iv t.2.2.1),n]) Bo rfl rfl rfl rfl bc o rfl rfl ⟨(o.own_ro (i:=0) rfl).one,(o.own_ro (i:=1) rfl).one,rfl,(o.own_ro (i:=2) rfl).one,trivial⟩ rfl fun bl _ bd ad=>Aq 1 rfl (ax (Ay ?_))
  obtain rfl:=Option.some.inj a
  exact IM (vs:=[(.agg #[l,m,(iv t.2.2.1),n]),(.bool true)]) x rfl ⟨Ha (i:=5) Bo rfl ad rfl rfl rfl,Jk rfl,trivial⟩ ⟨l,a8,m,a9,n,ba,rfl,bd,ad.sel [0,1,2] rfl⟩
theorem RK (d:Ae) (g:(List Int)) (h:Ac) (q:RO Ar d h g) (f:Int) (r:Bool) (b:Ig g f = some r) :
  A1 214 [h,(iv f)] d fun e w'=>e = .returned (.bool r) ∧ Bl d w':=by
 refine cm Tryz.func214 Tryz.ntmps214 rfl fun Q u hP hB hS=>?_
 unfold Ig at b
 refine An 1 rfl (An 1 rfl (Ap fun _ ae=>(Ak fun _ af=>(wp 1 rfl (BX q Tryz.underlying36 rfl (Aq 1 rfl (af (A0 (AU (fun m a n=>∃ (i:Int) (j:Int),St 35 [(0,h),(1,(iv f)),(5,(iv i)),(8,h),(9,(iv (List.length g:Int))),(10,(iv j))] a ∧ Bl d n ∧ Sp d n [] ∧ Ef g f m i j = some r) FU ?_ ?_)))))))))
 ·exact fun a ha=>⟨0,0,ha.sb rfl,hB,(hS.sel [] rfl),b⟩
 ·rintro l a n ⟨i,j,ha,s,ag,b⟩ az ah
  refine BE ?_ ha
  cases l with
  | zero=>exact Bg b
  | succ l =>
   obtain ⟨a0,v⟩:∃ k,k = Ef g f l:=⟨_,rfl⟩
   rw [Ef,← v] at b
   refine An 1 rfl (Ap fun _ ai=>(A3 rfl b (fun _ b=>?_) (fun _ b=>?_)))
   ·refine Au (ai ?_)
    refine Ap fun _ aj=>A0 (Ak fun _ ak=>(bB b fun o al b=>(BP (e:=Ar) Tryz.underlying36 rfl rfl rfl q al ?_)))
    rintro a1 _ rfl am
    refine BZ A4 rfl (am.ro s) rfl (Aq 1 rfl (ak (Ap fun _ an=>(Ap fun ao ap=>?_))))
    obtain ⟨aq,ar,b⟩:=Cj b
    have w:∀ (t:Bool) (p:Ae) (_:aq t = some r) (_:Bl d p) (_:Sp d p []),∀ a,St 35 [(0,h),(1,(iv f)),(5,(iv i)),(7,(iv o)),(8,h),(9,(iv (List.length g:Int))),(10,(iv j)),(25,(.bool t))] a → ao a p:=by
     intro t p b x au
     subst ar
     refine ap (A3 rfl b (fun _ b=>?_) (fun _ b=>?_))
     ·refine An 1 rfl ?_
      refine Ay (rt u rfl rfl (by cases b; exact ⟨rfl,x⟩))
     ·refine Au (an ?_)
      refine As (wp 2 rfl ?_)
      have y:=Hl b
      replace b:=BA y b
      refine J8 y rfl rfl rfl (Rr rfl rfl rfl (Aq 1 rfl (aj (As (Aq 2 rfl ?_)))))
      rw [v] at b
      exact fun a ha=>ah a _ l (AB l) ⟨(Tj .i64 i (K0 .i64 1 o)),(Ag (j + 1)),ha.sb rfl,x,(au.sel [] rfl),b⟩
    refine As (wp 3 rfl (bB b fun av aw b=>(Bu rfl Tryz.call60 s ag (Cr n o 0 (Ag (f - 1)) _ aw) rfl fun a2 _ z aa=>(wp 2 rfl ?_))))
    rcases bE (!av) with c | c
    ·replace b:=BA c b
     refine wo rfl c (wo rfl c (wo rfl c (wo rfl c (wo rfl c (AA rfl rfl c rfl (Ah ?_))))))
     exact jx (w true _ b z (aa.sel [] rfl)) rfl
    ·replace b:=Cf c b
     refine wn rfl c (wp 1 rfl (wn rfl c (wp 1 rfl (wn rfl c ?_))))
     have ab:=Hl b
     replace b:=BA ab b
     refine Gi ab rfl rfl rfl (wn rfl c (I2 rfl rfl rfl (wn rfl c (wp 1 rfl (A9 rfl rfl c rfl (Ah ?_))))))
     exact jx (w (((B5 .i64 (Bq .i64 i o) 1) == 1)) _ b z (aa.sel [] rfl)) rfl
   ·refine Bd (ae ?_)
    refine Ak fun _ ax=>wp 1 rfl (BX q Tryz.underlying36 rfl (Aq 3 rfl (ax (Ay (rt u rfl rfl (by cases b; exact ⟨rfl,s⟩))))))
theorem KD (i:Ae) (f:(Ae1 × Ae1 × Int × (List Int))) (n:Ac) (o:RO Ao i n f.1) (p:Ac) (x:RO Ao i p f.2.1) (q:Ac) (aa:RO Ar i q f.2.2.2) (r:Bool) (b:Fp f = some r) :
  A1 173 [(.agg #[n,p,(iv f.2.2.1),q])] i fun e w'=>e = .returned (.bool r) ∧ Bl i w':=by
 refine cm Tryz.func173 Tryz.ntmps173 rfl fun Q hQ hP hB hS=>?_
 unfold Fp at b
 refine Ak fun _ ae=>CK rfl hB hS fun b2 w3 _ y z=>Aq 1 rfl (ae (Ap fun K7 ah=>?_))
 obtain ⟨ai,aj,b⟩:=Cj b
 have k:∀ (s:Bool) (l:Ae) (_:ai s = some r) (_:Bl i l) (_:Sp i l []),∀ a,St 33 [(2,(.bool s))] a → K7 a l:=by
  intro s l b ak a2
  subst aj
  refine ah (Ay (rt hQ rfl rfl (by cases b; exact ⟨rfl,ak⟩)))
 refine As (Bp E0 rfl (AO 0 Cm rfl z rfl rfl (bB b fun al am b=>(Bu rfl Tryz.call43 y z (GF w3 f.1 n (o.ro y) _ am) rfl fun an _ t u=>(wp 1 rfl ?_)))))
 rcases bE al with g | g
 ·replace b:=BA g b
  refine wn rfl g (Bp KR rfl (wn rfl g (AO 0 Cm rfl u rfl rfl (wn rfl g (bB b fun ao ap b=>(Bu rfl Tryz.call43 t u (GF an f.2.1 p (x.ro t) _ ap) rfl fun aq _ v j=>(AA rfl rfl g rfl (wp 1 rfl ?_))))))))
  rcases bE ao with c | c
  ·replace b:=BA c b
   refine wn rfl c (Bp E0 rfl (wn rfl c (AO 0 Cm rfl j rfl rfl (wn rfl c (BX o Tryz.underlying26 rfl (wn rfl c (Bp KR rfl (wn rfl c (AO 0 Cm rfl j rfl rfl (wn rfl c (BX x Tryz.underlying26 rfl (wn rfl c (wp 1 rfl (AA rfl rfl c rfl (wp 1 rfl ?_)))))))))))))))
   rcases bE ((List.length f.1:Int) == (List.length f.2.1:Int)) with h | h
   ·replace b:=BA h b
    refine wn rfl h (Bp KQ rfl (wn rfl h (AO 0 A4 rfl j rfl rfl (wn rfl h (bB b fun ar au b=>(Bu rfl Tryz.call60 v j (Cr aq f.2.2.1 1 64 _ au) rfl fun av _ w m=>(AA rfl rfl h rfl (wp 1 rfl ?_))))))))
    rcases bE ar with d | d
    ·replace b:=BA d b
     refine wn rfl d (Bp Gu rfl (wn rfl d (AO 0 Fu rfl m rfl rfl (wn rfl d (Bp E0 rfl (wn rfl d (AO 0 Cm rfl m rfl rfl (wn rfl d (BX o Tryz.underlying26 rfl (wn rfl d (bB b fun aw ax b=>(Bu rfl Tryz.call214 w m (RK av f.2.2.2 q (aa.ro w) (List.length f.1:Int) _ ax) rfl fun a3 _ ay az=>(AA rfl rfl d rfl (Aq 1 rfl ?_))))))))))))))
     exact jx (k aw _ b ay (az.sel [] rfl)) rfl
    ·replace b:=Cf d b
     refine wo rfl d (wo rfl d (wo rfl d (wo rfl d (wo rfl d (wo rfl d (A9 rfl rfl d rfl (Aq 1 rfl ?_)))))))
     exact jx (k false _ b w (m.sel [] rfl)) rfl
   ·replace b:=Cf h b
    refine wo rfl h (wo rfl h (wo rfl h (A9 rfl rfl h rfl (wp 1 rfl (wo rfl rfl (wo rfl rfl (wo rfl rfl (wo rfl rfl (wo rfl rfl (wo rfl rfl (A9 rfl rfl rfl rfl (Aq 1 rfl ?_))))))))))))
    exact jx (k false _ b v (j.sel [] rfl)) rfl
  ·replace b:=Cf c b
   refine wo rfl c (wo rfl c (wo rfl c (wo rfl c (wo rfl c (wo rfl c (wo rfl c (A9 rfl rfl c rfl (wp 1 rfl (wo rfl rfl (wo rfl rfl (wo rfl rfl (A9 rfl rfl rfl rfl (wp 1 rfl (wo rfl rfl (wo rfl rfl (wo rfl rfl (wo rfl rfl (wo rfl rfl (wo rfl rfl (A9 rfl rfl rfl rfl (Aq 1 rfl ?_)))))))))))))))))))))
   exact jx (k false _ b v (j.sel [] rfl)) rfl
 ·replace b:=Cf g b
  refine wo rfl g (wo rfl g (wo rfl g (A9 rfl rfl g rfl (wp 1 rfl (wo rfl rfl (wo rfl rfl (wo rfl rfl (wo rfl rfl (wo rfl rfl (wo rfl rfl (wo rfl rfl (A9 rfl rfl rfl rfl (wp 1 rfl (wo rfl rfl (wo rfl rfl (wo rfl rfl (A9 rfl rfl rfl rfl (wp 1 rfl (wo rfl rfl (wo rfl rfl (wo rfl rfl (wo rfl rfl (wo rfl rfl (wo rfl rfl (A9 rfl rfl rfl rfl (Aq 1 rfl ?_))))))))))))))))))))))))))
  exact jx (k false _ b t (u.sel [] rfl)) rfl
theorem SB (g:Ae) (f:(Ae1 × Ae1 × Int × (List Int))) (n:Ac) (aa:RO Ao g n f.1) (o:Ac) (ab:RO Ao g o f.2.1) (i:Ac) (v:RO Ar g i f.2.2.2) (r:Int) (b:IC f = some r) :
  A1 174 [(.agg #[n,o,(iv f.2.2.1),i])] g fun e w'=>e = .returned (iv r) ∧ Bl g w':=by
 refine cm Tryz.func174 Tryz.ntmps174 rfl fun Q hQ c hB hS=>?_
 unfold IC at b
 refine Ak fun _ af=>CK rfl hB hS fun w w3 _ ag x=>Aq 1 rfl (af (An 1 rfl (Ap fun _ ah=>(Ak fun _ ai=>(Bp Gu rfl (AO 0 Fu rfl x rfl rfl (BX v Tryz.underlying36 rfl (Aq 1 rfl (ai (A0 (AU (fun m a p=>∃ (j:Int) (l:Int),St 29 [(1,(.pointer (some ⟨w,0,none⟩))),(3,(iv j)),(7,i),(8,(iv (List.length f.2.2.2:Int))),(9,(iv l))] a ∧ Bl g p ∧ Sp g p [A5 w 128 [n,o,(iv f.2.2.1),i]] ∧ Et f m j l = some r) FU ?_ ?_)))))))))))
 ·exact fun a ha=>⟨0,0,ha.sb rfl,ag,(x.sel [0] rfl),b⟩
 ·rintro h a p ⟨j,l,ha,q,aj,b⟩ a4 ak
  refine BE ?_ ha
  cases h with
  | zero=>exact Bg b
  | succ h =>
   obtain ⟨a5,y⟩:∃ k,k = Et f h:=⟨_,rfl⟩
   rw [Et,← y] at b
   refine An 1 rfl (Ap fun _ al=>(A3 rfl b (fun _ b=>?_) (fun _ b=>?_)))
   ·refine Au (al ?_)
    refine Ap fun _ am=>A0 (Ak fun _ an=>(wp 1 rfl (bB b fun a6 ao b=>(BP (e:=Ar) Tryz.underlying36 rfl rfl rfl v ao ?_))))
    rintro a7 _ rfl ap
    refine BZ A4 rfl (ap.ro q) rfl (Aq 2 rfl (an (AQ B4 [] q aj fun z _ s t=>?_)))
    have d:=KeepX.refl z []
    refine Ax 0 rfl c d (Ad 1 rfl c d (C9 E0 rfl (Ad 2 rfl c d (CQ 0 Cm rfl t rfl (by simp) (Ax 3 rfl c d (bB b fun aq ar b=>(Ad 4 rfl c d (BB (e:=Ao) Tryz.underlying26 rfl rfl rfl aa ar ?_))))))))
    rintro a8 _ rfl au
    refine Ad 5 rfl c d (BL Bs rfl (au.kx s (by simp)) rfl (Ad 6 rfl c d (C9 KR rfl (Ad 7 rfl c d (CQ 0 Cm rfl t rfl (by simp) (Ax 8 rfl c d (bB b fun av aw b=>(Ad 9 rfl c d (BB (e:=Ao) Tryz.underlying26 rfl rfl rfl ab aw ?_)))))))))
    rintro a9 _ rfl ax
    refine Ad 10 rfl c d (BL Bs rfl (ax.kx s (by simp)) rfl (Av 11 rfl (bB b fun ay az b=>(Bu rfl Tryz.call183 s t (GZ z aq av _ az) rfl fun ba a0 a1 a2=>?_))))
    have u:=d.ext a0
    refine Ah (Am u (Ad 12 rfl c u (E7 rfl rfl rfl (Ad 13 rfl c u (AC rfl rfl (Ba (am (As (Aq 2 rfl ?_)))))))))
    rw [y] at b
    exact fun a ha=>ak a _ h (AB h) ⟨(Ag (j + ay)),(Ag (l + 1)),ha.sb rfl,a1,(a2.sel [0] rfl),b⟩
   ·refine Bd (ah ?_)
    refine An 2 rfl (Ay (rt hQ rfl rfl (by cases b; exact ⟨rfl,q⟩)))
theorem SF (c:Ae) (b:(Ae1 × Ae1 × Int × (List Int))) (f:Ac) (j:RO Ao c f b.1) (g:Ac) (k:RO Ao c g b.2.1) (h:Ac) (l:RO Ar c h b.2.2.2) (r:(Int × Bool)) (a:H3 b = some r) :
  A1 121 [(.agg #[f,g,(iv b.2.2.1),h])] c fun e w'=>e = .returned (.tuple #[(iv r.1),(.bool r.2)]) ∧ Bl c w':=by
 refine cm Tryz.func121 Tryz.ntmps121 rfl fun Q m hP o p=>?_
 unfold H3 at a
 refine Ak fun _ q=>CK rfl o p fun b2 s _ i n=>Aq 2 rfl (q (Ap fun _ t=>(Ak fun _ u=>(AO 0 Bo rfl n rfl rfl (bB a fun u9 v a=>(Bu rfl Tryz.call173 i n (KD s b f (j.ro i) g (k.ro i) h (l.ro i) _ v) rfl fun w _ d x=>(Aq 1 rfl (u (A3 rfl a (fun _ a=>?_) (fun _ a=>?_))))))))))
 ·refine An 2 rfl ?_
  refine Ay (rt m rfl rfl (by cases a; exact ⟨rfl,d⟩))
 ·refine Au (t ?_)
  refine Ak fun _ y=>AO 0 Bo rfl x rfl rfl (bB a fun af z a=>(A7 rfl Tryz.call174 (SB w b f (j.ro d) g (k.ro d) h (l.ro d) _ z) rfl ?_))
  rintro _ ag ⟨rfl,aa⟩
  refine ⟨_,rfl,?_⟩
  have ab:=tm d aa
  refine Aq 2 rfl (y (Ay (rt m rfl rfl (by cases a; exact ⟨rfl,ab⟩))))
theorem J1 (b:Ae) (h:Tab b) (c:Int) (f:Bool) (r:(List Ai)) (a:Fr c f = some r) :
  A1 120 [(iv c),(.bool f)] b fun e w'=>e = .returned (.string (B1 r)) ∧ Bl b w':=by
 refine cm Tryz.func120 Tryz.ntmps120 rfl fun Q g n d _=>?_
 unfold Fr at a
 refine An 1 rfl (Ap fun _ i=>(An 1 rfl (A3 rfl a (fun _ a=>?_) (fun _ a=>?_))))
 ·refine Ak fun _ j=>?_
  refine wp 1 rfl (bB a fun o k a=>(A7 rfl Tryz.call130 (E2 b (h.st d) c _ k) rfl ?_))
  rintro _ p ⟨rfl,l⟩
  refine ⟨_,rfl,?_⟩
  have m:=tm d l
  refine Aq 1 rfl (j (Ay (rt g rfl rfl (by cases a; exact ⟨rfl,m⟩))))
 ·refine Au (i ?_)
  refine An 1 rfl (Ay (rt g rfl rfl (by cases a; exact ⟨rfl,d⟩)))
theorem HA (c:Ae) (d:Ae1) (j:Ac) (y:RO Ao c j d) (g:Ae1) (n:Ac) (ac:RO Ao c n g) (f:Int) (r:((Ae1 × Ae1 × Int × (List Int)) × Bool)) (b:EQ d g f = some r) :
  A1 123 [j,n,(iv f)] c fun e w'=>∃ (q0:Ac) (G0:Al) (q1:Ac) (G1:Al) (q2:Ac) (G2:Al),e = .returned (.tuple #[(.agg #[q0,q1,(iv r.1.2.2.1),q2]),(.bool r.2)]) ∧ Bl c w' ∧ Sp c w' [Ab Ao G0 q0 r.1.1,Ab Ao G1 q1 r.1.2.1,Ab Ar G2 q2 r.1.2.2.2]:=by
 refine cm Tryz.func123 Tryz.ntmps123 rfl fun Q hQ hP hB hS=>?_
 unfold EQ at b
 refine Ak fun _ ax=>Ei Bo rfl hB hS fun b2 w3 _ z az=>Aq 1 rfl (ax (Ap fun _ a0=>(Ak fun _ a1=>(wp 3 rfl (bB b fun u9 a2 b=>(Bu rfl Tryz.call169 z az (Oi w3 d j (y.ro z) g n (ac.ro z) f _ a2) rfl fun b1 _ ai aj=>(Aq 1 rfl (a1 (A3 rfl b (fun _ b=>?_) (fun _ b=>?_))))))))))
 ·refine Ak fun _ a3=>?_
  refine DV (zs:=[(.slice none 0 0),(.slice none 0 0),(iv 0),(.slice none 0 0)]) (out:=[(.slice none 0 0),(.slice none 0 0),(iv 0),(.slice none 0 0)]) (vs:=[]) (css:=[]) Bo Po rfl rfl rfl rfl rfl (Gj 0 Bo rfl rfl ai aj rfl rfl rfl fun b3 _ a4 ak=>(Aq 1 rfl (a3 (Ay ?_))))
  have a5:=ak.push0 (r:=Ab Ao [] (.slice none 0 0) []) rfl fun _=>.inl ⟨rfl,rfl,rfl⟩
  have a6:=a5.push0 (r:=Ab Ao [] (.slice none 0 0) []) rfl fun _=>.inl ⟨rfl,rfl,rfl⟩
  have a7:=a6.push0 (r:=Ab Ar [] (.slice none 0 0) []) rfl fun _=>.inl ⟨rfl,rfl,rfl⟩
  obtain rfl:=Option.some.inj b
  exact IM (vs:=[(.agg #[(.slice none 0 0),(.slice none 0 0),(iv 0),(.slice none 0 0)]),(.bool false)]) hQ rfl ⟨Ha (i:=0) Bo rfl ak rfl rfl rfl,Jk rfl,trivial⟩ ⟨(.slice none 0 0),[],(.slice none 0 0),[],(.slice none 0 0),[],rfl,a4,a7.sel [2,1,0] rfl⟩
 ·refine Au (a0 ?_)
  refine Ak fun _ a8=>Bc (vs:=[]) (l:=[]) Co Tryz.underlying36 rfl rfl rfl rfl rfl rfl ai aj fun a9 ba b4 _ bb bc=>Aq 1 rfl (a8 (Ap fun _ bd=>(Ak fun _ be=>(wp 1 rfl (BX y Tryz.underlying26 rfl (Aq 1 rfl (be (A0 (AU (fun m a q=>∃ (s:(List Int)) (h:Int) (t:Ac) (al:Al),St 32 [(0,j),(1,n),(2,(iv f)),(6,(.pointer (some ⟨b2,0,none⟩))),(8,t),(18,(iv (List.length d:Int))),(19,(iv h))] a ∧ Bl c q ∧ Sp c q [A5 b2 128 [(.slice none 0 0),(.slice none 0 0),(iv 0),(.slice none 0 0)],Ab Ar al t s] ∧ Dg d g f m s h = some r) FU ?_ ?_)))))))))
  ·exact fun a ha=>⟨[],0,a9,ba,ha.sb rfl,bb,(bc.sel [1,0] rfl),b⟩
  ·rintro o a q ⟨s,h,t,al,ha,p,aa,b⟩ b5 bf
   refine BE ?_ ha
   cases o with
   | zero=>exact Bg b
   | succ o =>
    obtain ⟨b6,am⟩:∃ k,k = Dg d g f o:=⟨_,rfl⟩
    rw [Dg,← am] at b
    refine An 1 rfl (Ap fun _ bg=>(A3 rfl b (fun _ b=>?_) (fun _ b=>?_)))
    ·refine Au (bg ?_)
     refine Ap fun _ bh=>A0 (An 2 rfl (As (wp 2 rfl (Bc (vs:=[(iv h)]) (l:=[h]) Co Tryz.underlying36 rfl rfl rfl rfl rfl rfl p aa fun b7 b8 bi _ bj an=>(bB b fun bk bl b=>(AF (i:=2) (S:=(· < bi.heap.size)) Co Tryz.underlying36 rfl rfl rfl bj an rfl (an.own_ro (i:=0) rfl) bl fun bm bn b9 _ bo bp=>(Aq 1 rfl (bh (As (Aq 2 rfl ?_))))))))))
     rw [am] at b
     exact fun a ha=>bf a _ o (AB o) ⟨bk,(Ag (h + 1)),bm,bn,ha.sb rfl,bo,(bp.sel [1,2] rfl),b⟩
    ·refine Bd (bd ?_)
     refine Ak fun _ bq=>wp 4 rfl (bB b fun ab br b=>(A7 rfl Tryz.call170 (Kd q d j (y.ro p) g n (ac.ro p) f s t (aa.own_ro (i:=1) rfl) _ br) rfl ?_))
     rintro _ ca ⟨u,bs,v,bt,w,bu,rfl,ao,bv⟩
     refine ⟨_,rfl,?_⟩
     have bw:=tm p ao
     have x:=aa.join ao bv p.size
     refine B9 (i:=3) (vs:=[u,v,(iv ab.2.2.1),w]) (cs':=[u,v,(iv ab.2.2.1),w]) Bo rfl rfl rfl rfl bw x rfl rfl ⟨(x.own_ro (i:=0) rfl).one,(x.own_ro (i:=1) rfl).one,rfl,(x.own_ro (i:=2) rfl).one,trivial⟩ rfl fun cb _ bx ap=>Aq 1 rfl (bq (Ay ?_))
     obtain rfl:=Option.some.inj b
     exact IM (vs:=[(.agg #[u,v,(iv ab.2.2.1),w]),(.bool true)]) hQ rfl ⟨Ha (i:=3) Bo rfl ap rfl rfl rfl,Jk rfl,trivial⟩ ⟨u,bs,v,bt,w,bu,rfl,bx,ap.sel [0,1,2] rfl⟩
theorem P7 (b:Ae) (c:Int) (r:Bool) (a:I0 c = some r) :
  A1 178 [(iv c)] b fun e w'=>e = .returned (.bool r) ∧ Bl b w':=by
 refine cm Tryz.func178 Tryz.ntmps178 rfl fun Q d k f _=>?_
 unfold I0 at a
 refine An 1 rfl (Ak fun _ g=>(wp 1 rfl (bB a fun l h a=>(A7 rfl Tryz.call60 (Cr b c 0 80 _ h) rfl ?_))))
 rintro _ m ⟨rfl,i⟩
 refine ⟨_,rfl,?_⟩
 have j:=tm f i
 refine Aq 1 rfl (g (Ay (rt d rfl rfl (by cases a; exact ⟨rfl,j⟩))))
theorem MJ (q:Ae) (g:(Ae1 × Ae1 × Int × (List Int))) (z:Ac) (ap:RO Ao q z g.1) (aa:Ac) (aq:RO Ao q aa g.2.1) (v:Ac) (af:RO Ar q v g.2.2.2) (r:(List Ae3)) (c:H1 g = some r) :
  A1 219 [(.agg #[z,aa,(iv g.2.2.1),v])] q fun e w'=>∃ (q0:Ac) (G0:Al),e = .returned q0 ∧ Bl q w' ∧ Sp q w' [Ab C4 G0 q0 r]:=by
 refine cm Tryz.func219 Tryz.ntmps219 rfl fun Q hQ d hB hS=>?_
 unfold H1 at c
 refine Ak fun _ ax=>CK rfl hB hS fun s w3 _ ay az=>Aq 1 rfl (ax (Ak fun _ a0=>(Bc (vs:=[]) (l:=[]) QX Tryz.underlying184 rfl rfl rfl rfl rfl rfl ay az fun v8 F9 bq _ a3 ah=>(Aq 1 rfl (a0 (Ap fun _ a4=>(Ak fun _ a5=>(Bp Gu rfl (AO 1 Fu rfl ah rfl rfl (BX af Tryz.underlying36 rfl (Aq 1 rfl (a5 (A0 (AU (fun m a ab=>∃ (ac:(List Ae3)) (w:Int) (x:Ac) (t:Al),St 33 [(1,(.pointer (some ⟨s,0,none⟩))),(3,x),(8,v),(9,(iv (List.length g.2.2.2:Int))),(10,(iv w))] a ∧ Bl q ab ∧ Sp q ab [A5 s 128 [z,aa,(iv g.2.2.1),v],Ab C4 t x ac] ∧ Fj g m ac w = some r) FU ?_ ?_))))))))))))))
 ·exact fun a ha=>⟨[],0,v8,F9,ha.sb rfl,a3,(ah.sel [1,0] rfl),c⟩
 ·rintro u a ab ⟨ac,w,x,t,ha,ad,ai,c⟩ br a6
  refine BE ?_ ha
  cases u with
  | zero=>exact Bg c
  | succ u =>
   obtain ⟨bs,aj⟩:∃ k,k = Fj g u:=⟨_,rfl⟩
   rw [Fj,← aj] at c
   refine An 1 rfl (Ap fun _ a7=>(A3 rfl c (fun _ c=>?_) (fun _ c=>?_)))
   ·refine Au (a7 ?_)
    refine Ap fun _ a8=>A0 (Ak fun _ a9=>(wp 1 rfl (bB c fun bt ba c=>(BP (e:=Ar) Tryz.underlying36 rfl rfl rfl af ba ?_))))
    rintro bu _ rfl bb
    refine BZ A4 rfl (bb.ro ad) rfl (Aq 2 rfl (a9 (AQ B4 t ad ai fun ak _ y n=>?_)))
    have f:=KeepX.refl ak t
    refine Ax 0 rfl d f (Ad 1 rfl d f (C9 E0 rfl (Ad 2 rfl d f (CQ 0 Cm rfl n rfl (n.disj (i:=0) (j:=1) rfl rfl rfl s (by simp [A5])) (Ax 3 rfl d f (bB c fun o bc c=>(Ad 4 rfl d f (BB (e:=Ao) Tryz.underlying26 rfl rfl rfl ap bc ?_))))))))
    rintro bv _ rfl bd
    refine Ad 5 rfl d f (BL Bs rfl (bd.kx y (fun b hb=>(((n.get (i:=1) rfl).2.1 b hb).1))) rfl (Ad 6 rfl d f (C9 KR rfl (Ad 7 rfl d f (CQ 0 Cm rfl n rfl (n.disj (i:=0) (j:=1) rfl rfl rfl s (by simp [A5])) (Ax 8 rfl d f (bB c fun p be c=>(Ad 9 rfl d f (BB (e:=Ao) Tryz.underlying26 rfl rfl rfl aq be ?_)))))))))
    rintro bw _ rfl bf
    refine Ad 10 rfl d f (BL Bs rfl (bf.kx y (fun b hb=>(((n.get (i:=1) rfl).2.1 b hb).1))) rfl (Ad 11 rfl d f (C9 KQ rfl (Ad 12 rfl d f (CQ 0 A4 rfl n rfl (n.disj (i:=0) (j:=1) rfl rfl rfl s (by simp [A5])) (Ad 13 rfl d f (HR (zs:=[(iv 0),(iv 0),(iv 0),(iv 0),(iv 0)]) (out:=[(iv o.1),(iv o.2),(iv p.1),(iv p.2),(iv g.2.2.1)]) (vs:=[(.agg #[(iv o.1),(iv o.2)]),(.agg #[(iv p.1),(iv p.2)]),(iv g.2.2.1)]) (css:=[[(iv o.1),(iv o.2)],[(iv p.1),(iv p.2)],[(iv g.2.2.1)]]) Cz Zd rfl rfl rfl rfl rfl (Av 14 rfl (Bc (vs:=[(.agg #[(iv o.1),(iv o.2),(iv p.1),(iv p.2),(iv g.2.2.1)])]) (l:=[(o,p,g.2.2.1)]) QX Tryz.underlying184 rfl rfl rfl rfl rfl rfl (Bf ak) (Sep.nil _ _) fun bx bz bg ae _ bh=>?_)))))))))
    have bi:=tm y ae
    have al:=n.join ae bh y.size
    have am:=f.ext ae
    refine Ah (Am am (Av 15 rfl (bB c fun bj bk c=>(AF (i:=2) (S:=(· < bg.heap.size)) QX Tryz.underlying184 rfl rfl rfl bi al rfl (al.own_ro (i:=0) rfl) bk fun bl bm b0 an bn bo=>?_))))
    have ao:=am.wr' an.1 an.2.1 (fun _ _ h=>h)
    refine Ah (Am ao (Ad 16 rfl d ao (AC rfl rfl (Ba (a8 (As (Aq 2 rfl ?_)))))))
    rw [aj] at c
    exact fun a ha=>a6 a _ u (AB u) ⟨bj,(Ag (w + 1)),bl,bm,ha.sb rfl,bn,(bo.sel [1,2] rfl),c⟩
   ·refine Bd (a4 ?_)
    refine An 2 rfl (Ay (rt hQ rfl rfl (by cases c; exact ⟨x,t,rfl,ad,ai.sel [1] rfl⟩)))
theorem UL (o:Ae) (a:Ae3) (b:Ae3) (r:((Int × Int) × (Int × Int) × Int × Int)) (p:Lj a b = some r) :
  A1 272 [(.agg #[(iv a.1.1),(iv a.1.2),(iv a.2.1.1),(iv a.2.1.2),(iv a.2.2)]),(.agg #[(iv b.1.1),(iv b.1.2),(iv b.2.1.1),(iv b.2.1.2),(iv b.2.2)])] o fun e w'=>e = .returned (.tuple #[(.agg #[(iv r.1.1),(iv r.1.2)]),(.agg #[(iv r.2.1.1),(iv r.2.1.2)]),(iv r.2.2.1),(iv r.2.2.2)]) ∧ Bl o w':=by
 refine cm Tryz.func272 Tryz.ntmps272 rfl fun Q x d y z=>?_
 unfold Lj at p
 refine Ak fun _ aa=>CK rfl y z fun b2 w3 _ ab ac=>CK rfl ab ac fun b7 w8 _ ad ae=>Ei Bs rfl ad ae fun q a3 _ af ag=>Ei Bs rfl af ag fun s a4 _ ah m=>Aq 2 rfl (aa (Ak fun _ ai=>(Bp Fz rfl (Bp CJ rfl (AO 3 A4 rfl m rfl rfl (Bp Fz rfl (Bp CJ rfl (AO 2 A4 rfl m rfl rfl (wp 1 rfl (Bp Fz rfl (Bp CI rfl (AO 3 A4 rfl m rfl rfl (Bp Fz rfl (Bp CI rfl (AO 2 A4 rfl m rfl rfl (wp 1 rfl (DV (zs:=[(iv 0),(iv 0)]) (out:=[(iv (Ag (a.1.1 - b.1.1))),(iv (Ag (a.1.2 - b.1.2)))]) (vs:=[(iv (Ag (a.1.1 - b.1.1))),(iv (Ag (a.1.2 - b.1.2)))]) (css:=[[(iv (Ag (a.1.1 - b.1.1)))],[(iv (Ag (a.1.2 - b.1.2)))]]) Bs L4 rfl rfl rfl rfl rfl (Ei Bs rfl ah m fun l a5 _ aj ak=>(Gj 0 Bs rfl rfl aj ak rfl rfl rfl fun a6 _ al k=>(Ah (ai (Ak fun _ am=>(Bp Gt rfl (Bp CJ rfl (AO 4 A4 rfl k rfl rfl (Bp Gt rfl (Bp CJ rfl (AO 3 A4 rfl k rfl rfl (wp 1 rfl (Bp CJ rfl (AO 0 A4 rfl k rfl rfl (wp 1 rfl (Bp Gt rfl (Bp CI rfl (AO 4 A4 rfl k rfl rfl (Bp Gt rfl (Bp CI rfl (AO 3 A4 rfl k rfl rfl (wp 1 rfl (Bp CI rfl (AO 0 A4 rfl k rfl rfl (wp 1 rfl (DV (zs:=[(iv 0),(iv 0)]) (out:=[(iv (Ag ((Ag (a.2.1.1 - b.2.1.1)) - (Ag (a.1.1 - b.1.1))))),(iv (Ag ((Ag (a.2.1.2 - b.2.1.2)) - (Ag (a.1.2 - b.1.2)))))]) (vs:=[(iv (Ag ((Ag (a.2.1.1 - b.2.1.1)) - (Ag (a.1.1 - b.1.1))))),(iv (Ag ((Ag (a.2.1.2 - b.2.1.2)) - (Ag (a.1.2 - b.1.2)))))]) (css:=[[(iv (Ag ((Ag (a.2.1.1 - b.2.1.1)) - (Ag (a.1.1 - b.1.1)))))],[(iv (Ag ((Ag (a.2.1.2 - b.2.1.2)) - (Ag (a.1.2 - b.1.2)))))]]) Bs L4 rfl rfl rfl rfl rfl (Ei Bs rfl al k fun g a7 _ an ao=>(Gj 0 Bs rfl rfl an ao rfl rfl rfl fun a8 _ ap aq=>(Ah (am (Ap fun _ ar=>(AQ B4 ([s] ++ [q]) ap aq fun au _ av c=>?_)))))))))))))))))))))))))))))))))))))))))))))))))
 have f:=KeepX.refl au ([s] ++ [q])
 refine Ad 0 rfl d f (CQ 1 Bs rfl c rfl (fun hb=>(AX.1 hb).elim (c.disj (i:=1) (j:=2) rfl rfl rfl l (by simp [A5])) (c.disj (i:=1) (j:=3) rfl rfl rfl l (by simp [A5]))) (Ad 1 rfl d f (CQ 0 Bs rfl c rfl (fun hb=>(AX.1 hb).elim (c.disj (i:=0) (j:=2) rfl rfl rfl g (by simp [A5])) (c.disj (i:=0) (j:=3) rfl rfl rfl g (by simp [A5]))) (Ad 2 rfl d f (C9 CJ rfl (Ad 3 rfl d f (CQ 1 A4 rfl c rfl (fun hb=>(AX.1 hb).elim (c.disj (i:=1) (j:=2) rfl rfl rfl l (by simp [A5])) (c.disj (i:=1) (j:=3) rfl rfl rfl l (by simp [A5]))) (Ad 4 rfl d f (C9 CJ rfl (Ad 5 rfl d f (CQ 0 A4 rfl c rfl (fun hb=>(AX.1 hb).elim (c.disj (i:=0) (j:=2) rfl rfl rfl g (by simp [A5])) (c.disj (i:=0) (j:=3) rfl rfl rfl g (by simp [A5]))) (Ad 6 rfl d f (Jl rfl rfl rfl (Ad 7 rfl d f (C9 CI rfl (Ad 8 rfl d f (CQ 1 A4 rfl c rfl (fun hb=>(AX.1 hb).elim (c.disj (i:=1) (j:=2) rfl rfl rfl l (by simp [A5])) (c.disj (i:=1) (j:=3) rfl rfl rfl l (by simp [A5]))) (Ad 9 rfl d f (C9 CI rfl (Ad 10 rfl d f (CQ 0 A4 rfl c rfl (fun hb=>(AX.1 hb).elim (c.disj (i:=0) (j:=2) rfl rfl rfl g (by simp [A5])) (c.disj (i:=0) (j:=3) rfl rfl rfl g (by simp [A5]))) (Ad 11 rfl d f (Jl rfl rfl rfl (Ad 12 rfl d f (E7 rfl rfl rfl (Ad 13 rfl d f (C9 CJ rfl (Ad 14 rfl d f (CQ 0 A4 rfl c rfl (fun hb=>(AX.1 hb).elim (c.disj (i:=0) (j:=2) rfl rfl rfl g (by simp [A5])) (c.disj (i:=0) (j:=3) rfl rfl rfl g (by simp [A5]))) (Ad 15 rfl d f (C9 CJ rfl (Ad 16 rfl d f (CQ 0 A4 rfl c rfl (fun hb=>(AX.1 hb).elim (c.disj (i:=0) (j:=2) rfl rfl rfl g (by simp [A5])) (c.disj (i:=0) (j:=3) rfl rfl rfl g (by simp [A5]))) (Ad 17 rfl d f (Jl rfl rfl rfl (Ad 18 rfl d f (C9 CI rfl (Ad 19 rfl d f ?_))))))))))))))))))))))))))))))))))))))
 refine CQ 0 A4 rfl c rfl (fun hb=>(AX.1 hb).elim (c.disj (i:=0) (j:=2) rfl rfl rfl g (by simp [A5])) (c.disj (i:=0) (j:=3) rfl rfl rfl g (by simp [A5]))) (Ad 20 rfl d f (C9 CI rfl (Ad 21 rfl d f (CQ 0 A4 rfl c rfl (fun hb=>(AX.1 hb).elim (c.disj (i:=0) (j:=2) rfl rfl rfl g (by simp [A5])) (c.disj (i:=0) (j:=3) rfl rfl rfl g (by simp [A5]))) (Ad 22 rfl d f (Jl rfl rfl rfl (Ad 23 rfl d f (E7 rfl rfl rfl (Av 24 rfl (Gj 3 Bs rfl rfl av c rfl rfl rfl fun a9 t aw ax=>?_))))))))))
 have u:=f.wr' t.1 t.2.1 (fun _ _ h=>Bi _ h)
 refine Ah (Am u (Av 25 rfl (Gj 2 Bs rfl rfl aw ax rfl rfl rfl fun ba v ay w=>?_)))
 have n:=u.wr' v.1 v.2.1 (fun _ _ h=>At _ (h))
 refine Ah (Am n (Ad 26 rfl d n (AC rfl rfl (Ad 27 rfl d n (AC rfl rfl (Ba (ar (Ay ?_))))))))
 obtain rfl:=Option.some.inj p
 exact IM (vs:=[(.agg #[(iv (Ag (a.1.1 - b.1.1))),(iv (Ag (a.1.2 - b.1.2)))]),(.agg #[(iv (Ag ((Ag (a.2.1.1 - b.2.1.1)) - (Ag (a.1.1 - b.1.1))))),(iv (Ag ((Ag (a.2.1.2 - b.2.1.2)) - (Ag (a.1.2 - b.1.2)))))]),(iv (Ag ((Ag ((Ag (a.1.1 - b.1.1)) * (Ag ((Ag (a.2.1.1 - b.2.1.1)) - (Ag (a.1.1 - b.1.1)))))) + (Ag ((Ag (a.1.2 - b.1.2)) * (Ag ((Ag (a.2.1.2 - b.2.1.2)) - (Ag (a.1.2 - b.1.2))))))))),(iv (Ag ((Ag ((Ag ((Ag (a.2.1.1 - b.2.1.1)) - (Ag (a.1.1 - b.1.1)))) * (Ag ((Ag (a.2.1.1 - b.2.1.1)) - (Ag (a.1.1 - b.1.1)))))) + (Ag ((Ag ((Ag (a.2.1.2 - b.2.1.2)) - (Ag (a.1.2 - b.1.2)))) * (Ag ((Ag (a.2.1.2 - b.2.1.2)) - (Ag (a.1.2 - b.1.2)))))))))]) x rfl ⟨Ha (i:=3) Bs rfl w rfl rfl rfl,Ha (i:=2) Bs rfl w rfl rfl rfl,Jk rfl,Jk rfl,trivial⟩ ⟨rfl,ay⟩
theorem Xk (h:Ae) (i:Int) (j:Int) (r:Int) (b:Mq i j = some r) :
  A1 274 [(iv i),(iv j)] h fun e w'=>e = .returned (iv r) ∧ Bl h w':=by
 refine cm Tryz.func274 Tryz.ntmps274 rfl fun Q s c t u=>?_
 unfold Mq at b
 refine An 1 rfl (Ak fun _ v=>(wp 3 rfl (Pf rfl rfl rfl (wp 3 rfl (Pf rfl rfl rfl (Aq 2 rfl (v (Ap fun _ w=>(A0 (AU (fun m a o=>∃ (l:Int) (d:Int),St 20 [(0,(iv l)),(1,(iv d))] a ∧ Bl h o ∧ Sp h o [] ∧ GT m l d = some r) FU ?_ ?_))))))))))
 ·exact fun a ha=>⟨(Fx i (Ag (0 - i))),(Fx j (Ag (0 - j))),ha.sb rfl,t,(u.sel [] rfl),b⟩
 ·rintro g a o ⟨l,d,ha,p,x,b⟩ ad y
  refine BE ?_ ha
  cases g with
  | zero=>exact Bg b
  | succ g =>
   obtain ⟨ae,q⟩:∃ k,k = GT g:=⟨_,rfl⟩
   rw [GT,← q] at b
   refine Ap fun _ z=>An 2 rfl (A3 rfl b (fun _ b=>?_) (fun _ b=>?_))
   ·refine Au (z ?_)
    refine A0 (AQ B4 [] p x fun aa _ ab ac=>?_)
    have f:=KeepX.refl aa []
    refine Ax 0 rfl c f (Ax 1 rfl c f (Ax 2 rfl c f ?_))
    have n:d ≠ 0:=fun n=>Bg (BA n b)
    replace b:=Lp n b
    refine Ad 3 rfl c f (Te rfl rfl rfl n (Ad 4 rfl c f (AC rfl rfl (Ad 5 rfl c f (AC rfl rfl (Ba ?_))))))
    rw [q] at b
    exact fun a ha=>y a _ g (AB g) ⟨d,(Int.tmod l d),ha.sb rfl,ab,(ac.sel [] rfl),b⟩
   ·refine Bd (w ?_)
    refine An 2 rfl (Ay (rt s rfl rfl (by cases b; exact ⟨rfl,p⟩)))
theorem KZ (g:Ae) (h:Int) (i:Int) (r:(Int × Int)) (a:FG h i = some r) :
  A1 261 [(iv h),(iv i)] g fun e w'=>e = .returned (.tuple #[(iv r.1),(iv r.2)]) ∧ Bl g w':=by
 refine cm Tryz.func261 Tryz.ntmps261 rfl fun Q k b l m=>?_
 unfold FG at a
 refine An 2 rfl (Ak fun _ n=>(wp 2 rfl (bB a fun j o a=>(Bu rfl Tryz.call274 l m (Xk g h i _ o) rfl fun v _ p q=>(Aq 1 rfl (n (Ap fun _ s=>(AQ B4 [] p q fun t _ u _=>?_))))))))
 have c:=KeepX.refl t []
 refine Ax 0 rfl b c (Ax 1 rfl b c ?_)
 have d:j ≠ 0:=fun d=>Bg (BA d a)
 replace a:=Lp d a
 refine Ad 2 rfl b c (LX rfl rfl rfl d (Ax 3 rfl b c (Ax 4 rfl b c ?_)))
 have f:j ≠ 0:=fun f=>Bg (BA f a)
 replace a:=Lp f a
 refine Ad 5 rfl b c (LX rfl rfl rfl f (Ad 6 rfl b c (AC rfl rfl (Ad 7 rfl b c (AC rfl rfl (Ba (s (Ay (rt k rfl rfl (by cases a; exact ⟨rfl,u⟩))))))))))
theorem RI (j:Ae) (d:Ae3) (f:Ae3) (r:(Int × Int)) (a:Ie d f = some r) :
  A1 256 [(.agg #[(iv d.1.1),(iv d.1.2),(iv d.2.1.1),(iv d.2.1.2),(iv d.2.2)]),(.agg #[(iv f.1.1),(iv f.1.2),(iv f.2.1.1),(iv f.2.1.2),(iv f.2.2)])] j fun e w'=>e = .returned (.tuple #[(iv r.1),(iv r.2)]) ∧ Bl j w':=by
 refine cm Tryz.func256 Tryz.ntmps256 rfl fun Q g hP l m=>?_
 unfold Ie at a
 refine Ak fun _ n=>CK rfl l m fun b2 w3 _ o p=>CK rfl o p fun b7 q _ s h=>Aq 2 rfl (n (Ak fun _ t=>(AO 1 Cz rfl h rfl rfl (AO 0 Cz rfl h rfl rfl (bB a fun c u a=>(Bu rfl Tryz.call272 s h (UL q d f _ u) rfl fun au _ v w=>(wp 5 rfl (Ei Bs rfl v w fun av aw _ x y=>(Ei Bs rfl x y fun ax ay _ z aa=>(Gj 1 Bs rfl rfl z aa rfl rfl rfl fun az _ ab ac=>(Gj 0 Bs rfl rfl ab ac rfl rfl rfl fun k _ i b=>(Aq 2 rfl (t (Ap fun _ ad=>(A0 (An 3 rfl (A3 rfl a (fun _ a=>?_) (fun _ a=>?_))))))))))))))))))
 ·refine Ak fun _ ae=>?_
  refine Bp CJ rfl (AO 1 A4 rfl b rfl rfl (Bp CJ rfl (AO 1 A4 rfl b rfl rfl (wp 1 rfl (Bp CI rfl (AO 1 A4 rfl b rfl rfl (Bp CI rfl (AO 1 A4 rfl b rfl rfl (Aq 4 rfl (ae (Ay (rt g rfl rfl (by cases a; exact ⟨rfl,i⟩)))))))))))))
 ·refine An 5 rfl ?_
  refine A3 rfl a (fun _ a=>?_) (fun _ a=>?_)
  ·refine Ak fun _ af=>?_
   refine Bp Gt rfl (AO 3 Bs rfl b rfl rfl (Bp Gt rfl (AO 2 Bs rfl b rfl rfl (bB a fun a0 ag a=>(A7 rfl Tryz.call183 (GZ k d.2.1 f.2.1 _ ag) rfl ?_)))))
   rintro _ a1 ⟨rfl,ah⟩
   refine ⟨_,rfl,?_⟩
   have ai:=tm i ah
   refine Aq 2 rfl (af (Ay (rt g rfl rfl (by cases a; exact ⟨rfl,ai⟩))))
  ·refine Au (ad ?_)
   refine Ak fun _ aj=>Bp CJ rfl (AO 1 A4 rfl b rfl rfl (Bp CI rfl (AO 0 A4 rfl b rfl rfl (wp 1 rfl (Bp CI rfl (AO 1 A4 rfl b rfl rfl (Bp CJ rfl (AO 0 A4 rfl b rfl rfl (Aq 3 rfl (aj (Ak fun _ ak=>(wp 4 rfl (bB a fun a2 al a=>(A7 rfl Tryz.call261 (KZ k (Ag ((Ag ((Ag (c.1.1 * c.2.1.2)) - (Ag (c.1.2 * c.2.1.1)))) * (Ag ((Ag (c.1.1 * c.2.1.2)) - (Ag (c.1.2 * c.2.1.1)))))) c.2.2.2 _ al) rfl ?_))))))))))))))
   rintro _ a3 ⟨rfl,am⟩
   refine ⟨_,rfl,?_⟩
   have an:=tm i am
   refine Aq 4 rfl (ak (Ay (rt g rfl rfl (by cases a; exact ⟨rfl,an⟩))))
theorem S9 (d:Ae) (a:Ae3) (b:Ae3) (f:Int) (r:Bool) (c:IA a b f = some r) :
  A1 237 [(.agg #[(iv a.1.1),(iv a.1.2),(iv a.2.1.1),(iv a.2.1.2),(iv a.2.2)]),(.agg #[(iv b.1.1),(iv b.1.2),(iv b.2.1.1),(iv b.2.1.2),(iv b.2.2)]),(iv f)] d fun e w'=>e = .returned (.bool r) ∧ Bl d w':=by
 refine cm Tryz.func237 Tryz.ntmps237 rfl fun Q h u i j=>?_
 unfold IA at c
 refine Ak fun _ k=>CK rfl i j fun v w _ l m=>CK rfl l m fun x n _ o g=>Aq 1 rfl (k (Ak fun _ p=>(AO 1 Cz rfl g rfl rfl (AO 0 Cz rfl g rfl rfl (bB c fun y q c=>(A7 rfl Tryz.call256 (RI n a b _ q) rfl ?_))))))
 rintro _ z ⟨rfl,s⟩
 refine ⟨_,rfl,?_⟩
 have t:=tm o s
 refine Aq 5 rfl (p (An 8 rfl (Ay (rt h rfl rfl (by cases c; exact ⟨rfl,t⟩)))))
theorem Qg (d:Ae) (n:(Ae1 × Ae1 × Int × (List Int))) (ac:Ac) (a3:RO Ao d ac n.1) (ad:Ac) (a4:RO Ao d ad n.2.1) (ae:Ac) (a5:RO Ar d ae n.2.2.2) (f:Int) (r:Ae6) (b:GV n f = some r) :
  A1 215 [(.agg #[ac,ad,(iv n.2.2.1),ae]),(iv f)] d fun e w'=>∃ (q0:Ac) (G0:Al),e = .returned q0 ∧ Bl d w' ∧ Sp d w' [Ab Ci G0 q0 r]:=by
 refine cm Tryz.func215 Tryz.ntmps215 rfl fun Q hQ g hB hS=>?_
 unfold GV at b
 refine Ak fun _ ba=>CK rfl hB hS fun b2 w3 _ v am=>Aq 1 rfl (ba (Ak fun _ bc=>(AO 0 Bo rfl am rfl rfl (bB b fun u8 bd b=>(E6 rfl Tryz.call219 v am (MJ w3 n ac (a3.ro v) ad (a4.ro v) ae (a5.ro v) _ bd) rfl fun o af co _ _ be bf=>(TK (e:=Ci) Tryz.underlying155 rfl be bf fun bg bh cp _ bi an=>(Aq 2 rfl (bc (Ap fun _ bj=>(Ak fun _ bk=>(wp 1 rfl (BX (an.own_ro (i:=1) rfl) Tryz.underlying184 rfl (Aq 1 rfl (bk (A0 (AU (fun m a ag=>∃ (w:Ae6) (c:Int) (p:Ac) (x:Al),St 44 [(1,(iv f)),(5,o),(6,p),(13,(iv (List.length u8:Int))),(14,(iv c))] a ∧ Bl d ag ∧ Sp d ag [Ab C4 af o u8,Ab Ci x p w] ∧ Dz u8 f m w c = some r) FU ?_ ?_))))))))))))))))
 ·exact fun a ha=>⟨[],0,bg,bh,ha.sb rfl,bi,(an.sel [1,0] rfl),b⟩
 ·rintro q a ag ⟨w,c,p,x,ha,ao,ap,b⟩ cq bl
  refine BE ?_ ha
  cases q with
  | zero=>exact Bg b
  | succ q =>
   obtain ⟨aq,ar⟩:∃ k,k = Dz u8 f q:=⟨_,rfl⟩
   rw [Dz,← ar] at b
   refine An 1 rfl (Ap fun _ bm=>(A3 rfl b (fun _ b=>?_) (fun _ b=>?_)))
   ·refine Au (bm ?_)
    refine Ap fun _ bn=>A0 (An 2 rfl (An 3 rfl (A0 (AU (fun m a ah=>∃ (s:Ae6) (j:Int) (t:Ac) (y:Al),St 44 [(1,(iv f)),(5,o),(6,t),(7,(iv c)),(8,(iv j)),(13,(iv (List.length u8:Int))),(14,(iv c))] a ∧ Bl d ah ∧ Sp d ah [Ab C4 af o u8,Ab Ci y t s] ∧ Dy u8 c f aq m s j = some r) FU ?_ ?_))))
    ·exact fun a ha=>⟨w,(Ag (c + 1)),p,x,ha.sb rfl,ao,(ap.sel [0,1] rfl),b⟩
    ·rintro u a ah ⟨s,j,t,y,ha,au,ai,b⟩ cr bo
     refine BE ?_ ha
     cases u with
     | zero=>exact Bg b
     | succ u =>
      obtain ⟨cs,av⟩:∃ k,k = Dy u8 c f aq u:=⟨_,rfl⟩
      rw [Dy,← av] at b
      refine Ap fun _ bp=>Ak fun _ bq=>wp 2 rfl (BX (ai.own_ro (i:=0) rfl) Tryz.underlying184 rfl (Aq 1 rfl (bq (A3 rfl b (fun _ b=>?_) (fun _ b=>?_)))))
      ·refine Au (bp ?_)
       refine Ap fun br bs=>?_
       obtain ⟨bt,bu,b⟩:=Cj b
       have aw:∀ (z:Ae6) (aa:Ac) (aj:Al) (ab:Ae) (_:bt z = some r) (_:Bl d ab) (_:Sp d ab [Ab C4 af o u8,Ab Ci aj aa z]),∀ a,St 44 [(1,(iv f)),(5,o),(6,aa),(7,(iv c)),(8,(iv j)),(13,(iv (List.length u8:Int))),(14,(iv c))] a → br a ab:=by
        intro z aa aj ab b bv bw
        subst bu
        refine bs (As (Aq 3 rfl ?_))
        rw [av] at b
        exact fun a ha=>bo a _ u (AB u) ⟨z,(Ag (j + 1)),aa,aj,ha.sb rfl,bv,(bw.sel [0,1] rfl),b⟩
       refine A0 (Ap fun _ bx=>(AQ B4 [] au ai fun ax _ bz ak=>?_))
       have h:=KeepX.refl ax []
       refine Ax 0 rfl g h (Ax 1 rfl g h (bB b fun b0 b1 b=>(Ad 2 rfl g h (Bv (e:=C4) (i:=0) Tryz.underlying184 rfl rfl rfl ak rfl b1 ?_))))
       rintro ct _ rfl b3 cu
       refine Ad 3 rfl g h (BL Cz rfl (b3.kx0) rfl (Ax 4 rfl g h (Ax 5 rfl g h (bB b fun b4 b5 b=>(Ad 6 rfl g h (Bv (e:=C4) (i:=0) Tryz.underlying184 rfl rfl rfl ak rfl b5 ?_))))))
       rintro cv _ rfl b6 cw
       refine Ad 7 rfl g h (BL Cz rfl (b6.kx0) rfl (Ax 8 rfl g h (Av 9 rfl (bB b fun cx b7 b=>(Bu rfl Tryz.call237 bz ak (S9 ax b0 b4 f _ b7) rfl fun cy b8 ay az=>?_)))))
       have a0:=h.ext b8
       refine Ah (Am a0 (Ad 10 rfl g a0 (KM rfl rfl (Ba (bx (A3 rfl b (fun _ b=>?_) (fun _ b=>?_)))))))
       ·refine As ?_
        refine wp 3 rfl (Bc (vs:=[(iv c),(iv j)]) (l:=[c,j]) Co Tryz.underlying36 rfl rfl rfl rfl rfl rfl ay az fun a1 b9 cz _ ca a2=>?_)
        have cb:=a2.sel [0,1,2] rfl
        have cc:=cb.head (r':=Qc Ci b9 [a1] [c,j]) (rfl) fun _ h0=>⟨_,rfl,h0⟩
        refine N5 (e:=Ci) (vs:=[a1]) Tryz.underlying155 rfl rfl (Ce (a2.own_ro (i:=0) rfl).one) rfl ca cc fun c0 c1 c2 _ _ ce cf=>bB b fun cg ch b=>Lb (e:=Ci) Tryz.underlying155 rfl rfl rfl ce (cf.sel [2,0,1] rfl) ch fun ci cj c3 _ ck cl=>Aq 1 rfl ?_
        exact jx (aw cg ci cj _ b ck (cl.sel [1,0] rfl)) rfl
       ·refine Au ?_
        exact jx (aw s t y _ b ay (az.sel [0,1] rfl)) rfl
      ·refine Bd (bn ?_)
       refine As (Aq 2 rfl ?_)
       rw [ar] at b
       exact fun a ha=>bl a _ q (AB q) ⟨s,(Ag (c + 1)),t,y,ha.sb rfl,au,(ai.sel [0,1] rfl),b⟩
   ·refine Bd (bj ?_)
    refine An 2 rfl (Ay (rt hQ rfl rfl (by cases b; exact ⟨p,x,rfl,ao,ap.sel [1] rfl⟩)))
theorem Qh (d:Ae) (f:(Ae1 × Ae1 × Int × (List Int))) (g:Ac) (p:RO Ao d g f.1) (h:Ac) (q:RO Ao d h f.2.1) (i:Ac) (s:RO Ar d i f.2.2.2) (j:Int) (r:(Ae6 × Bool)) (b:GW f j = some r) :
  A1 175 [(.agg #[g,h,(iv f.2.2.1),i]),(iv j)] d fun e w'=>∃ (t:Ac) (G0:Al),e = .returned (.tuple #[t,(.bool r.2)]) ∧ Bl d w' ∧ Sp d w' [Ab Ci G0 t r.1]:=by
 refine cm Tryz.func175 Tryz.ntmps175 rfl fun Q u hP hB hS=>?_
 unfold GW at b
 refine Ak fun _ ad=>CK rfl hB hS fun v w3 _ m w=>Aq 2 rfl (ad (Ap fun _ af=>(Ap fun K8 ah=>?_)))
 obtain ⟨ai,aj,b⟩:=Cj b
 have x:∀ (n:Bool) (k:Ae) (_:ai n = some r) (_:Bl d k) (_:Sp d k [A5 v 128 [g,h,(iv f.2.2.1),i]]),∀ a,St 17 [(1,(iv j)),(2,(.pointer (some ⟨v,0,none⟩))),(13,(.bool n))] a → K8 a k:=by
  intro n k b l o
  subst aj
  refine ah (A3 rfl b (fun _ b=>?_) (fun _ b=>?_))
  ·refine An 2 rfl ?_
   refine Ay ?_
   have ak:=o.push0 (r:=Ab Ci [] (.slice none 0 0) []) rfl fun _=>.inl ⟨rfl,rfl,rfl⟩
   refine rt u rfl rfl (by cases b; exact ⟨(.slice none 0 0),[],rfl,l,ak.sel [0] rfl⟩)
  ·refine Au (af ?_)
   refine Ak fun _ al=>AO 0 Bo rfl o rfl rfl (wp 1 rfl (bB b fun a1 am b=>(E6 rfl Tryz.call215 l o (Qg k f g (p.ro l) h (q.ro l) i (s.ro l) j _ am) rfl fun an ao a2 _ _ ap aq=>(Aq 2 rfl (al (Ay (rt u rfl rfl (by cases b; exact ⟨an,ao,rfl,ap,aq.sel [0] rfl⟩))))))))
 refine As (AO 0 Bo rfl w rfl rfl (bB b fun ar au b=>(Bu rfl Tryz.call173 m w (KD w3 f g (p.ro m) h (q.ro m) i (s.ro m) _ au) rfl fun av _ y z=>(wp 2 rfl ?_))))
 rcases bE (!ar) with c | c
 ·replace b:=BA c b
  refine wo rfl c (wo rfl c (wo rfl c (AA rfl rfl c rfl (Ah ?_))))
  exact jx (x true _ b y (z.sel [0] rfl)) rfl
 ·replace b:=Cf c b
  refine wn rfl c (wp 1 rfl (wn rfl c (bB b fun aw ax b=>(Bu rfl Tryz.call178 y z (P7 av j _ ax) rfl fun a3 _ ay az=>(wn rfl c (wp 1 rfl (A9 rfl rfl c rfl (Ah ?_))))))))
  exact jx (x ((!aw)) _ b ay (az.sel [0] rfl)) rfl
theorem N2 (f:Ae) (s:Tab f) (j:(Ae1 × Ae1 × Int × Ae1 × Ae2 × Ae4)) (p0:Addr) (af:Ac) (bx:RO Ao f af j.1) (ag:Ac) (bz:RO Ao f ag j.2.1) (b0:Ac) (gm:RO BN f b0 j.2.2.2.1) (b1:Ac) (gn:RO Az f b1 j.2.2.2.2.1) (b2:Ac) (go:RO Ch f b2 j.2.2.2.2.2) (a4:EAt (· < f.heap.size) f p0 [af,ag,(iv j.2.2.1),b0,b1,b2]) (x1:Int) (r:(List Ai)) (c:GI j x1 = some r) :
  A1 122 [(.pointer (some p0)),(iv x1)] f fun e w'=>e = .returned (.string (B1 r)) ∧ Bl f w':=by
 refine cm Tryz.func122 Tryz.ntmps122 rfl fun Q hQ d hB hS=>?_
 unfold GI at c
 refine An 1 rfl (Ap fun K2 dh=>?_)
 obtain ⟨di,dj,c⟩:=jE4 c
 have b3:∀ (l7:Ae1) (aj:Ae1) (ak:Int) (al:(List Int)) (v8:Ac) (F9:Al) (an:Ac) (b5:Al) (ao:Ac) (b7:Al) (b6:Nat) (y:Ae) (_:di l7 aj ak al = some r) (_:Bl f y) (_:Sp f y [Ab Ao F9 v8 l7,Ab Ao b5 an aj,Ab Ar b7 ao al,A5 b6 128 [v8,an,(iv ak),ao]]),∀ a,St 62 [(1,(iv x1)),(5,(.pointer (some ⟨b6,0,none⟩)))] a → K2 a y:=by
  intro l7 aj ak al v8 F9 an b5 ao b7 b6 y c dk z
  subst dj
  refine dh (Ak fun _ dl=>(AO 3 Bo rfl z rfl rfl (wp 1 rfl (bB c fun t dm c=>(E6 rfl Tryz.call175 dk z (Qh y (l7,aj,ak,al) v8 (z.own_ro (i:=0) rfl) an (z.own_ro (i:=1) rfl) ao (z.own_ro (i:=2) rfl) x1 _ dm) rfl fun ap b8 gp _ _ a7 b9=>(Aq 5 rfl (dl (Ap fun _ dn=>(An 2 rfl (A3 rfl c (fun _ c=>?_) (fun _ c=>?_)))))))))))
  ·refine An 1 rfl ?_
   refine Ay (rt hQ rfl rfl (by cases c; exact ⟨rfl,a7⟩))
  ·refine Au (dn ?_)
   refine Ap fun _ dp=>Ak fun _ dq=>wp 1 rfl (BX (b9.own_ro (i:=0) rfl) Tryz.underlying155 rfl (Aq 1 rfl (dq (A3 rfl c (fun _ c=>?_) (fun _ c=>?_)))))
   ·refine An 1 rfl ?_
    refine Ay (rt hQ rfl rfl (by cases c; exact ⟨rfl,a7⟩))
   ·refine Au (dp ?_)
    refine Ak fun _ dr=>Bc (vs:=[]) (l:=[]) I6 Tryz.underlying61 rfl rfl rfl rfl rfl rfl a7 b9 fun ds dt gq _ du ca=>Aq 1 rfl (dr (Ap fun _ dv=>(Ak fun _ dw=>(wp 1 rfl (BX (ca.own_ro (i:=1) rfl) Tryz.underlying155 rfl (Aq 1 rfl (dw (A0 (AU (fun m a aq=>∃ (ar:(List (List Ai))) (aa:Int) (au:Ac) (ab:Al),St 62 [(9,au),(40,ap),(41,(iv (List.length t.1:Int))),(42,(iv aa))] a ∧ Bl f aq ∧ Sp f aq [Ab Cy ab au ar,Ab Ci b8 ap t.1] ∧ CE t m ar aa = some r) FU ?_ ?_)))))))))
    ·exact fun a ha=>⟨[],0,ds,dt,ha.sb rfl,du,(ca.sel [0,1] rfl),c⟩
    ·rintro ac a aq ⟨ar,aa,au,ab,ha,cb,a8,c⟩ gr dx
     refine BE ?_ ha
     cases ac with
     | zero=>exact Bg c
     | succ ac =>
      obtain ⟨gs,cc⟩:∃ k,k = CE t ac:=⟨_,rfl⟩
      rw [CE,← cc] at c
      refine An 1 rfl (Ap fun _ dy=>(A3 rfl c (fun _ c=>?_) (fun _ c=>?_)))
      ·refine Au (dy ?_)
       refine Ap fun dz d0=>?_
       obtain ⟨d1,d2,c⟩:=Cj c
       have a9:∀ (av:(List (List Ai))) (aw:Ac) (ba:Al) (ax:Ae) (_:d1 av = some r) (_:Bl f ax) (_:Sp f ax [Ab Cy ba aw av,Ab Ci b8 ap t.1]),∀ a,St 62 [(9,aw),(40,ap),(41,(iv (List.length t.1:Int))),(42,(iv aa))] a → dz a ax:=by
        intro av aw ba ax c d3 d4
        subst d2
        refine d0 (As (Aq 2 rfl ?_))
        rw [cc] at c
        exact fun a ha=>dx a _ ac (AB ac) ⟨av,(Ag (aa + 1)),aw,ba,ha.sb rfl,d3,(d4.sel [0,1] rfl),c⟩
       refine A0 (Ak fun _ d5=>(bB c fun gt d6 c=>(Cw (e:=Ci) (i:=1) Tryz.underlying155 rfl rfl rfl a8 rfl d6 ?_)))
       rintro gu _ ⟨gv,rfl,ay⟩ d7 gw
       refine BZ Fu rfl d7 rfl (Aq 1 rfl (d5 (AQ B4 ab cb a8 fun u d8 v bb=>?_)))
       have ay:=ay.ro d8
       have n:=KeepX.refl u ab
       refine Ax 0 rfl d n (Ax 1 rfl d n (bB c fun bc d9 c=>(Ad 2 rfl d n (BB (e:=Ar) Tryz.underlying36 rfl rfl rfl ay d9 ?_))))
       rintro gx _ rfl cd
       refine Ax 6 rfl d n (bB c fun bd ea c=>(Ad 7 rfl d n (BB (e:=Ar) Tryz.underlying36 rfl rfl rfl ay ea ?_)))
       rintro gy _ rfl be
       refine C0 (is:=[3,8]) (by kernel_rfl) rfl (Bb.2 ⟨⟨_,rfl,?_⟩,Bb.2 ⟨⟨_,rfl,?_⟩,fun _ h=>by cases h⟩⟩)
       ·refine BZ A4 rfl cd rfl ?_
        refine Ah (Am n (C0 (is:=[4,8]) (by kernel_rfl) rfl (Bb.2 ⟨⟨_,rfl,?_⟩,Bb.2 ⟨⟨_,rfl,?_⟩,fun _ h=>by cases h⟩⟩)))
        ·refine bB c fun gz eb c=>?_
         refine Bu rfl Tryz.call130 v bb (E2 u (s.st v) bc _ eb) rfl fun ce cf cg ec=>?_
         have az:=n.ext cf
         have ed:Below u.heap.size u ce:=cf
         refine Ah (Am az (bB c fun g0 ee c=>(Ad 5 rfl d az (ER rfl rfl rfl ee (Av 8 rfl (BZ A4 rfl (be.ro ed) rfl (Ah (Am az (Av 9 rfl (bB c fun g1 ef c=>(Bu rfl Tryz.call130 cg ec (E2 ce (s.st cg) bd _ ef) rfl fun eg eh ch ei=>?_)))))))))))
         have bf:=az.ext eh
         refine Ah (Am bf (bB c fun ci ej c=>(Ad 10 rfl d bf (ER rfl rfl rfl ej (Av 11 rfl (Bc (vs:=[(.string (B1 ci))]) (l:=[ci]) I6 Tryz.underlying61 rfl rfl rfl rfl rfl rfl (Bf eg) (Sep.nil _ _) fun g2 g3 ek bg _ el=>?_))))))
         have em:=tm ch bg
         have cj:=ei.join bg el ch.size
         have ck:=bf.ext bg
         refine Ah (Am ck (Av 12 rfl (bB c fun en eo c=>(AF (i:=1) (S:=(· < ek.heap.size)) I6 Tryz.underlying61 rfl rfl rfl em cj rfl (cj.own_ro (i:=0) rfl) eo fun ep eq g4 cl er es=>?_))))
         have cn:=ck.wr' cl.1 cl.2.1 (fun _ _ h=>h)
         refine Ah (Am cn (Ad 13 rfl d cn (AC rfl rfl (Ba ?_))))
         exact jx (a9 en ep eq _ c er (es.sel [1,2] rfl)) rfl
        ·refine BZ A4 rfl be rfl ?_
         refine Ah (Am n (Av 4 rfl (bB c fun g5 et c=>(Bu rfl Tryz.call130 v bb (E2 u (s.st v) bc _ et) rfl fun eu ev co ew=>?_))))
         have bh:=n.ext ev
         refine Ah (Am bh (bB c fun g6 ex c=>(Ad 5 rfl d bh (ER rfl rfl rfl ex (Av 9 rfl (bB c fun g7 ey c=>(Bu rfl Tryz.call130 co ew (E2 eu (s.st co) bd _ ey) rfl fun ez e0 cp e1=>?_)))))))
         have bi:=bh.ext e0
         refine Ah (Am bi (bB c fun cq e2 c=>(Ad 10 rfl d bi (ER rfl rfl rfl e2 (Av 11 rfl (Bc (vs:=[(.string (B1 cq))]) (l:=[cq]) I6 Tryz.underlying61 rfl rfl rfl rfl rfl rfl (Bf ez) (Sep.nil _ _) fun g8 g9 e3 bj _ e4=>?_))))))
         have e5:=tm cp bj
         have cr:=e1.join bj e4 cp.size
         have cs:=bi.ext bj
         refine Ah (Am cs (Av 12 rfl (bB c fun e6 e7 c=>(AF (i:=1) (S:=(· < e3.heap.size)) I6 Tryz.underlying61 rfl rfl rfl e5 cr rfl (cr.own_ro (i:=0) rfl) e7 fun e8 e9 hc ct fa fb=>?_))))
         have cu:=cs.wr' ct.1 ct.2.1 (fun _ _ h=>h)
         refine Ah (Am cu (Ad 13 rfl d cu (AC rfl rfl (Ba ?_))))
         exact jx (a9 e6 e8 e9 _ c fa (fb.sel [1,2] rfl)) rfl
       ·refine BZ A4 rfl be rfl ?_
        refine Ah (Am n (Av 3 rfl (BZ A4 rfl cd rfl (Ah (Am n (Av 4 rfl (bB c fun hd fc c=>(Bu rfl Tryz.call130 v bb (E2 u (s.st v) bc _ fc) rfl fun fd fe cv ff=>?_))))))))
        have bk:=n.ext fe
        refine Ah (Am bk (bB c fun he fg c=>(Ad 5 rfl d bk (ER rfl rfl rfl fg (Av 9 rfl (bB c fun hf fh c=>(Bu rfl Tryz.call130 cv ff (E2 fd (s.st cv) bd _ fh) rfl fun fi fj cw fk=>?_)))))))
        have bl:=bk.ext fj
        refine Ah (Am bl (bB c fun cx fl c=>(Ad 10 rfl d bl (ER rfl rfl rfl fl (Av 11 rfl (Bc (vs:=[(.string (B1 cx))]) (l:=[cx]) I6 Tryz.underlying61 rfl rfl rfl rfl rfl rfl (Bf fi) (Sep.nil _ _) fun hg hh fm bm _ fn=>?_))))))
        have fo:=tm cw bm
        have cy:=fk.join bm fn cw.size
        have cz:=bl.ext bm
        refine Ah (Am cz (Av 12 rfl (bB c fun fp fq c=>(AF (i:=1) (S:=(· < fm.heap.size)) I6 Tryz.underlying61 rfl rfl rfl fo cy rfl (cy.own_ro (i:=0) rfl) fq fun fr fs hi c0 ft fu=>?_))))
        have c1:=cz.wr' c0.1 c0.2.1 (fun _ _ h=>h)
        refine Ah (Am c1 (Ad 13 rfl d c1 (AC rfl rfl (Ba ?_))))
        exact jx (a9 fp fr fs _ c ft (fu.sel [1,2] rfl)) rfl
      ·refine Bd (dv ?_)
       refine Ak fun _ fv=>wp 1 rfl (bB c fun hj fw c=>(A7 rfl Tryz.call176 (Px aq ar au ab (a8.ok (i:=0) rfl) [32] _ fw) rfl ?_))
       rintro _ hk ⟨rfl,fx⟩
       refine ⟨_,rfl,?_⟩
       have fy:=tm cb fx
       refine Aq 1 rfl (fv (Ay (rt hQ rfl rfl (by cases c; exact ⟨rfl,fy⟩))))
 refine AQ B4 [] hB hS fun q _ p c2=>?_
 have g:=KeepX.refl q []
 refine Ax 0 rfl d g (Ad 1 rfl d g (B8 rfl rfl (Ad 2 rfl d g (C6 (o:=1) R8 rfl rfl (Ad 3 rfl d g (BL Cm rfl (EAt.addk (a4.kx p (by simp)) 1) rfl (Ax 4 rfl d g (Ad 5 rfl d g (B8 rfl rfl (Ad 6 rfl d g (C6 (o:=0) HM rfl rfl (Ad 7 rfl d g (BL Cm rfl (EAt.addk (a4.kx p (by simp)) 0) rfl (Ax 8 rfl d g (Ad 9 rfl d g (B8 rfl rfl (Ad 10 rfl d g (C6 (o:=2) R7 rfl rfl (Ad 11 rfl d g (BL A4 rfl (EAt.addk (a4.kx p (by simp)) 2) rfl (C0 (is:=[12,16]) (by kernel_rfl) rfl (Bb.2 ⟨⟨_,rfl,?_⟩,Bb.2 ⟨⟨_,rfl,?_⟩,fun _ h=>by cases h⟩⟩))))))))))))))))))))))
 ·refine bB c fun w fz c=>?_
  refine A7 rfl Tryz.call123 (HA q j.2.1 ag (bz.ro p) j.1 af (bx.ro p) j.2.2.1 _ fz) rfl ?_
  rintro _ f0 ⟨bn,f1,bo,f2,bp,f3,rfl,a0,f4⟩
  refine ⟨_,rfl,?_⟩
  have c3:=tm p a0
  have f5:=c2.join a0 f4 p.size
  have ad:=g.ext a0
  have f6:=Aw (Nat.le_refl q.heap.size) a0.size
  refine Ah (Am ad (Ax 13 rfl d ad (Ad 14 rfl d ad (AV rfl rfl rfl (Ad 15 rfl d ad (AV rfl rfl rfl (Av 16 rfl (Ei Bo rfl (Bf f0) (Sep.nil _ _) fun c4 hl bq _ c5=>?_))))))))
  have f7:=tm c3 bq
  have a1:=f5.join bq c5 c3.size
  have f8:∀ b ∈ [c4],q.heap.size ≤ b:=fun b hb=>Aw f6 ((c5.1 _ (List.mem_cons_self ..)).2.1 b hb).1
  have c6:=ad.ext bq
  refine Ah (Am c6 (Av 17 rfl (B9 (i:=0) (vs:=[bn,bo,(iv w.1.2.2.1),bp]) (cs':=[bn,bo,(iv w.1.2.2.1),bp]) Bo rfl rfl rfl rfl f7 a1 rfl rfl ⟨(a1.own_ro (i:=1) rfl).one,(a1.own_ro (i:=2) rfl).one,rfl,(a1.own_ro (i:=3) rfl).one,trivial⟩ rfl fun hm c7 f9 ga=>?_)))
  have c8:=c6.wr' c7.1 c7.2.1 (fun b hlt hb=>absurd hlt (AK.2 (f8 b hb)))
  refine Ah (Am c8 (Ad 18 rfl d c8 (AC rfl rfl (Ba ?_))))
  exact jx (b3 (w.1.1) (w.1.2.1) (w.1.2.2.1) (w.1.2.2.2) bn f1 bo f2 bp f3 c4 _ c f9 (ga.sel [1,2,3,0] rfl)) rfl
 ·refine Ei Bo rfl (Bf q) (Sep.nil _ _) fun c9 gb br _ da=>?_
  have a2:=tm p br
  have gc:=c2.join br da p.size
  have gd:∀ b ∈ [c9],q.heap.size ≤ b:=fun b hb=>Aw (Nat.le_refl q.heap.size) ((da.1 _ (List.mem_cons_self ..)).2.1 b hb).1
  have db:=g.ext br
  refine Ah (Am db (Av 12 rfl (bB c fun x ge c=>(A7 rfl Tryz.call123 (HA gb j.2.1 ag (bz.ro a2) j.1 af (bx.ro a2) j.2.2.1 _ ge) rfl ?_))))
  rintro _ hn ⟨bs,gf,bt,gg,bu,gh,rfl,bv,gi⟩
  refine ⟨_,rfl,?_⟩
  have gj:=tm a2 bv
  have a3:=gc.join bv gi a2.size
  have ae:=db.ext bv
  refine Ah (Am ae (Ax 13 rfl d ae (Ad 14 rfl d ae (AV rfl rfl rfl (Ad 15 rfl d ae (AV rfl rfl rfl (Av 17 rfl (B9 (i:=3) (vs:=[bs,bt,(iv x.1.2.2.1),bu]) (cs':=[bs,bt,(iv x.1.2.2.1),bu]) Bo rfl rfl rfl rfl gj a3 rfl rfl ⟨(a3.own_ro (i:=0) rfl).one,(a3.own_ro (i:=1) rfl).one,rfl,(a3.own_ro (i:=2) rfl).one,trivial⟩ rfl fun ho dc gk gl=>?_))))))))
  have dd:=ae.wr' dc.1 dc.2.1 (fun b hlt hb=>absurd hlt (AK.2 (gd b hb)))
  refine Ah (Am dd (Ad 18 rfl d dd (AC rfl rfl (Ba ?_))))
  exact jx (b3 (x.1.1) (x.1.2.1) (x.1.2.2.1) (x.1.2.2.2) bs gf bt gg bu gh c9 _ c gk (gl.sel [0,1,2,3] rfl)) rfl
theorem RJ (g:Ae) (f:(Ae1 × Ae1 × Int × (List Int))) (k:Ac) (q:RO Ao g k f.1) (l:Ac) (t:RO Ao g l f.2.1) (m:Ac) (u:RO Ar g m f.2.2.2) (r:Bool) (b:J6 f = some r) :
  A1 177 [(.agg #[k,l,(iv f.2.2.1),m])] g fun e w'=>e = .returned (.bool r) ∧ Bl g w':=by
 refine cm Tryz.func177 Tryz.ntmps177 rfl fun Q v hP w x=>?_
 unfold J6 at b
 refine Ak fun _ y=>CK rfl w x fun b2 z _ i s=>Aq 1 rfl (y (Ap fun K7 ab=>?_))
 obtain ⟨ac,ad,b⟩:=Cj b
 have n:∀ (o:Bool) (j:Ae) (_:ac o = some r) (_:Bl g j) (_:Sp g j []),∀ a,St 16 [(2,(.bool o))] a → K7 a j:=by
  intro o j b ae aj
  subst ad
  refine ab (Ay (rt v rfl rfl (by cases b; exact ⟨rfl,ae⟩)))
 refine As (AO 0 Bo rfl s rfl rfl (bB b fun af ag b=>(Bu rfl Tryz.call173 i s (KD z f k (q.ro i) l (t.ro i) m (u.ro i) _ ag) rfl fun ak _ p h=>(wp 1 rfl ?_))))
 rcases bE af with d | d
 ·replace b:=BA d b
  refine wn rfl d (Bp KQ rfl (wn rfl d (AO 0 A4 rfl h rfl rfl (wn rfl d (wp 1 rfl (AA rfl rfl d rfl (wp 1 rfl ?_)))))))
  rcases bE (decide (f.2.2.1 ≤ 16)) with c | c
  ·replace b:=BA c b
   refine wn rfl c (Bp E0 rfl (wn rfl c (AO 0 Cm rfl h rfl rfl (wn rfl c (BX q Tryz.underlying26 rfl (wn rfl c (wp 1 rfl (AA rfl rfl c rfl (Aq 1 rfl ?_)))))))))
   exact jx (n ((decide ((List.length f.1:Int) ≤ 6))) _ b p (h.sel [] rfl)) rfl
  ·replace b:=Cf c b
   refine wo rfl c (wo rfl c (wo rfl c (wo rfl c (A9 rfl rfl c rfl (Aq 1 rfl ?_)))))
   exact jx (n false _ b p (h.sel [] rfl)) rfl
 ·replace b:=Cf d b
  refine wo rfl d (wo rfl d (wo rfl d (A9 rfl rfl d rfl (wp 1 rfl (wo rfl rfl (wo rfl rfl (wo rfl rfl (wo rfl rfl (A9 rfl rfl rfl rfl (Aq 1 rfl ?_))))))))))
  exact jx (n false _ b p (h.sel [] rfl)) rfl
theorem MI (f:Ae) (d:Ae3) (g:Int) (r:(Int × Int)) (h:FO d g = some r) :
  A1 258 [(.agg #[(iv d.1.1),(iv d.1.2),(iv d.2.1.1),(iv d.2.1.2),(iv d.2.2)]),(iv g)] f fun e w'=>e = .returned (.tuple #[(iv r.1),(iv r.2)]) ∧ Bl f w':=by
 refine cm Tryz.func258 Tryz.ntmps258 rfl fun Q i a j k=>?_
 unfold FO at h
 refine Ak fun _ l=>CK rfl j k fun s t _ m n=>Aq 2 rfl (l (Ap fun _ o=>(AQ B4 [] m n fun p _ q c=>?_)))
 have b:=KeepX.refl p []
 refine Ad 0 rfl a b (C9 Fz rfl (Ad 1 rfl a b (C9 CJ rfl (Ad 2 rfl a b (CQ 0 A4 rfl c rfl (by simp) (Ad 3 rfl a b (C9 HS rfl (Ad 4 rfl a b (CQ 0 A4 rfl c rfl (by simp) (Ad 5 rfl a b (Jl rfl rfl rfl (Ax 6 rfl a b (Ad 7 rfl a b (C9 Gt rfl (Ad 8 rfl a b (C9 CJ rfl (Ad 9 rfl a b (CQ 0 A4 rfl c rfl (by simp) (Ad 10 rfl a b (C9 Fz rfl (Ad 11 rfl a b (C9 CJ rfl (Ad 12 rfl a b (CQ 0 A4 rfl c rfl (by simp) (Ad 13 rfl a b (GM rfl rfl rfl (Ad 14 rfl a b (Jl rfl rfl rfl (Ad 15 rfl a b (E7 rfl rfl rfl (Ad 16 rfl a b (C9 Fz rfl (Ad 17 rfl a b (C9 CI rfl (Ad 18 rfl a b (CQ 0 A4 rfl c rfl (by simp) (Ad 19 rfl a b (C9 HS rfl (Ad 20 rfl a b (CQ 0 A4 rfl c rfl (by simp) (Ad 21 rfl a b (Jl rfl rfl rfl (Ax 22 rfl a b (Ad 23 rfl a b (C9 Gt rfl (Ad 24 rfl a b (C9 CI rfl (Ad 25 rfl a b (CQ 0 A4 rfl c rfl (by simp) (Ad 26 rfl a b (C9 Fz rfl (Ad 27 rfl a b (C9 CI rfl (Ad 28 rfl a b (CQ 0 A4 rfl c rfl (by simp) (Ad 29 rfl a b (GM rfl rfl rfl (Ad 30 rfl a b (Jl rfl rfl rfl (Ad 31 rfl a b (E7 rfl rfl rfl (Ad 32 rfl a b (AC rfl rfl (Ad 33 rfl a b (AC rfl rfl (Ba (o (Ay (rt i rfl rfl (by cases h; exact ⟨rfl,q⟩))))))))))))))))))))))))))))))))))))))))))))))))))))))))))))))))))))))
theorem Mz (f:Ae) (a:Ae3) (c:Int) (d:Int) (r:(Int × Int)) (b:Gd a c d = some r) :
  A1 259 [(.agg #[(iv a.1.1),(iv a.1.2),(iv a.2.1.1),(iv a.2.1.2),(iv a.2.2)]),(iv c),(iv d)] f fun e w'=>e = .returned (.tuple #[(iv r.1),(iv r.2)]) ∧ Bl f w':=by
 refine cm Tryz.func259 Tryz.ntmps259 rfl fun Q h s i j=>?_
 unfold Gd at b
 refine Ak fun _ k=>CK rfl i j fun t l _ m g=>Aq 2 rfl (k (Ak fun _ n=>(AO 0 Cz rfl g rfl rfl (wp 3 rfl (Pf rfl rfl rfl (Bp HS rfl (AO 0 A4 rfl g rfl rfl (SK rfl rfl rfl (bB b fun u8 o b=>(A7 rfl Tryz.call258 (MI l a (Fn (Fx (Ag (d - c)) 0) a.2.2) _ o) rfl ?_))))))))))
 rintro _ u ⟨rfl,p⟩
 refine ⟨_,rfl,?_⟩
 have q:=tm m p
 refine Aq 4 rfl (n (Ay (rt h rfl rfl (by cases b; exact ⟨rfl,q⟩))))
theorem Rp (a:Ae) (b:Int) (c:Int) (r:(Int × Int)) (d:JS b c = some r) :
  A1 273 [(.int .u64 b),(.int .u64 c)] a fun e w'=>e = .returned (.tuple #[(.int .u64 r.1),(.int .u64 r.2)]) ∧ Bl a w':=by
 refine cm Tryz.func273 Tryz.ntmps273 rfl fun Q f p g _=>?_
 unfold JS at d
 refine An 2 rfl (Ak fun _ h=>(wp 1 rfl (I2 rfl rfl rfl (Aq 1 rfl (h (Ak fun _ i=>(wp 1 rfl (Gi rfl rfl rfl rfl (Aq 1 rfl (i (Ak fun _ j=>(wp 1 rfl (I2 rfl rfl rfl (Aq 1 rfl (j (Ak fun _ k=>(wp 1 rfl (Gi rfl rfl rfl rfl (Aq 1 rfl (k (An 4 rfl (Ak fun _ l=>(wp 4 rfl (Gi rfl rfl rfl rfl (Aq 2 rfl (l (Ak fun _ m=>(wp 1 rfl (I2 rfl rfl rfl (Aq 1 rfl (m (Ak fun _ n=>(wp 1 rfl (Gi rfl rfl rfl rfl (Aq 1 rfl (n (An 6 rfl (Ak fun _ o=>(wp 6 rfl (Gi rfl rfl rfl rfl (Aq 2 rfl (o (An 4 rfl (Ay (rt f rfl rfl (by cases d; exact ⟨rfl,g⟩))))))))))))))))))))))))))))))))))))))))))))))
theorem Qy (f:Ae) (h:Int) (i:Int) (j:Int) (k:Int) (r:Bool) (b:Fo h i j k = some r) :
  A1 260 [(iv h),(iv i),(iv j),(iv k)] f fun e w'=>e = .returned (.bool r) ∧ Bl f w':=by
 refine cm Tryz.func260 Tryz.ntmps260 rfl fun Q s hP t u=>?_
 unfold Fo at b
 refine An 1 rfl (Ak fun _ v=>(wp 1 rfl (DU Tryz.underlying3 Tryz.underlying89 rfl rfl (wp 1 rfl (DU Tryz.underlying3 Tryz.underlying89 rfl rfl (bB b fun l w b=>(Bu rfl Tryz.call273 t u (Rp f (Bh h) (Bh k) _ w) rfl fun x _ y z=>(Aq 5 rfl (v (Ak fun _ aa=>(wp 1 rfl (DU Tryz.underlying3 Tryz.underlying89 rfl rfl (wp 1 rfl (DU Tryz.underlying3 Tryz.underlying89 rfl rfl (bB b fun m ab b=>Bu rfl Tryz.call273 y z (Rp x (Bh j) (Bh i) _ ab) rfl fun ai _ n o=>Aq 5 rfl (aa (Ap fun ac ad=>?_)))))))))))))))))
 obtain ⟨ae,af,b⟩:=Cj b
 have p:∀ (q:Bool) (g:Ae) (_:ae q = some r) (_:Bl f g) (_:Sp f g []),∀ a,St 42 [(8,(.bool q))] a → ac a g:=by
  intro q g b ag aj
  subst af
  refine ad (Ay (rt s rfl rfl (by cases b; exact ⟨rfl,ag⟩)))
 refine As (wp 4 rfl ?_)
 rcases bE (decide (l.1 < m.1)) with c | c
 ·replace b:=BA c b
  refine wo rfl c (wo rfl c (wo rfl c (wo rfl c (Dn rfl rfl rfl (Dn rfl rfl rfl (Dn rfl rfl rfl (wo rfl c (AA rfl rfl c rfl (Aq 1 rfl ?_)))))))))
  exact jx (p true _ b n (o.sel [] rfl)) rfl
 ·replace b:=Cf c b
  refine wn rfl c (wp 1 rfl (wn rfl c (wp 1 rfl (wn rfl c (wp 1 rfl (wn rfl c (wp 1 rfl ?_)))))))
  rcases bE (l.1 == m.1) with d | d
  ·replace b:=BA d b
   refine wn rfl d (wp 1 rfl (wn rfl d (wp 1 rfl (wn rfl d (wp 1 rfl (wn rfl c (AA rfl rfl d rfl (A9 rfl rfl c rfl (Aq 1 rfl ?_)))))))))
   exact jx (p ((decide (l.2 < m.2))) _ b n (o.sel [] rfl)) rfl
  ·replace b:=Cf d b
   refine wo rfl d (wo rfl d (wo rfl d (wn rfl c (A9 rfl rfl d rfl (A9 rfl rfl c rfl (Aq 1 rfl ?_))))))
   exact jx (p false _ b n (o.sel [] rfl)) rfl
theorem Qz (l:Ae) (f:Ae3) (g:Ae3) (n:Int) (o:Int) (r:(Int × Int)) (b:Gf f g n o = some r) :
  A1 239 [(.agg #[(iv f.1.1),(iv f.1.2),(iv f.2.1.1),(iv f.2.1.2),(iv f.2.2)]),(.agg #[(iv g.1.1),(iv g.1.2),(iv g.2.1.1),(iv g.2.1.2),(iv g.2.2)]),(iv n),(iv o)] l fun e w'=>e = .returned (.tuple #[(iv r.1),(iv r.2)]) ∧ Bl l w':=by
 refine cm Tryz.func239 Tryz.ntmps239 rfl fun Q hQ hP hB hS=>?_
 unfold Gf at b
 refine Ak fun _ a3=>CK rfl hB hS fun q w3 _ a4 a5=>CK rfl a4 a5 fun s w8 _ a7 ai=>Aq 2 rfl (a3 (Ak fun _ a8=>(AO 1 Cz rfl ai rfl rfl (bB b fun v a9 b=>(Bu rfl Tryz.call258 a7 ai (MI w8 f 0 _ a9) rfl fun ba _ bb aj=>(Aq 5 rfl (a8 (Ak fun _ bc=>(AO 0 Cz rfl aj rfl rfl (bB b fun w bd b=>(Bu rfl Tryz.call258 bb aj (MI ba g 0 _ bd) rfl fun cn _ be bf=>(Aq 5 rfl (bc (An 8 rfl (An 9 rfl (Ap fun _ bg=>(An 1 rfl (A0 (AU (fun m a x=>∃ (h:Int) (i:Int) (t:Int) (u:Int) (p:Int),St 161 [(2,(iv n)),(3,(iv o)),(4,(.pointer (some ⟨q,0,none⟩))),(5,(.pointer (some ⟨s,0,none⟩))),(14,(iv h)),(15,(iv i)),(16,(iv t)),(17,(iv u)),(18,(iv p))] a ∧ Bl l x ∧ Sp l x [A5 q 187 [(iv f.1.1),(iv f.1.2),(iv f.2.1.1),(iv f.2.1.2),(iv f.2.2)],A5 s 187 [(iv g.1.1),(iv g.1.2),(iv g.2.1.1),(iv g.2.1.2),(iv g.2.2)]] ∧ C2 f n o g m h i t u p = some r) FU ?_ ?_)))))))))))))))))))
 ·exact fun a ha=>⟨(Ag (v.1 - w.1)),(Ag (v.2 - w.2)),(Ag ((Ag ((Ag (v.1 - w.1)) * (Ag (v.1 - w.1)))) + (Ag ((Ag (v.2 - w.2)) * (Ag (v.2 - w.2)))))),1,1,ha.sb rfl,be,(bf.sel [1,0] rfl),b⟩
 ·rintro y a x ⟨h,i,t,u,p,ha,ak,ac,b⟩ co bh
  refine BE ?_ ha
  cases y with
  | zero=>exact Bg b
  | succ y =>
   obtain ⟨cp,al⟩:∃ k,k = C2 f n o g y:=⟨_,rfl⟩
   rw [C2,← al] at b
   refine Ap fun _ bi=>Ak fun _ bj=>wp 1 rfl (Bp HS rfl (AO 0 A4 rfl ac rfl rfl (wp 2 rfl (Pf rfl rfl rfl (Aq 2 rfl (bj (A3 rfl b (fun _ b=>?_) (fun _ b=>?_))))))))
   ·refine Au (bi ?_)
    refine Ap fun _ bk=>A0 (Ak fun _ bl=>(AO 0 Cz rfl ac rfl rfl (wp 2 rfl (bB b fun c bm b=>(Bu rfl Tryz.call259 ak ac (Mz x f n p _ bm) rfl fun bn _ bo am=>(Aq 5 rfl (bl (Ak fun _ bp=>(AO 1 Cz rfl am rfl rfl (wp 2 rfl (bB b fun d bq b=>(Bu rfl Tryz.call259 bo am (Mz bn g o p _ bq) rfl fun cq _ an ao=>(Aq 5 rfl (bp (An 12 rfl (An 16 rfl (An 17 rfl (Ap fun br bs=>?_))))))))))))))))))
    obtain ⟨bt,bu,b⟩:=Nn b
    have ap:∀ (z:Int) (aa:Int) (ab:Ae) (_:bt z aa = some r) (_:Bl l ab) (_:Sp l ab [A5 q 187 [(iv f.1.1),(iv f.1.2),(iv f.2.1.1),(iv f.2.1.2),(iv f.2.2)],A5 s 187 [(iv g.1.1),(iv g.1.2),(iv g.2.1.1),(iv g.2.1.2),(iv g.2.2)]]),∀ a,St 161 [(2,(iv n)),(3,(iv o)),(4,(.pointer (some ⟨q,0,none⟩))),(5,(.pointer (some ⟨s,0,none⟩))),(10,(iv c.1)),(11,(iv c.2)),(12,(iv d.1)),(13,(iv d.2)),(16,(iv t)),(17,(iv u)),(18,(iv p)),(23,(iv z)),(24,(iv aa))] a → br a ab:=by
     intro z aa ab b bv bw
     subst bu
     refine bs (Ap fun bx bz=>?_)
     obtain ⟨b0,b1,b⟩:=Nn b
     have aq:∀ (ad:Int) (ae:Int) (af:Ae) (_:b0 ad ae = some r) (_:Bl l af) (_:Sp l af [A5 q 187 [(iv f.1.1),(iv f.1.2),(iv f.2.1.1),(iv f.2.1.2),(iv f.2.2)],A5 s 187 [(iv g.1.1),(iv g.1.2),(iv g.2.1.1),(iv g.2.1.2),(iv g.2.2)]]),∀ a,St 161 [(2,(iv n)),(3,(iv o)),(4,(.pointer (some ⟨q,0,none⟩))),(5,(.pointer (some ⟨s,0,none⟩))),(10,(iv c.1)),(11,(iv c.2)),(12,(iv d.1)),(13,(iv d.2)),(16,(iv ad)),(17,(iv ae)),(18,(iv p))] a → bx a af:=by
      intro ad ae af b b3 b4
      subst b1
      refine bz (As (Aq 8 rfl (bk (As (Aq 3 rfl ?_)))))
      rw [al] at b
      exact fun a ha=>bh a _ y (AB y) ⟨(Ag (c.1 - d.1)),(Ag (c.2 - d.2)),ad,ae,(Ag (p + 1)),ha.sb rfl,b3,(b4.sel [0,1] rfl),b⟩
     refine Ak fun _ b5=>wp 4 rfl (bB b fun cr b6 b=>(Bu rfl Tryz.call260 bv bw (Qy ab z aa t u _ b6) rfl fun cs _ ar au=>(Ah (b5 (A3 rfl b (fun _ b=>?_) (fun _ b=>?_))))))
     ·refine As ?_
      refine Aq 4 rfl ?_
      exact jx (aq z aa _ b ar (au.sel [0,1] rfl)) rfl
     ·refine Au ?_
      exact jx (aq t u _ b ar (au.sel [0,1] rfl)) rfl
    refine Ap fun b8 b9=>?_
    obtain ⟨ca,cb,b⟩:=Cj b
    have av:∀ (ah:Bool) (ag:Ae) (_:ca ah = some r) (_:Bl l ag) (_:Sp l ag [A5 q 187 [(iv f.1.1),(iv f.1.2),(iv f.2.1.1),(iv f.2.1.2),(iv f.2.2)],A5 s 187 [(iv g.1.1),(iv g.1.2),(iv g.2.1.1),(iv g.2.1.2),(iv g.2.2)]]),∀ a,St 161 [(2,(iv n)),(3,(iv o)),(4,(.pointer (some ⟨q,0,none⟩))),(5,(.pointer (some ⟨s,0,none⟩))),(10,(iv c.1)),(11,(iv c.2)),(12,(iv d.1)),(13,(iv d.2)),(14,(iv h)),(15,(iv i)),(16,(iv t)),(17,(iv u)),(18,(iv p)),(19,(iv (Ag ((Ag (c.1 - d.1)) - h)))),(20,(iv (Ag ((Ag (c.2 - d.2)) - i)))),(22,(iv (Ag ((Ag ((Ag ((Ag (c.1 - d.1)) - h)) * (Ag ((Ag (c.1 - d.1)) - h)))) + (Ag ((Ag ((Ag (c.2 - d.2)) - i)) * (Ag ((Ag (c.2 - d.2)) - i)))))))),(23,(iv (Ag ((Ag ((Ag (c.1 - d.1)) * (Ag (c.1 - d.1)))) + (Ag ((Ag (c.2 - d.2)) * (Ag (c.2 - d.2)))))))),(24,(iv 1)),(119,(.bool ah))] a → b8 a ag:=by
     intro ah ag b aw ax
     subst cb
     refine b9 (A3 rfl b (fun _ b=>?_) (fun _ b=>?_))
     ·refine An 8 rfl ?_
      refine As (Aq 6 rfl ?_)
      exact jx (ap ((Ag ((Ag ((Ag (h * (Ag ((Ag (c.2 - d.2)) - i)))) - (Ag (i * (Ag ((Ag (c.1 - d.1)) - h)))))) * (Ag ((Ag (h * (Ag ((Ag (c.2 - d.2)) - i)))) - (Ag (i * (Ag ((Ag (c.1 - d.1)) - h))))))))) ((Ag ((Ag ((Ag ((Ag (c.1 - d.1)) - h)) * (Ag ((Ag (c.1 - d.1)) - h)))) + (Ag ((Ag ((Ag (c.2 - d.2)) - i)) * (Ag ((Ag (c.2 - d.2)) - i))))))) _ b aw (ax.sel [0,1] rfl)) rfl
     ·refine Au ?_
      exact jx (ap ((Ag ((Ag ((Ag (c.1 - d.1)) * (Ag (c.1 - d.1)))) + (Ag ((Ag (c.2 - d.2)) * (Ag (c.2 - d.2))))))) 1 _ b aw (ax.sel [0,1] rfl)) rfl
    refine As (wp 3 rfl ?_)
    rcases bE (decide ((Ag ((Ag (h * (Ag ((Ag (c.1 - d.1)) - h)))) + (Ag (i * (Ag ((Ag (c.2 - d.2)) - i)))))) < 0)) with j | j
    ·replace b:=BA j b
     refine wn rfl j (wp 1 rfl (wn rfl j (wp 1 rfl (wn rfl j (wp 1 rfl (wn rfl j (wp 1 rfl (AA rfl rfl j rfl (Ah ?_)))))))))
     exact jx (av ((decide ((Ag (0 - (Ag ((Ag (h * (Ag ((Ag (c.1 - d.1)) - h)))) + (Ag (i * (Ag ((Ag (c.2 - d.2)) - i)))))))) < (Ag ((Ag ((Ag ((Ag (c.1 - d.1)) - h)) * (Ag ((Ag (c.1 - d.1)) - h)))) + (Ag ((Ag ((Ag (c.2 - d.2)) - i)) * (Ag ((Ag (c.2 - d.2)) - i))))))))) _ b an (ao.sel [0,1] rfl)) rfl
    ·replace b:=Cf j b
     refine wo rfl j (wo rfl j (wo rfl j (wo rfl j (A9 rfl rfl j rfl (Ah ?_)))))
     exact jx (av false _ b an (ao.sel [0,1] rfl)) rfl
   ·refine Bd (bg ?_)
    refine Ak fun _ cc=>wp 2 rfl (bB b fun ay cd b=>(Bu rfl Tryz.call261 ak ac (KZ x t u _ cd) rfl fun ce _ cf az=>(Aq 5 rfl (cc (Ak fun _ cg=>(wp 2 rfl (Bp HS rfl (AO 0 A4 rfl az rfl rfl (wp 1 rfl (Bp HS rfl (AO 0 A4 rfl az rfl rfl (wp 1 rfl (bB b fun ct ch b=>(A7 rfl Tryz.call261 (KZ ce ay.1 (Ag ((Ag (ay.2 * f.2.2)) * f.2.2)) _ ch) rfl ?_))))))))))))))
    rintro _ cu ⟨rfl,ci⟩
    refine ⟨_,rfl,?_⟩
    have cj:=tm cf ci
    refine Aq 4 rfl (cg (Ay (rt hQ rfl rfl (by cases b; exact ⟨rfl,cj⟩))))
theorem KC (g:Ae) (a:Ae3) (b:Ae3) (d:Int) (f:Int) (h:Int) (r:Bool) (c:Gg a b d f h = some r) :
  A1 220 [(.agg #[(iv a.1.1),(iv a.1.2),(iv a.2.1.1),(iv a.2.1.2),(iv a.2.2)]),(.agg #[(iv b.1.1),(iv b.1.2),(iv b.2.1.1),(iv b.2.1.2),(iv b.2.2)]),(iv d),(iv f),(iv h)] g fun e w'=>e = .returned (.bool r) ∧ Bl g w':=by
 refine cm Tryz.func220 Tryz.ntmps220 rfl fun Q j w k l=>?_
 unfold Gg at c
 refine Ak fun _ m=>CK rfl k l fun x y _ n o=>CK rfl n o fun z p _ q i=>Aq 1 rfl (m (Ak fun _ s=>(AO 1 Cz rfl i rfl rfl (AO 0 Cz rfl i rfl rfl (wp 2 rfl (bB c fun aa t c=>(A7 rfl Tryz.call239 (Qz p a b d f _ t) rfl ?_)))))))
 rintro _ ab ⟨rfl,u⟩
 refine ⟨_,rfl,?_⟩
 have v:=tm q u
 refine Aq 5 rfl (s (An 8 rfl (Ay (rt j rfl rfl (by cases c; exact ⟨rfl,v⟩)))))
theorem Q1 (g:Ae) (n:(Ae1 × Ae1 × Int × (List Int))) (ae:Ac) (a6:RO Ao g ae n.1) (af:Ac) (a7:RO Ao g af n.2.1) (ag:Ac) (a8:RO Ar g ag n.2.2.2) (o:(List Int)) (q:Ac) (ao:RO Ar g q o) (h:Int) (r:Ae6) (b:Hr n o h = some r) :
  A1 217 [(.agg #[ae,af,(iv n.2.2.1),ag]),q,(iv h)] g fun e w'=>∃ (q0:Ac) (G0:Al),e = .returned q0 ∧ Bl g w' ∧ Sp g w' [Ab Ci G0 q0 r]:=by
 refine cm Tryz.func217 Tryz.ntmps217 rfl fun Q hQ d hB hS=>?_
 unfold Hr at b
 refine Ak fun _ bd=>CK rfl hB hS fun b2 w3 _ x aq=>Aq 1 rfl (bd (Ak fun _ bf=>(AO 0 Bo rfl aq rfl rfl (bB b fun u8 bg b=>(E6 rfl Tryz.call219 x aq (MJ w3 n ae (a6.ro x) af (a7.ro x) ag (a8.ro x) _ bg) rfl fun p ah cx _ _ bh bi=>(TK (e:=Ci) Tryz.underlying155 rfl bh bi fun bj bk cy _ bl ar=>(Aq 2 rfl (bf (Ap fun _ bm=>(Ak fun _ bn=>(wp 1 rfl (BX (ar.own_ro (i:=1) rfl) Tryz.underlying184 rfl (Aq 1 rfl (bn (A0 (AU (fun m a ai=>∃ (y:Ae6) (f:Int) (s:Ac) (z:Al),St 53 [(1,q),(2,(iv h)),(7,p),(8,s),(15,(iv (List.length u8:Int))),(16,(iv f))] a ∧ Bl g ai ∧ Sp g ai [Ab C4 ah p u8,Ab Ci z s y] ∧ D7 u8 o h m y f = some r) FU ?_ ?_))))))))))))))))
 ·exact fun a ha=>⟨[],0,bj,bk,ha.sb rfl,bl,(ar.sel [1,0] rfl),b⟩
 ·rintro t a ai ⟨y,f,s,z,ha,au,av,b⟩ cz bo
  refine BE ?_ ha
  cases t with
  | zero=>exact Bg b
  | succ t =>
   obtain ⟨aw,ax⟩:∃ k,k = D7 u8 o h t:=⟨_,rfl⟩
   rw [D7,← ax] at b
   refine An 1 rfl (Ap fun _ bp=>(A3 rfl b (fun _ b=>?_) (fun _ b=>?_)))
   ·refine Au (bp ?_)
    refine Ap fun _ bq=>A0 (An 2 rfl (An 3 rfl (A0 (AU (fun m a aj=>∃ (u:Ae6) (j:Int) (v:Ac) (aa:Al),St 53 [(1,q),(2,(iv h)),(7,p),(8,v),(9,(iv f)),(10,(iv j)),(15,(iv (List.length u8:Int))),(16,(iv f))] a ∧ Bl g aj ∧ Sp g aj [Ab C4 ah p u8,Ab Ci aa v u] ∧ D6 u8 f o h aw m u j = some r) FU ?_ ?_))))
    ·exact fun a ha=>⟨y,(Ag (f + 1)),s,z,ha.sb rfl,au,(av.sel [0,1] rfl),b⟩
    ·rintro w a aj ⟨u,j,v,aa,ha,ay,ak,b⟩ c0 br
     refine BE ?_ ha
     cases w with
     | zero=>exact Bg b
     | succ w =>
      obtain ⟨c1,az⟩:∃ k,k = D6 u8 f o h aw w:=⟨_,rfl⟩
      rw [D6,← az] at b
      refine Ap fun _ bs=>Ak fun _ bt=>wp 2 rfl (BX (ak.own_ro (i:=0) rfl) Tryz.underlying184 rfl (Aq 1 rfl (bt (A3 rfl b (fun _ b=>?_) (fun _ b=>?_)))))
      ·refine Au (bs ?_)
       refine Ap fun bu bv=>?_
       obtain ⟨bw,bx,b⟩:=Cj b
       have a0:∀ (ab:Ae6) (ac:Ac) (al:Al) (ad:Ae) (_:bw ab = some r) (_:Bl g ad) (_:Sp g ad [Ab C4 ah p u8,Ab Ci al ac ab]),∀ a,St 53 [(1,q),(2,(iv h)),(7,p),(8,ac),(9,(iv f)),(10,(iv j)),(15,(iv (List.length u8:Int))),(16,(iv f))] a → bu a ad:=by
        intro ab ac al ad b bz b0
        subst bx
        refine bv (As (Aq 3 rfl ?_))
        rw [az] at b
        exact fun a ha=>br a _ w (AB w) ⟨ab,(Ag (j + 1)),ac,al,ha.sb rfl,bz,(b0.sel [0,1] rfl),b⟩
       refine A0 (Ap fun _ b1=>(AQ B4 [] ay ak fun a1 _ am an=>?_))
       have c:=KeepX.refl a1 []
       refine Ax 0 rfl d c (Ax 1 rfl d c (bB b fun b3 b4 b=>(Ad 2 rfl d c (Bv (e:=C4) (i:=0) Tryz.underlying184 rfl rfl rfl an rfl b4 ?_))))
       rintro c2 _ rfl b5 c3
       refine Ad 3 rfl d c (BL Cz rfl (b5.kx0) rfl (Ax 4 rfl d c (Ax 5 rfl d c (bB b fun b6 b7 b=>(Ad 6 rfl d c (Bv (e:=C4) (i:=0) Tryz.underlying184 rfl rfl rfl an rfl b7 ?_))))))
       rintro c4 _ rfl b8 c5
       refine Ad 7 rfl d c (BL Cz rfl (b8.kx0) rfl (Ax 8 rfl d c (Ax 9 rfl d c (bB b fun b9 ca b=>(Ad 10 rfl d c (BB (e:=Ar) Tryz.underlying36 rfl rfl rfl ao ca ?_))))))
       rintro c6 _ rfl cb
       refine Ad 11 rfl d c (BL A4 rfl (cb.kx am (by simp)) rfl (Ax 12 rfl d c (Ax 13 rfl d c (bB b fun cc cd b=>(Ad 14 rfl d c (BB (e:=Ar) Tryz.underlying36 rfl rfl rfl ao cd ?_))))))
       rintro c7 _ rfl ce
       refine Ad 15 rfl d c (BL A4 rfl (ce.kx am (by simp)) rfl (Ax 16 rfl d c (Av 17 rfl (bB b fun c8 cf b=>(Bu rfl Tryz.call220 am an (KC a1 b3 b6 b9 cc h _ cf) rfl fun c9 cg a2 a3=>?_)))))
       have ch:=c.ext cg
       refine Ah (Am ch (Ba (b1 (A3 rfl b (fun _ b=>?_) (fun _ b=>?_)))))
       ·refine As ?_
        refine wp 3 rfl (Bc (vs:=[(iv f),(iv j)]) (l:=[f,j]) Co Tryz.underlying36 rfl rfl rfl rfl rfl rfl a2 a3 fun a4 ci da _ cj a5=>?_)
        have ck:=a5.sel [0,1,2] rfl
        have cl:=ck.head (r':=Qc Ci ci [a4] [f,j]) (rfl) fun _ h0=>⟨_,rfl,h0⟩
        refine N5 (e:=Ci) (vs:=[a4]) Tryz.underlying155 rfl rfl (Ce (a5.own_ro (i:=0) rfl).one) rfl cj cl fun db dc dd _ _ co cp=>bB b fun cq cr b=>Lb (e:=Ci) Tryz.underlying155 rfl rfl rfl co (cp.sel [2,0,1] rfl) cr fun cs ct de _ cu cv=>Aq 1 rfl ?_
        exact jx (a0 cq cs ct _ b cu (cv.sel [1,0] rfl)) rfl
       ·refine Au ?_
        exact jx (a0 u v aa _ b a2 (a3.sel [0,1] rfl)) rfl
      ·refine Bd (bq ?_)
       refine As (Aq 2 rfl ?_)
       rw [ax] at b
       exact fun a ha=>bo a _ t (AB t) ⟨u,(Ag (f + 1)),v,aa,ha.sb rfl,ay,(ak.sel [0,1] rfl),b⟩
   ·refine Bd (bm ?_)
    refine An 2 rfl (Ay (rt hQ rfl rfl (by cases b; exact ⟨s,z,rfl,au,av.sel [1] rfl⟩)))
theorem M0 (f:Ae) (b:(Ae1 × Ae1 × Int × (List Int))) (j:Ac) (q:RO Ao f j b.1) (k:Ac) (w:RO Ao f k b.2.1) (m:Ac) (x:RO Ar f m b.2.2.2) (n:Int) (r:Bool) (c:Ge b n = some r) :
  A1 179 [(.agg #[j,k,(iv b.2.2.1),m]),(iv n)] f fun e w'=>e = .returned (.bool r) ∧ Bl f w':=by
 refine cm Tryz.func179 Tryz.ntmps179 rfl fun Q y a z hS=>?_
 unfold Ge at c
 refine Ak fun _ ab=>CK rfl z hS fun b2 w3 _ ac ad=>Aq 1 rfl (ab (Ap fun _ ae=>(AQ B4 [] ac ad fun s _ t o=>?_)))
 have d:=KeepX.refl s []
 refine Ad 0 rfl a d (CQ 0 Bo rfl o rfl (by simp) (Ad 1 rfl a d (C9 E0 rfl (Ad 2 rfl a d (CQ 0 Cm rfl o rfl (by simp) (Ad 3 rfl a d (M8 (e:=Ao) (l:=b.1) Tryz.underlying26 rfl rfl q (Ax 5 rfl a d (Av 4 rfl (bB c fun af ag c=>(N4 (e:=Ar) Tryz.underlying36 rfl rfl ag (Bf s) (Sep.nil _ _) fun ah ar ai p _ aj=>?_)))))))))))
 have g:=tm t p
 have u:=o.join p aj t.size
 have v:=d.ext p
 refine Ah (Am v (Av 6 rfl (bB c fun ak al c=>(E6 rfl Tryz.call217 g u (Q1 ai b j (q.ro g) k (w.ro g) m (x.ro g) af ah (u.own_ro (i:=0) rfl) n _ al) rfl fun au av aw am _ an ao=>?_))))
 have h:=v.ext am
 refine Ah (Am h (Ad 7 rfl a h (M8 (e:=Ci) (l:=ak) Tryz.underlying155 rfl rfl (ao.own_ro (i:=0) rfl) (Ad 8 rfl a h (Pn rfl rfl rfl (Ad 9 rfl a h (AC rfl rfl (Ba (ae (Ay (rt y rfl rfl (by cases c; exact ⟨rfl,an⟩))))))))))))
theorem RG (m:Ae) (l:(Ae1 × Ae1 × Int × (List Int))) (af:Ac) (ba:RO Ao m af l.1) (ag:Ac) (bb:RO Ao m ag l.2.1) (ah:Ac) (bc:RO Ar m ah l.2.2.2) (x1:Int) (x2:Int) (r:(Ae1 × Ae1 × Int × (List Int))) (d:Ic l x1 x2 = some r) :
  A1 218 [(.agg #[af,ag,(iv l.2.2.1),ah]),(iv x1),(iv x2)] m fun e w'=>∃ (q0:Ac) (G0:Al) (q1:Ac) (G1:Al) (q2:Ac) (G2:Al),e = .returned (.agg #[q0,q1,(iv r.2.2.1),q2]) ∧ Bl m w' ∧ Sp m w' [Ab Ao G0 q0 r.1,Ab Ao G1 q1 r.2.1,Ab Ar G2 q2 r.2.2.2]:=by
 refine cm Tryz.func218 Tryz.ntmps218 rfl fun Q hQ f hB hS=>?_
 unfold Ic at d
 refine Ak fun _ bj=>CK rfl hB hS fun b2 w3 _ bk bl=>Ei Bo rfl bk bl fun b7 w8 _ w x=>Ah (bj (Ak fun _ bn=>(Bp E0 rfl (AO 1 Cm rfl x rfl rfl (Bp KR rfl (AO 1 Cm rfl x rfl rfl (Bp KQ rfl (AO 1 A4 rfl x rfl rfl (Bp Gu rfl (AO 1 Fu rfl x rfl rfl (bB d fun k bo d=>(A7 rfl Tryz.call170 (Kd w8 l.1 af (ba.ro w) l.2.1 ag (bb.ro w) l.2.2.1 l.2.2.2 ah (bc.ro w) _ bo) rfl ?_))))))))))))
 rintro _ co ⟨n,au,p,av,ac,q,rfl,aw,bp⟩
 refine ⟨_,rfl,?_⟩
 have bq:=tm w aw
 have br:=x.join aw bp w.size
 refine Ei Bo rfl bq br fun t cp _ bs ad=>B9 (i:=0) (vs:=[n,p,(iv k.2.2.1),ac]) (cs':=[n,p,(iv k.2.2.1),ac]) Bo rfl rfl rfl rfl bs ad rfl rfl ⟨(ad.own_ro (i:=1) rfl).one,(ad.own_ro (i:=2) rfl).one,rfl,(ad.own_ro (i:=3) rfl).one,trivial⟩ rfl fun cq _ bt bu=>Ah (bn (Ap fun bv bw=>?_))
 obtain ⟨bx,bz,d⟩:=Cj d
 have ax:∀ (ai:(List Int)) (s:Ac) (aj:Al) (ae:Ae) (_:bx ai = some r) (_:Bl m ae) (_:Sp m ae [A5 b7 128 [(.slice none 0 0),(.slice none 0 0),(iv 0),(.slice none 0 0)],Ab Ao au n k.1,Ab Ao av p k.2.1,Ab Ar aj s ai,A5 t 128 [n,p,(iv k.2.2.1),s]]),∀ a,St 36 [(6,(.pointer (some ⟨b7,0,none⟩))),(7,(.pointer (some ⟨t,0,none⟩)))] a → bv a ae:=by
  intro ai s aj ae d b0 y
  subst bz
  refine bw (Ak fun _ b1=>(AO 4 Bo rfl y rfl rfl (B9 (i:=0) (vs:=[n,p,(iv k.2.2.1),s]) (cs':=[n,p,(iv k.2.2.1),s]) Bo rfl rfl rfl rfl b0 y rfl rfl ⟨(y.own_ro (i:=1) rfl).one,(y.own_ro (i:=2) rfl).one,rfl,(y.own_ro (i:=3) rfl).one,trivial⟩ rfl fun cr _ b3 ay=>(Ah (b1 (Ay ?_))))))
  obtain rfl:=Option.some.inj d
  exact IM (vs:=[(.agg #[n,p,(iv k.2.2.1),s])]) hQ rfl ⟨Ha (i:=0) Bo rfl ay rfl rfl rfl,trivial⟩ ⟨n,au,p,av,s,aj,rfl,b3,ay.sel [1,2,3] rfl⟩
 refine AQ B4 q bt bu fun z _ az g=>?_
 have c:=KeepX.refl z q
 refine Ad 0 rfl f c (C9 Gu rfl (Ad 1 rfl f c (CQ 0 Fu rfl g rfl (g.disj (i:=0) (j:=3) rfl rfl rfl t (by simp [A5])) (Ax 2 rfl f c (Ad 3 rfl f c (C9 Gu rfl (Ad 4 rfl f c (CQ 0 Fu rfl g rfl (g.disj (i:=0) (j:=3) rfl rfl rfl t (by simp [A5])) (Ax 5 rfl f c (Ad 6 rfl f c (C9 Gu rfl (Ad 7 rfl f c (CQ 0 Fu rfl g rfl (g.disj (i:=0) (j:=3) rfl rfl rfl t (by simp [A5])) (Ax 8 rfl f c (bB d fun u b4 d=>(Ad 9 rfl f c (Bv (e:=Ar) (i:=3) Tryz.underlying36 rfl rfl rfl g rfl b4 ?_)))))))))))))))))
 rintro cs _ rfl a0 ct
 refine Ad 11 rfl f c (C9 Gu rfl (Ad 12 rfl f c (CQ 0 Fu rfl g rfl (g.disj (i:=0) (j:=3) rfl rfl rfl t (by simp [A5])) (Ax 13 rfl f c (bB d fun v b5 d=>(Ad 14 rfl f c (Bv (e:=Ar) (i:=3) Tryz.underlying36 rfl rfl rfl g rfl b5 ?_)))))))
 rintro cu _ rfl a1 cv
 refine C0 (is:=[10,15]) (by kernel_rfl) rfl (Bb.2 ⟨⟨_,rfl,?_⟩,Bb.2 ⟨⟨_,rfl,?_⟩,fun _ h=>by cases h⟩⟩)
 ·refine BZ A4 rfl a0 rfl ?_
  refine Ah (Am c (Av 15 rfl (BZ A4 rfl a1 rfl (Ah (Am c (bB d fun cw a2 d=>(Ad 16 rfl f c (Bv (e:=Ar) (i:=3) Tryz.underlying36 rfl rfl rfl g rfl a2 ?_))))))))
  rintro cx _ rfl cy b6
  refine Av 17 rfl (BT (i:=3) (o:=0) (vs:=[(iv u)]) (u':=u) Co A4 rfl rfl rfl rfl b6 a2 az g rfl rfl ⟨rfl,trivial⟩ rfl fun cz ak b8 a3=>?_)
  have al:=c.wr' ak.1 ak.2.1 (fun _ _ h=>h)
  have b9:∀ b,b < z.heap.size → b ∈ q → b ∈ q:=fun b hlt hb=>(ak.2.2 b hb).elim ((fun _ _ h=>h) b hlt) (fun h=>absurd hlt (AK.2 (Aw (Nat.le_refl z.heap.size) h)))
  refine Ah (Am al (Av 18 rfl (bB d fun c0 a4 d=>(Cw (e:=Ar) (i:=3) Tryz.underlying36 rfl rfl rfl a3 rfl a4 ?_))))
  rintro c1 _ rfl c2 ca
  refine Ah (Am al (Av 19 rfl (BT (i:=3) (o:=0) (vs:=[(iv v)]) (u':=v) Co A4 rfl rfl rfl rfl ca a4 b8 a3 rfl rfl ⟨rfl,trivial⟩ rfl fun c3 a5 cb cc=>?_)))
  have cd:=al.wr' a5.1 a5.2.1 (b9)
  refine Ah (Am cd (Ba ?_))
  exact jx (ax ((BG (BG k.2.2.2 x1 u) x2 v)) ac q _ d cb (cc.sel [4,1,2,3,0] rfl)) rfl
 ·refine BZ A4 rfl a1 rfl ?_
  refine Ah (Am c (Av 10 rfl (BZ A4 rfl a0 rfl (Ah (Am c (bB d fun c4 a6 d=>(Ad 16 rfl f c (Bv (e:=Ar) (i:=3) Tryz.underlying36 rfl rfl rfl g rfl a6 ?_))))))))
  rintro c5 _ rfl c6 ce
  refine Av 17 rfl (BT (i:=3) (o:=0) (vs:=[(iv u)]) (u':=u) Co A4 rfl rfl rfl rfl ce a6 az g rfl rfl ⟨rfl,trivial⟩ rfl fun c7 am cf a7=>?_)
  have an:=c.wr' am.1 am.2.1 (fun _ _ h=>h)
  have cg:∀ b,b < z.heap.size → b ∈ q → b ∈ q:=fun b hlt hb=>(am.2.2 b hb).elim ((fun _ _ h=>h) b hlt) (fun h=>absurd hlt (AK.2 (Aw (Nat.le_refl z.heap.size) h)))
  refine Ah (Am an (Av 18 rfl (bB d fun c8 a8 d=>(Cw (e:=Ar) (i:=3) Tryz.underlying36 rfl rfl rfl a7 rfl a8 ?_))))
  rintro c9 _ rfl da ch
  refine Ah (Am an (Av 19 rfl (BT (i:=3) (o:=0) (vs:=[(iv v)]) (u':=v) Co A4 rfl rfl rfl rfl ch a8 cf a7 rfl rfl ⟨rfl,trivial⟩ rfl fun db a9 ci cj=>?_)))
  have ck:=an.wr' a9.1 a9.2.1 (cg)
  refine Ah (Am ck (Ba ?_))
  exact jx (ax ((BG (BG k.2.2.2 x1 u) x2 v)) ac q _ d ci (cj.sel [4,1,2,3,0] rfl)) rfl
theorem RH (f:Ae) (c:(Ae1 × Ae1 × Int × (List Int))) (j:Ac) (w:RO Ao f j c.1) (l:Ac) (ag:RO Ao f l c.2.1) (n:Ac) (ah:RO Ar f n c.2.2.2) (g:Int) (r:(Int × Int × Bool)) (b:Id c g = some r) :
  A1 180 [(.agg #[j,l,(iv c.2.2.1),n]),(iv g)] f fun e w'=>e = .returned (.tuple #[(iv r.1),(iv r.2.1),(.bool r.2.2)]) ∧ Bl f w':=by
 refine cm Tryz.func180 Tryz.ntmps180 rfl fun Q y hP hB hS=>?_
 unfold Id at b
 refine Ak fun _ ak=>CK rfl hB hS fun s w3 _ al z=>Aq 3 rfl (ak (Ap fun _ am=>(Ak fun _ an=>(Bp E0 rfl (AO 0 Cm rfl z rfl rfl (BX w Tryz.underlying26 rfl (Aq 1 rfl (an (A0 (AU (fun m a x=>∃ (d:Int),St 33 [(1,(iv g)),(2,(.pointer (some ⟨s,0,none⟩))),(11,(iv (List.length c.1:Int))),(12,(iv d))] a ∧ Bl f x ∧ Sp f x [A5 s 128 [j,l,(iv c.2.2.1),n]] ∧ Dm c g m d = some r) FU ?_ ?_))))))))))
 ·exact fun a ha=>⟨0,ha.sb rfl,al,(z.sel [0] rfl),b⟩
 ·rintro o a x ⟨d,ha,aa,ao,b⟩ bb ap
  refine BE ?_ ha
  cases o with
  | zero=>exact Bg b
  | succ o =>
   obtain ⟨ab,ac⟩:∃ k,k = Dm c g o:=⟨_,rfl⟩
   rw [Dm,← ac] at b
   refine An 1 rfl (Ap fun _ aq=>(A3 rfl b (fun _ b=>?_) (fun _ b=>?_)))
   ·refine Au (aq ?_)
    refine Ap fun _ ar=>A0 (An 2 rfl (An 3 rfl (A0 (AU (fun m a t=>∃ (p:Int),St 33 [(1,(iv g)),(2,(.pointer (some ⟨s,0,none⟩))),(7,(iv d)),(8,(iv p)),(11,(iv (List.length c.1:Int))),(12,(iv d))] a ∧ Bl f t ∧ Sp f t [A5 s 128 [j,l,(iv c.2.2.1),n]] ∧ Ee c d g ab m p = some r) FU ?_ ?_))))
    ·exact fun a ha=>⟨(Ag (d + 1)),ha.sb rfl,aa,(ao.sel [0] rfl),b⟩
    ·rintro q a t ⟨p,ha,h,u,b⟩ bc au
     refine BE ?_ ha
     cases q with
     | zero=>exact Bg b
     | succ q =>
      obtain ⟨bd,ad⟩:∃ k,k = Ee c d g ab q:=⟨_,rfl⟩
      rw [Ee,← ad] at b
      refine Ap fun _ av=>Ak fun _ aw=>wp 1 rfl (Bp E0 rfl (AO 0 Cm rfl u rfl rfl (BX w Tryz.underlying26 rfl (Aq 1 rfl (aw (A3 rfl b (fun _ b=>?_) (fun _ b=>?_)))))))
      ·refine Au (av ?_)
       refine Ap fun _ ax=>A0 (Ak fun _ ay=>(AO 0 Bo rfl u rfl rfl (wp 2 rfl (bB b fun az a0 b=>(A7 rfl Tryz.call218 (RG t c j (w.ro h) l (ag.ro h) n (ah.ro h) d p _ a0) rfl ?_)))))
       rintro _ a1 ⟨a2,be,a3,bf,a4,bg,rfl,ae,a5⟩
       refine ⟨_,rfl,?_⟩
       have a6:=tm h ae
       have v:=u.join ae a5 h.size
       refine wp 1 rfl (bB b fun bh a7 b=>(Bu rfl Tryz.call179 a6 v (M0 a1 az a2 (v.own_ro (i:=0) rfl) a3 (v.own_ro (i:=1) rfl) a4 (v.own_ro (i:=2) rfl) g _ a7) rfl fun bi _ af a8=>(Ah (ay (A3 rfl b (fun _ b=>?_) (fun _ b=>?_))))))
       ·refine An 5 rfl ?_
        refine Ay (rt y rfl rfl (by cases b; exact ⟨rfl,af⟩))
       ·refine Au (ax ?_)
        refine As (Aq 3 rfl ?_)
        rw [ad] at b
        exact fun a ha=>au a _ q (AB q) ⟨(Ag (p + 1)),ha.sb rfl,af,(a8.sel [3] rfl),b⟩
      ·refine Bd (ar ?_)
       refine As (Aq 2 rfl ?_)
       rw [ac] at b
       exact fun a ha=>ap a _ o (AB o) ⟨(Ag (d + 1)),ha.sb rfl,h,(u.sel [0] rfl),b⟩
   ·refine Bd (am ?_)
    refine An 3 rfl (Ay (rt y rfl rfl (by cases b; exact ⟨rfl,aa⟩)))
theorem N3:∀ (m:Nat) (d:Ae) (p:Ae5) (f:Nat) (q:Al) (c:(List Int)) (g:Ac) (n:Al) (s:Int) (ar:Sep 0 d [A2 CC 212 q f p,Ab Ar n g c]) (r:Ae5) (b:Cl m p c s = some r),
  A1 221 [(.pointer (some ⟨f,0,none⟩)),g,(iv s)] d fun e w'=>∃ (H_0:Al),e = .returned (.tuple #[]) ∧ Below 0 (wE d) w' ∧ Sep 0 w' [A6 d (Be [A2 CC 212 q f p,Ab Ar n g c]),A2 CC 212 H_0 f r]:=by
 intro m
 induction m with
 | zero =>
  intro d p f q c g n s ar r b
  exact Bg b
 | succ m ih =>
  intro d p f q c g n s ar r b
  replace b:EL (Cl m) p c s = some r:=b
  obtain ⟨rec,hrec⟩:∃ k,k = Cl m:=⟨_,rfl⟩
  rw [← hrec] at b ih
  refine Ij Tryz.func221 rfl Tryz.ntmps221 rfl rfl fun Q hQn hQ hP=>?_
  have hB:Bl (wE d) d:=Ej d
  have hS:Sp (wE d) d [A6 d (Be [A2 CC 212 q f p,Ab Ar n g c]),A2 CC 212 q f p,Ab Ar n g c]:=ar.rest
  unfold EL at b
  refine Ak fun _ bt=>wp 1 rfl (BX (hS.own_ro (i:=2) rfl) Tryz.underlying36 rfl (Aq 1 rfl (bt (Ap fun _ bu=>(Ap fun K3 bw=>?_)))))
  obtain ⟨bx,bz,b⟩:=Nn b
  have ba:∀ (v:Ae5) (au:Bool) (av:Al) (y:Ae) (_:bx v au = some r) (_:Bl (wE d) y) (_:Sp (wE d) y [A6 d (Be [A2 CC 212 q f p,Ab Ar n g c]),A2 CC 212 av f v,Ab Ar n g c]),∀ a,St 80 [(0,(.pointer (some ⟨f,0,none⟩))),(1,g),(2,(iv s)),(6,(iv (List.length c:Int))),(25,(.bool au))] a → K3 a y:=by
   intro v au av y b aw bb
   subst bz
   refine bw (A3 rfl b (fun _ b=>?_) (fun _ b=>?_))
   ·refine Ay ?_
    obtain rfl:=Option.some.inj b
    exact IM (vs:=[]) hQ rfl trivial ⟨av,rfl,aw,bb.sel [0,1] rfl⟩
   ·refine Au (bu ?_)
    refine Ap fun _ b1=>Ak fun _ b2=>wp 2 rfl (BC rfl rfl (Bp Aan rfl ?_))
    obtain ⟨b3,b4,ab,b5,ag⟩:=NS (bb.sel [1,0,2] rfl)
    refine ldq 0 (pre:=(IQ v.1)) (k:=900) (o:=0) A4 rfl ag rfl (Sq ab) rfl rfl (Aq 1 rfl (b2 (A3 rfl b (fun _ b=>?_) (fun _ b=>?_))))
    ·refine Ak fun _ b6=>?_
     refine wp 3 rfl (bB b fun b7 b8 b=>(E6 rfl Tryz.call212 aw ag (Mr y c g (ag.own_ro (i:=3) rfl) _ b8) rfl fun du dv dw _ _ b9 bc=>(wp 1 rfl (BC rfl rfl (Bp Sy rfl ?_)))))
     have bd:=Aek b
     replace b:=Cf bd b
     refine stq 1 (pre:=(IQ v.1)) (k:=900) (o:=1) Fu rfl rfl ((bc.own_ro (i:=0) rfl).one) b9 bc rfl (Sq ab) rfl rfl fun dx _ ca cb=>BC rfl rfl (Bp Sx rfl (stq 1 (pre:=(IQ v.1)) (k:=900) (o:=2) A4 rfl rfl rfl ca cb rfl (Sq ab) rfl rfl fun cc _ cd ce=>(Ah (b6 (Ay ?_)))))
     obtain ⟨cf,cg⟩:∃ F,Sp (wE d) cc [A2 CC 212 F f (v.1,v.2.1,b7,s),Ab Ar b4 b3 v.2.2.1,A6 d (Be [A2 CC 212 q f p,Ab Ar n g c]),Ab Ar n g c]:=⟨_,JU ab (nnE bd) (ce.sel [1,0,2,3,4] rfl)⟩
     obtain rfl:=Option.some.inj b
     exact IM (vs:=[]) hQ rfl trivial ⟨cf,rfl,cd,cg.sel [2,0] rfl⟩
    ·refine Au (b1 ?_)
     refine An 1 rfl (A0 ?_)
     obtain ⟨ch,ci⟩:∃ F,Sp (wE d) y [A2 CC 212 F f v,A6 d (Be [A2 CC 212 q f p,Ab Ar n g c]),Ab Ar n g c]:=⟨_,JU ab b5 (ag.sel [0,1,2,3] rfl)⟩
     refine AU (fun m a ax=>∃ (ah:Ae5) (u:Int) (ai:Al),St 80 [(0,(.pointer (some ⟨f,0,none⟩))),(1,g),(2,(iv s)),(6,(iv (List.length c:Int))),(7,(iv u))] a ∧ Bl (wE d) ax ∧ Sp (wE d) ax [A6 d (Be [A2 CC 212 q f p,Ab Ar n g c]),A2 CC 212 ai f ah,Ab Ar n g c] ∧ Ct c rec s m ah u = some r) FU ?_ ?_
     ·exact fun a ha=>⟨v,0,ch,ha.sb rfl,aw,(ci.sel [1,0,2] rfl),b⟩
     ·rintro ac a ax ⟨ah,u,ai,ha,be,ay,b⟩ dy cj
      refine BE ?_ ha
      cases ac with
      | zero=>exact Bg b
      | succ ac =>
       obtain ⟨dz,bf⟩:∃ k,k = Ct c rec s ac:=⟨_,rfl⟩
       rw [Ct,← bf] at b
       refine Ap fun _ ck=>An 2 rfl (A3 rfl b (fun _ b=>?_) (fun _ b=>?_))
       ·refine Au (ck ?_)
        refine Ap fun cl cm=>?_
        obtain ⟨az,cn,b⟩:=Cj b
        have bg:∀ (aj:Ae5) (a0:Al) (ak:Ae) (_:az aj = some r) (_:Bl (wE d) ak) (_:Sp (wE d) ak [A6 d (Be [A2 CC 212 q f p,Ab Ar n g c]),A2 CC 212 a0 f aj,Ab Ar n g c]),∀ a,St 80 [(0,(.pointer (some ⟨f,0,none⟩))),(1,g),(2,(iv s)),(6,(iv (List.length c:Int))),(7,(iv u))] a → cl a ak:=by
         intro aj a0 ak b co cp
         subst cn
         refine cm (As (Aq 3 rfl ?_))
         rw [bf] at b
         exact fun a ha=>cj a _ ac (AB ac) ⟨aj,(Ag (u + 1)),a0,ha.sb rfl,co,(cp.sel [0,1,2] rfl),b⟩
        refine A0 (An 1 rfl (Ap fun _ cq=>(Ak fun _ cr=>(wp 1 rfl (BX (ay.own_ro (i:=2) rfl) Tryz.underlying36 rfl (Aq 1 rfl (cr (A0 (AU (fun m a ad=>∃ (w:Ae5) (al:Bool) (z:Int) (x:Al),St 80 [(0,(.pointer (some ⟨f,0,none⟩))),(1,g),(2,(iv s)),(6,(iv (List.length c:Int))),(7,(iv u)),(8,(.bool al)),(45,g),(46,(iv (List.length c:Int))),(47,(iv z))] a ∧ Bl (wE d) ad ∧ Sp (wE d) ad [A6 d (Be [A2 CC 212 q f p,Ab Ar n g c]),A2 CC 212 x f w,Ab Ar n g c] ∧ CH c u rec s az m w al z = some r) FU ?_ ?_)))))))))
        ·exact fun a ha=>⟨ah,true,0,ai,ha.sb rfl,be,(ay.sel [0,1,2] rfl),b⟩
        ·rintro ae a ad ⟨w,al,z,x,ha,am,aa,b⟩ d0 cs
         refine BE ?_ ha
         cases ae with
         | zero=>exact Bg b
         | succ ae =>
          obtain ⟨d1,bh⟩:∃ k,k = CH c u rec s az ae:=⟨_,rfl⟩
          rw [CH,← bh] at b
          refine An 1 rfl (Ap fun _ ct=>(A3 rfl b (fun _ b=>?_) (fun _ b=>?_)))
          ·refine Au (ct ?_)
           refine Ap fun cu cv=>?_
           obtain ⟨cw,cx,b⟩:=Nn b
           have bi:∀ (an:Ae5) (ao:Bool) (a1:Al) (ap:Ae) (_:cw an ao = some r) (_:Bl (wE d) ap) (_:Sp (wE d) ap [A6 d (Be [A2 CC 212 q f p,Ab Ar n g c]),A2 CC 212 a1 f an,Ab Ar n g c]),∀ a,St 80 [(0,(.pointer (some ⟨f,0,none⟩))),(1,g),(2,(iv s)),(6,(iv (List.length c:Int))),(7,(iv u)),(8,(.bool ao)),(45,g),(46,(iv (List.length c:Int))),(47,(iv z))] a → cu a ap:=by
            intro an ao a1 ap b cy cz
            subst cx
            refine cv (As (Aq 2 rfl ?_))
            rw [bh] at b
            exact fun a ha=>cs a _ ae (AB ae) ⟨an,ao,(Ag (z + 1)),a1,ha.sb rfl,cy,(cz.sel [0,1,2] rfl),b⟩
           refine A0 (Ak fun _ c0=>(wp 1 rfl (bB b fun c1 c2 b=>(Cw (e:=Ar) (i:=2) Tryz.underlying36 rfl rfl rfl aa rfl c2 ?_))))
           rintro d2 _ rfl c3 d3
           refine BZ A4 rfl c3 rfl (Aq 2 rfl (c0 (As (wp 2 rfl ?_))))
           rcases bE al with h | h
           ·replace b:=BA h b
            refine wn rfl h (wp 1 rfl (wn rfl h (wp 1 rfl (wn rfl h (wp 1 rfl (wn rfl h (wp 1 rfl (wn rfl h (wp 1 rfl (wn rfl h (BC rfl rfl (wn rfl h (Bp WE rfl (wn rfl h ?_))))))))))))))
            have bj:=Hl b
            replace b:=BA bj b
            refine HY Tryz.underlying210 Tryz.sizeOf209 bj rfl rfl rfl (wn rfl h ?_)
            have bk:=Hl b
            replace b:=BA bk b
            refine HY Tryz.underlying209 Tryz.sizeOf208 bk rfl rfl rfl (wn rfl h ?_)
            have bl:=Hl b
            replace b:=BA bl b
            refine HY Tryz.underlying208 Tryz.sizeOf207 bl rfl rfl rfl (wn rfl h ?_)
            have bm:=Hl b
            replace b:=BA bm b
            refine HY Tryz.underlying207 Tryz.sizeOf4 bm rfl rfl rfl (wn rfl h ?_)
            obtain ⟨d4,d5,c4,c5,bn⟩:=NS (aa.sel [1,0,2] rfl)
            refine bB b fun c6 c7 b=>lda 0 (pre:=[]) (arr:=(IQ w.1)) (j:=z.toNat * 150 + (List.length c:Int).toNat * 25 + c1.toNat * 5 + u.toNat * 1) ZI rfl rfl bn rfl (Aem c7) (by simp only [List.length_nil,List.length_cons]; omega) (wn rfl h (wp 1 rfl (AA rfl rfl h rfl (Aq 1 rfl ?_))))
            obtain ⟨c8,c9⟩:∃ F,Sp (wE d) ad [A2 CC 212 F f w,A6 d (Be [A2 CC 212 q f p,Ab Ar n g c]),Ab Ar n g c]:=⟨_,JU c4 c5 (bn.sel [0,1,2,3] rfl)⟩
            exact jx (bi w ((!c6)) c8 _ b am (c9.sel [1,0,2] rfl)) rfl
           ·replace b:=Cf h b
            refine wo rfl h (wo rfl h (wo rfl h (wo rfl h (wo rfl h (wo rfl h (wo rfl h (wo rfl h (wo rfl h (wo rfl h (wo rfl h (wo rfl h (wo rfl h (A9 rfl rfl h rfl (Aq 1 rfl ?_))))))))))))))
            exact jx (bi w false x _ b am (aa.sel [0,1,2] rfl)) rfl
          ·refine Bd (cq ?_)
           refine An 1 rfl (A3 rfl b (fun _ b=>?_) (fun _ b=>?_))
           ·refine As ?_
            refine wp 2 rfl (bB b fun d6 da b=>(E6 rfl Tryz.call212 am aa (Mr ad c g (aa.own_ro (i:=2) rfl) _ da) rfl fun d7 d8 d9 _ _ db dc=>(wp 1 rfl (Bc (vs:=[(iv u)]) (l:=[u]) Co Tryz.underlying36 rfl rfl rfl rfl rfl rfl db dc fun dd de df _ dg bo=>(bB b fun a2 dh b=>(AF (i:=1) (S:=(· < df.heap.size)) Co Tryz.underlying36 rfl rfl rfl dg bo rfl (bo.own_ro (i:=0) rfl) dh fun a3 a4 di _ bp a5=>(wp 3 rfl (bB b fun bq dj b=>(A7 rfl Tryz.call221 (ih di w f x a2 a3 a4 (Ag (s + u)) (a5.sel [3,1] rfl).base0 _ dj) rfl ?_)))))))))
            rintro _ dk ⟨br,rfl,dl,bs⟩
            refine ⟨_,rfl,?_⟩
            have dm:=a5.takeB [3,1] rfl (M:=[A2 CC 212 x f w,Ab Ar a4 a3 a2]) rfl bp dl bs
            have dn:Sp (wE d) dk [A2 CC 212 br f bq,Ab Ar de dd [u],A6 d (Be [A2 CC 212 q f p,Ab Ar n g c]),Ab Ar n g c]:=a5.take [3,1] [0,2,4] rfl (M:=[A2 CC 212 x f w,Ab Ar a4 a3 a2]) rfl bs bp.size
            refine Ah ?_
            exact jx (bg bq br _ b dm (dn.sel [2,0,3] rfl)) rfl
           ·refine Au ?_
            exact jx (bg w x _ b am (aa.sel [0,1,2] rfl)) rfl
       ·refine Bd ?_
        obtain rfl:=Option.some.inj b
        exact LW (vs:=[]) hQn rfl trivial ⟨ai,rfl,be,ay.sel [0,1] rfl⟩
  refine As (wp 1 rfl (BC rfl rfl (Bp Sy rfl ?_)))
  obtain ⟨ea,eb,aq,a6,af⟩:=NS (hS.sel [1,0,2] rfl)
  refine ldq 0 (pre:=(IQ p.1)) (k:=900) (o:=1) Fu rfl af rfl (Sq aq) rfl rfl (X5 Tryz.underlying36 (af.ok (i:=1) rfl) a6 rfl rfl rfl (wp 1 rfl ?_))
  rcases bE (!(List.isEmpty p.2.2.1)) with t | t
  ·replace b:=BA t b
   refine wn rfl t (wp 1 rfl (wn rfl t (wp 1 rfl (wn rfl t (BC rfl rfl (wn rfl t (Bp Sx rfl (wn rfl t (ldq 0 (pre:=(IQ p.1)) (k:=900) (o:=2) A4 rfl af rfl (Sq aq) rfl rfl (wn rfl t (wp 1 rfl (AA rfl rfl t rfl (Ah ?_)))))))))))))
   obtain ⟨dp,dq⟩:∃ F,Sp (wE d) d [A2 CC 212 F f p,A6 d (Be [A2 CC 212 q f p,Ab Ar n g c]),Ab Ar n g c]:=⟨_,JU aq a6 (af.sel [0,1,2,3] rfl)⟩
   exact jx (ba p ((decide (p.2.2.2 ≤ s))) dp _ b hB (dq.sel [1,0,2] rfl)) rfl
  ·replace b:=Cf t b
   refine wo rfl t (wo rfl t (wo rfl t (wo rfl t (wo rfl t (wo rfl t (A9 rfl rfl t rfl (Ah ?_)))))))
   obtain ⟨dr,ds⟩:∃ F,Sp (wE d) d [A2 CC 212 F f p,A6 d (Be [A2 CC 212 q f p,Ab Ar n g c]),Ab Ar n g c]:=⟨_,JU aq a6 (af.sel [0,1,2,3] rfl)⟩
   exact jx (ba p false dr _ b hB (ds.sel [1,0,2] rfl)) rfl
theorem Oh (a:Ae) (c:Ae5) (b:Nat) (g:Al) (d:(List Int)) (f:Ac) (h:Al) (i:Int) (j:Sep 0 a [A2 CC 212 g b c,Ab Ar h f d]) (r:Ae5) (k:GU c d i = some r) :
  A1 221 [(.pointer (some ⟨b,0,none⟩)),f,(iv i)] a fun e w'=>∃ (H_0:Al),e = .returned (.tuple #[]) ∧ Below 0 (wE a) w' ∧ Sep 0 w' [A6 a (Be [A2 CC 212 g b c,Ab Ar h f d]),A2 CC 212 H_0 b r] :=
 N3 FU a c b g d f h i j r k
theorem Rj (g:Ae) (y:(Ae1 × Ae1 × Int × (List Int))) (ah:Ac) (cf:RO Ao g ah y.1) (ai:Ac) (cg:RO Ao g ai y.2.1) (aj:Ac) (ch:RO Ar g aj y.2.2.2) (q:Int) (r:Ae7) (b:HF y q = some r) :
  A1 181 [(.agg #[ah,ai,(iv y.2.2.1),aj]),(iv q)] g fun e w'=>∃ (q0:Ac) (G0:Al),e = .returned (.tuple #[q0,(iv r.2)]) ∧ (r.1 = [] → q0 = .slice none 0 0) ∧ Bl g w' ∧ Sp g w' [Ab Ar G0 q0 r.1]:=by
 refine cm Tryz.func181 Tryz.ntmps181 rfl fun Q hQ c hB hS=>?_
 unfold HF at b
 refine Ak fun _ cn=>CK rfl hB hS fun b2 w3 _ ak ba=>Aq 2 rfl (cn (Ak fun _ cq=>(AO 0 Bo rfl ba rfl rfl (bB b fun u8 cr b=>(E6 rfl Tryz.call219 ak ba (MJ w3 y ah (cf.ro ak) ai (cg.ro ak) aj (ch.ro ak) _ cr) rfl fun s w ek _ _ cs bb=>(Aq 1 rfl (cq (Ak fun _ ct=>(wp 1 rfl (BX (bb.own_ro (i:=0) rfl) Tryz.underlying184 rfl (DV (zs:=((IQ (List.replicate 900 false)) ++ [(iv 0),(.slice none 0 0),(iv 0)])) (out:=((IQ (List.replicate 900 false)) ++ [(iv (List.length u8:Int)),(.slice none 0 0),(iv 0)])) (vs:=[(iv (List.length u8:Int))]) (css:=[[(iv (List.length u8:Int))]]) Acj Acx rfl rfl rfl (by kernel_rfl) (by kernel_rfl) (CK rfl cs bb fun n cu _ cv bc=>(Aq 1 rfl (ct (Ap fun _ cw=>Ak fun _ cx=>wp 1 rfl (BX (bc.own_ro (i:=1) rfl) Tryz.underlying184 rfl (Aq 1 rfl (cx (A0 ?_)))))))))))))))))))
 have cy:=bc.push0 (r:=Ab Ar [] (.slice none 0 0) []) rfl fun _=>.inl ⟨rfl,rfl,rfl⟩
 obtain ⟨cz,c0⟩:∃ F,Sp g cu [A2 CC 212 F n ((List.replicate 900 false),(List.length u8:Int),[],0),Ab C4 w s u8,A5 b2 128 [ah,ai,(iv y.2.2.1),aj]]:=⟨_,JU (by rw [List.length_replicate]) (fun _=>rfl) (cy.sel [1,0,2,3] rfl)⟩
 refine AU (fun m a ar=>∃ (z:Ae5) (f:Int) (aa:Al),St 74 [(1,(iv q)),(6,s),(7,(.pointer (some ⟨n,0,none⟩))),(19,(iv (List.length u8:Int))),(20,(iv f))] a ∧ Bl g ar ∧ Sp g ar [Ab C4 w s u8,A2 CC 212 aa n z] ∧ DO u8 q m z f = some r) FU ?_ ?_
 ·exact fun a ha=>⟨((List.replicate 900 false),(List.length u8:Int),[],0),0,cz,ha.sb rfl,cv,(c0.sel [1,0] rfl),b⟩
 ·rintro ab a ar ⟨z,f,aa,ha,bd,be,b⟩ el c1
  refine BE ?_ ha
  cases ab with
  | zero=>exact Bg b
  | succ ab =>
   obtain ⟨bf,bg⟩:∃ k,k = DO u8 q ab:=⟨_,rfl⟩
   rw [DO,← bg] at b
   refine An 1 rfl (Ap fun _ c2=>(A3 rfl b (fun _ b=>?_) (fun _ b=>?_)))
   ·refine Au (c2 ?_)
    refine Ap fun _ c3=>A0 (An 2 rfl (An 3 rfl (A0 (AU (fun m a au=>∃ (ac:Ae5) (t:Int) (al:Al),St 74 [(1,(iv q)),(6,s),(7,(.pointer (some ⟨n,0,none⟩))),(8,(iv f)),(9,(iv t)),(19,(iv (List.length u8:Int))),(20,(iv f))] a ∧ Bl g au ∧ Sp g au [Ab C4 w s u8,A2 CC 212 al n ac] ∧ DN u8 f q bf m ac t = some r) FU ?_ ?_))))
    ·exact fun a ha=>⟨z,(Ag (f + 1)),aa,ha.sb rfl,bd,(be.sel [0,1] rfl),b⟩
    ·rintro ad a au ⟨ac,t,al,ha,bh,av,b⟩ em c4
     refine BE ?_ ha
     cases ad with
     | zero=>exact Bg b
     | succ ad =>
      obtain ⟨bi,bj⟩:∃ k,k = DN u8 f q bf ad:=⟨_,rfl⟩
      rw [DN,← bj] at b
      refine Ap fun _ c5=>Ak fun _ c6=>wp 2 rfl (BX (av.own_ro (i:=0) rfl) Tryz.underlying184 rfl (Aq 1 rfl (c6 (A3 rfl b (fun _ b=>?_) (fun _ b=>?_)))))
      ·refine Au (c5 ?_)
       refine Ap fun _ c7=>A0 (An 1 rfl (A0 (AU (fun m a aw=>∃ (ae:Ae5) (u:Int) (am:Al),St 74 [(1,(iv q)),(6,s),(7,(.pointer (some ⟨n,0,none⟩))),(8,(iv f)),(9,(iv t)),(10,(iv u)),(19,(iv (List.length u8:Int))),(20,(iv f))] a ∧ Bl g aw ∧ Sp g aw [Ab C4 w s u8,A2 CC 212 am n ae] ∧ DM u8 f t q bi m ae u = some r) FU ?_ ?_)))
       ·exact fun a ha=>⟨ac,0,al,ha.sb rfl,bh,(av.sel [0,1] rfl),b⟩
       ·rintro af a aw ⟨ae,u,am,ha,bk,bl,b⟩ en c8
        refine BE ?_ ha
        cases af with
        | zero=>exact Bg b
        | succ af =>
         obtain ⟨bm,bn⟩:∃ k,k = DM u8 f t q bi af:=⟨_,rfl⟩
         rw [DM,← bn] at b
         refine Ap fun _ c9=>An 2 rfl (A3 rfl b (fun _ b=>?_) (fun _ b=>?_))
         ·refine Au (c9 ?_)
          refine Ap fun _ da=>A0 (An 1 rfl (A0 (AU (fun m a ax=>∃ (p:Ae5) (x:Int) (ay:Al),St 74 [(1,(iv q)),(6,s),(7,(.pointer (some ⟨n,0,none⟩))),(8,(iv f)),(9,(iv t)),(10,(iv u)),(11,(iv x)),(19,(iv (List.length u8:Int))),(20,(iv f))] a ∧ Bl g ax ∧ Sp g ax [Ab C4 w s u8,A2 CC 212 ay n p] ∧ DL u8 f t u q bm m p x = some r) FU ?_ ?_)))
          ·exact fun a ha=>⟨ae,0,am,ha.sb rfl,bk,(bl.sel [0,1] rfl),b⟩
          ·rintro ag a ax ⟨p,x,ay,ha,bo,bp,b⟩ eo db
           refine BE ?_ ha
           cases ag with
           | zero=>exact Bg b
           | succ ag =>
            obtain ⟨ep,bq⟩:∃ k,k = DL u8 f t u q bm ag:=⟨_,rfl⟩
            rw [DL,← bq] at b
            refine Ap fun _ dc=>An 2 rfl (A3 rfl b (fun _ b=>?_) (fun _ b=>?_))
            ·refine Au (dc ?_)
             refine Ap fun dd de=>?_
             obtain ⟨df,dg,b⟩:=Cj b
             have br:∀ (an:Ae5) (az:Al) (ao:Ae) (_:df an = some r) (_:Bl g ao) (_:Sp g ao [Ab C4 w s u8,A2 CC 212 az n an]),∀ a,St 74 [(1,(iv q)),(6,s),(7,(.pointer (some ⟨n,0,none⟩))),(8,(iv f)),(9,(iv t)),(10,(iv u)),(11,(iv x)),(19,(iv (List.length u8:Int))),(20,(iv f))] a → dd a ao:=by
              intro an az ao b dh di
              subst dg
              refine de (As (Aq 3 rfl ?_))
              rw [bq] at b
              exact fun a ha=>db a _ ag (AB ag) ⟨an,(Ag (x + 1)),az,ha.sb rfl,dh,(di.sel [0,1] rfl),b⟩
             refine A0 ?_
             obtain ⟨eq,er,bs,bt,dj⟩:=NS (bp.sel [1,0] rfl)
             refine AQ B4 [n] bo dj fun a0 _ bu ap=>?_
             have d:=KeepX.refl a0 [n]
             refine Ax 0 rfl c d (Ax 1 rfl c d (Ax 2 rfl c d (Ax 3 rfl c d (Ax 4 rfl c d (Ax 5 rfl c d (Ax 6 rfl c d (bB b fun bv dk b=>(Ad 7 rfl c d (Bv (e:=C4) (i:=2) Tryz.underlying184 rfl rfl rfl ap rfl dk ?_)))))))))
             rintro es _ rfl bw et
             refine Ax 9 rfl c d (Ax 10 rfl c d (bB b fun bx dl b=>(Ad 11 rfl c d (Bv (e:=C4) (i:=2) Tryz.underlying184 rfl rfl rfl ap rfl dl ?_))))
             rintro eu _ rfl bz ev
             refine Ax 13 rfl c d (Ax 14 rfl c d (Ax 15 rfl c d (Ad 17 rfl c d (B8 rfl rfl (Ad 18 rfl c d (C9 WE rfl ?_))))))
             have b0:=Hl b
             replace b:=BA b0 b
             refine Ad 19 rfl c d (QK Tryz.underlying210 Tryz.sizeOf209 b0 rfl rfl rfl ?_)
             have b1:=Hl b
             replace b:=BA b1 b
             refine Ad 20 rfl c d (QK Tryz.underlying209 Tryz.sizeOf208 b1 rfl rfl rfl ?_)
             have b3:=Hl b
             replace b:=BA b3 b
             refine Ad 21 rfl c d (QK Tryz.underlying208 Tryz.sizeOf207 b3 rfl rfl rfl (C0 (is:=[8,12]) (by kernel_rfl) rfl (Bb.2 ⟨⟨_,rfl,?_⟩,Bb.2 ⟨⟨_,rfl,?_⟩,fun _ h=>by cases h⟩⟩)))
             ·refine BZ Cz rfl bw rfl ?_
              refine Ah (Am d (Av 12 rfl (BZ Cz rfl bz rfl (Ah (Am d (Av 16 rfl (bB b fun ew dm b=>(Bu rfl Tryz.call220 bu ap (KC a0 bv bx u x q _ dm) rfl fun ex dn dp dq=>?_))))))))
              have a1:=d.ext dn
              refine Ah (Am a1 ?_)
              have b4:=Hl b
              replace b:=BA b4 b
              refine Ad 22 rfl c a1 (QK Tryz.underlying207 Tryz.sizeOf4 b4 rfl rfl rfl (Av 23 rfl (bB b fun b5 a2 b=>(sta 0 (pre:=[]) (arr:=(IQ p.1)) (j:=f.toNat * 150 + t.toNat * 25 + u.toNat * 5 + x.toNat * 1) ZI rfl rfl rfl dp dq rfl (Wf a2) (by simp only [List.length_nil,List.length_cons]; omega) fun dr b6 ds b7=>?_))))
              rw [YQ a2] at b7
              have dt:=a1.wr' b6.1 b6.2.1 (fun _ _ h=>h)
              refine Ah (Am dt (Ba ?_))
              obtain ⟨du,dv⟩:∃ F,Sp g dr [A2 CC 212 F n (b5,p.2.1,p.2.2.1,p.2.2.2),Ab C4 w s u8]:=⟨_,JU (Sn a2 bs) bt (b7.sel [0,1,2] rfl)⟩
              exact jx (br ((b5,p.2.1,p.2.2.1,p.2.2.2)) du _ b ds (dv.sel [1,0] rfl)) rfl
             ·refine BZ Cz rfl bz rfl ?_
              refine Ah (Am d (Av 8 rfl (BZ Cz rfl bw rfl (Ah (Am d (Av 16 rfl (bB b fun ey dw b=>(Bu rfl Tryz.call220 bu ap (KC a0 bv bx u x q _ dw) rfl fun ez dx dy dz=>?_))))))))
              have a3:=d.ext dx
              refine Ah (Am a3 ?_)
              have b8:=Hl b
              replace b:=BA b8 b
              refine Ad 22 rfl c a3 (QK Tryz.underlying207 Tryz.sizeOf4 b8 rfl rfl rfl (Av 23 rfl (bB b fun b9 a4 b=>(sta 0 (pre:=[]) (arr:=(IQ p.1)) (j:=f.toNat * 150 + t.toNat * 25 + u.toNat * 5 + x.toNat * 1) ZI rfl rfl rfl dy dz rfl (Wf a4) (by simp only [List.length_nil,List.length_cons]; omega) fun d0 ca d1 cb=>?_))))
              rw [YQ a4] at cb
              have d2:=a3.wr' ca.1 ca.2.1 (fun _ _ h=>h)
              refine Ah (Am d2 (Ba ?_))
              obtain ⟨d3,d4⟩:∃ F,Sp g d0 [A2 CC 212 F n (b9,p.2.1,p.2.2.1,p.2.2.2),Ab C4 w s u8]:=⟨_,JU (Sn a4 bs) bt (cb.sel [0,1,2] rfl)⟩
              exact jx (br ((b9,p.2.1,p.2.2.1,p.2.2.2)) d3 _ b d1 (d4.sel [1,0] rfl)) rfl
            ·refine Bd (da ?_)
             refine As (Aq 3 rfl ?_)
             rw [bn] at b
             exact fun a ha=>c8 a _ af (AB af) ⟨p,(Ag (u + 1)),ay,ha.sb rfl,bo,(bp.sel [0,1] rfl),b⟩
         ·refine Bd (c7 ?_)
          refine As (Aq 3 rfl ?_)
          rw [bj] at b
          exact fun a ha=>c4 a _ ad (AB ad) ⟨ae,(Ag (t + 1)),am,ha.sb rfl,bk,(bl.sel [0,1] rfl),b⟩
      ·refine Bd (c3 ?_)
       refine As (Aq 2 rfl ?_)
       rw [bg] at b
       exact fun a ha=>c1 a _ ab (AB ab) ⟨ac,(Ag (f + 1)),al,ha.sb rfl,bh,(av.sel [0,1] rfl),b⟩
   ·refine Bd (cw ?_)
    refine Ak fun _ d5=>wp 1 rfl (Bc (vs:=[]) (l:=[]) Co Tryz.underlying36 rfl rfl rfl rfl rfl rfl bd be fun a5 a6 d6 _ cc a7=>(bB b fun a8 d7 b=>(A7 rfl Tryz.call221 (Oh d6 z n aa [] a5 a6 0 (a7.sel [2,0] rfl).base0 _ d7) rfl ?_)))
    rintro _ d8 ⟨d9,rfl,ea,cd⟩
    refine ⟨_,rfl,?_⟩
    have eb:=a7.takeB [2,0] rfl (M:=[A2 CC 212 aa n z,Ab Ar a6 a5 []]) rfl cc ea cd
    have ec:Sp g d8 [A2 CC 212 d9 n a8,Ab C4 w s u8]:=a7.take [2,0] [1] rfl (M:=[A2 CC 212 aa n z,Ab Ar a6 a5 []]) rfl cd cc.size
    refine Ah (d5 (Ap fun _ ed=>?_))
    obtain ⟨ee,ef,ce,eg,eh⟩:=NS (ec.sel [0,1] rfl)
    refine AQ B4 [] eb eh fun ei _ ej a9=>?_
    have v:=KeepX.refl ei []
    refine Ax 0 rfl c v (Ad 1 rfl c v (B8 rfl rfl (Ad 2 rfl c v (C9 Sy rfl (Ad 3 rfl c v (YZ 0 (pre:=(IQ a8.1)) (k:=900) (o:=1) Fu rfl rfl a9 rfl (Sq ce) rfl rfl (by simp) (Ax 4 rfl c v (Ad 5 rfl c v (B8 rfl rfl (Ad 6 rfl c v (C9 Sx rfl (Ad 7 rfl c v (YZ 0 (pre:=(IQ a8.1)) (k:=900) (o:=2) A4 rfl rfl a9 rfl (Sq ce) rfl rfl (by simp) (Ad 8 rfl c v (AC rfl rfl (Ad 9 rfl c v (AC rfl rfl (Ba (ed (Ay (rt hQ rfl rfl (by cases b; exact ⟨ee,ef,rfl,eg,ej,a9.sel [1] rfl⟩))))))))))))))))))))))
theorem RL (f:Ae) (d:(Ae1 × Ae1 × Int × (List Int))) (g:Ac) (q:RO Ao f g d.1) (h:Ac) (s:RO Ao f h d.2.1) (j:Ac) (t:RO Ar f j d.2.2.2) (k:Int) (r:(Int × Bool)) (b:Ih d k = some r) :
  A1 124 [(.agg #[g,h,(iv d.2.2.1),j]),(iv k)] f fun e w'=>e = .returned (.tuple #[(iv r.1),(.bool r.2)]) ∧ Bl f w':=by
 refine cm Tryz.func124 Tryz.ntmps124 rfl fun Q m hP hB hS=>?_
 unfold Ih at b
 refine Ak fun _ ai=>CK rfl hB hS fun w w3 _ u x=>Aq 2 rfl (ai (Ap fun _ ak=>(Ap fun K8 am=>?_)))
 obtain ⟨an,ao,b⟩:=Cj b
 have y:∀ (v:Bool) (n:Ae) (_:an v = some r) (_:Bl f n) (_:Sp f n [A5 w 128 [g,h,(iv d.2.2.1),j]]),∀ a,St 38 [(1,(iv k)),(2,(.pointer (some ⟨w,0,none⟩))),(18,(.bool v))] a → K8 a n:=by
  intro v n b o z
  subst ao
  refine am (A3 rfl b (fun _ b=>?_) (fun _ b=>?_))
  ·refine An 2 rfl ?_
   refine Ay (rt m rfl rfl (by cases b; exact ⟨rfl,o⟩))
  ·refine Au (ak ?_)
   refine Ap fun _ ap=>Ak fun _ aq=>AO 0 Bo rfl z rfl rfl (wp 1 rfl (bB b fun be ar b=>(Bu rfl Tryz.call179 o z (M0 n d g (q.ro o) h (s.ro o) j (t.ro o) k _ ar) rfl fun au _ p aa=>(Ah (aq (A3 rfl b (fun _ b=>?_) (fun _ b=>?_)))))))
   ·refine An 2 rfl ?_
    refine Ay (rt m rfl rfl (by cases b; exact ⟨rfl,p⟩))
   ·refine Au (ap ?_)
    refine Ap fun _ av=>Ak fun _ aw=>AO 0 Bo rfl aa rfl rfl (wp 1 rfl (bB b fun bf ax b=>(Bu rfl Tryz.call180 p aa (RH au d g (q.ro p) h (s.ro p) j (t.ro p) k _ ax) rfl fun ay _ l ab=>(Aq 7 rfl (aw (An 1 rfl (A3 rfl b (fun _ b=>?_) (fun _ b=>?_))))))))
    ·refine An 2 rfl ?_
     refine Ay (rt m rfl rfl (by cases b; exact ⟨rfl,l⟩))
    ·refine Au (av ?_)
     refine Ap fun _ az=>Ak fun _ a0=>AO 0 Bo rfl ab rfl rfl (wp 1 rfl (bB b fun bg a1 b=>(A7 rfl Tryz.call181 (Rj ay d g (q.ro l) h (s.ro l) j (t.ro l) k _ a1) rfl ?_)))
     rintro _ bh ⟨bi,bj,rfl,a2,ac,a3⟩
     refine ⟨_,rfl,?_⟩
     have ad:=tm l ac
     have a4:=ab.join ac a3 l.size
     refine Aq 5 rfl (a0 (Ak fun _ a5=>(wp 1 rfl (X5 Tryz.underlying36 (a4.ok (i:=0) rfl) a2 rfl rfl rfl (Ah (a5 (A3 rfl b (fun _ b=>?_) (fun _ b=>?_))))))))
     ·refine An 2 rfl ?_
      refine Ay (rt m rfl rfl (by cases b; exact ⟨rfl,ad⟩))
     ·refine Au (az ?_)
      refine An 2 rfl (Ay (rt m rfl rfl (by cases b; exact ⟨rfl,ad⟩)))
 refine As (AO 0 Bo rfl x rfl rfl (bB b fun a6 a7 b=>(Bu rfl Tryz.call177 u x (RJ w3 d g (q.ro u) h (s.ro u) j (t.ro u) _ a7) rfl fun a8 _ ae af=>(wp 2 rfl ?_))))
 rcases bE (!a6) with c | c
 ·replace b:=BA c b
  refine wo rfl c (wo rfl c (wo rfl c (AA rfl rfl c rfl (Ah ?_))))
  exact jx (y true _ b ae (af.sel [0] rfl)) rfl
 ·replace b:=Cf c b
  refine wn rfl c (wp 1 rfl (wn rfl c (bB b fun a9 ba b=>(Bu rfl Tryz.call178 ae af (P7 a8 k _ ba) rfl fun bk _ bb bc=>(wn rfl c (wp 1 rfl (A9 rfl rfl c rfl (Ah ?_))))))))
  exact jx (y ((!a9)) _ b bb (bc.sel [0] rfl)) rfl
theorem Rl (g:Ae) (h:Ae1) (l:Ac) (i:RO Ao g l h) (r:(Int × Int)) (b:HH h = some r) :
  A1 182 [l] g fun e w'=>e = .returned (.tuple #[(iv r.1),(iv r.2)]) ∧ Bl g w':=by
 refine cm Tryz.func182 Tryz.ntmps182 rfl fun Q hQ c hB hS=>?_
 unfold HH at b
 refine An 2 rfl (An 2 rfl (Ap fun _ ap=>(Ak fun _ aq=>(wp 1 rfl (BX i Tryz.underlying26 rfl (Aq 1 rfl (aq (A0 (AU (fun m a y=>∃ (t:Int) (u:Int) (f:Int),St 45 [(0,l),(4,(iv t)),(5,(iv u)),(9,(iv (List.length h:Int))),(10,(iv f))] a ∧ Bl g y ∧ Sp g y [] ∧ DQ h m t u f = some r) FU ?_ ?_)))))))))
 ·exact fun a ha=>⟨0,1,0,ha.sb rfl,hB,(hS.sel [] rfl),b⟩
 ·rintro n a y ⟨t,u,f,ha,aa,ar,b⟩ br au
  refine BE ?_ ha
  cases n with
  | zero=>exact Bg b
  | succ n =>
   obtain ⟨ab,ac⟩:∃ k,k = DQ h n:=⟨_,rfl⟩
   rw [DQ,← ac] at b
   refine An 1 rfl (Ap fun _ av=>(A3 rfl b (fun _ b=>?_) (fun _ b=>?_)))
   ·refine Au (av ?_)
    refine Ap fun _ aw=>A0 (An 2 rfl (An 3 rfl (A0 (AU (fun m a z=>∃ (o:Int) (p:Int) (j:Int),St 45 [(0,l),(4,(iv o)),(5,(iv p)),(6,(iv f)),(7,(iv j)),(9,(iv (List.length h:Int))),(10,(iv f))] a ∧ Bl g z ∧ Sp g z [] ∧ Ds h f ab m o p j = some r) FU ?_ ?_))))
    ·exact fun a ha=>⟨t,u,(Ag (f + 1)),ha.sb rfl,aa,(ar.sel [] rfl),b⟩
    ·rintro q a z ⟨o,p,j,ha,ad,ae,b⟩ bs ax
     refine BE ?_ ha
     cases q with
     | zero=>exact Bg b
     | succ q =>
      obtain ⟨bt,af⟩:∃ k,k = Ds h f ab q:=⟨_,rfl⟩
      rw [Ds,← af] at b
      refine Ap fun _ ay=>Ak fun _ az=>wp 2 rfl (BX i Tryz.underlying26 rfl (Aq 1 rfl (az (A3 rfl b (fun _ b=>?_) (fun _ b=>?_)))))
      ·refine Au (ay ?_)
       refine Ap fun a0 a1=>?_
       obtain ⟨a2,a3,b⟩:=Nn b
       have ag:∀ (v:Int) (w:Int) (x:Ae) (_:a2 v w = some r) (_:Bl g x) (_:Sp g x []),∀ a,St 45 [(0,l),(4,(iv v)),(5,(iv w)),(6,(iv f)),(7,(iv j)),(9,(iv (List.length h:Int))),(10,(iv f))] a → a0 a x:=by
        intro v w x b a4 a5
        subst a3
        refine a1 (As (Aq 3 rfl ?_))
        rw [af] at b
        exact fun a ha=>ax a _ q (AB q) ⟨v,w,(Ag (j + 1)),ha.sb rfl,a4,(a5.sel [] rfl),b⟩
       refine A0 (Ap fun _ a6=>(AQ B4 [] ad ae fun ah _ s a7=>?_))
       have d:=KeepX.refl ah []
       refine Ax 0 rfl c d (Ax 1 rfl c d (bB b fun a8 a9 b=>(Ad 2 rfl c d (BB (e:=Ao) Tryz.underlying26 rfl rfl rfl i a9 ?_))))
       rintro bu _ rfl ba
       refine Ad 3 rfl c d (BL Bs rfl (ba.kx s (by simp)) rfl (Ax 4 rfl c d (Ax 5 rfl c d (bB b fun bb bc b=>(Ad 6 rfl c d (BB (e:=Ao) Tryz.underlying26 rfl rfl rfl i bc ?_))))))
       rintro bv _ rfl bd
       refine Ad 7 rfl c d (BL Bs rfl (bd.kx s (by simp)) rfl (Ax 9 rfl c d (Ax 10 rfl c d (bB b fun be bf b=>(Ad 11 rfl c d (BB (e:=Ao) Tryz.underlying26 rfl rfl rfl i bf ?_))))))
       rintro bw _ rfl bg
       refine Ad 12 rfl c d (BL Bs rfl (bg.kx s (by simp)) rfl (Ax 13 rfl c d (Ax 14 rfl c d (bB b fun bh bi b=>(Ad 15 rfl c d (BB (e:=Ao) Tryz.underlying26 rfl rfl rfl i bi ?_))))))
       rintro bx _ rfl bj
       refine Ad 16 rfl c d (BL Bs rfl (bj.kx s (by simp)) rfl (Av 8 rfl (bB b fun bz bk b=>(Bu rfl Tryz.call183 s a7 (GZ ah a8 bb _ bk) rfl fun bl bm bn bo=>?_))))
       have ai:=d.ext bm
       refine Ah (Am ai (Av 17 rfl (bB b fun b0 bp b=>(Bu rfl Tryz.call183 bn bo (GZ bl be bh _ bp) rfl fun b1 bq aj ak=>?_))))
       have al:=ai.ext bq
       refine Ah (Am al (Ad 18 rfl c al (LY rfl rfl rfl (Ba (a6 (A3 rfl b (fun _ b=>?_) (fun _ b=>?_)))))))
       ·refine As ?_
        refine Aq 4 rfl ?_
        exact jx (ag f j _ b aj (ak.sel [] rfl)) rfl
       ·refine Au ?_
        exact jx (ag o p _ b aj (ak.sel [] rfl)) rfl
      ·refine Bd (aw ?_)
       refine As (Aq 2 rfl ?_)
       rw [ac] at b
       exact fun a ha=>au a _ n (AB n) ⟨o,p,(Ag (f + 1)),ha.sb rfl,ad,(ae.sel [] rfl),b⟩
   ·refine Bd (ap ?_)
    refine An 4 rfl (Ay (rt hQ rfl rfl (by cases b; exact ⟨rfl,aa⟩)))
theorem Rn (g:Ae) (h:Ae1) (i:Ac) (j:RO Ao g i h) (r:(Int × Bool)) (b:EB h = some r) :
  A1 125 [i] g fun e w'=>e = .returned (.tuple #[(iv r.1),(.bool r.2)]) ∧ Bl g w':=by
 refine cm Tryz.func125 Tryz.ntmps125 rfl fun Q p d q x=>?_
 unfold EB at b
 refine An 2 rfl (Ap fun _ y=>(Ap fun z aa=>?_))
 obtain ⟨k8,ac,b⟩:=Cj b
 have s:∀ (l:Bool) (k:Ae) (_:k8 l = some r) (_:Bl g k) (_:Sp g k []),∀ a,St 28 [(0,i),(13,(.bool l))] a → z a k:=by
  intro l k b m ad
  subst ac
  refine aa (A3 rfl b (fun _ b=>?_) (fun _ b=>?_))
  ·refine An 2 rfl ?_
   refine Ay (rt p rfl rfl (by cases b; exact ⟨rfl,m⟩))
  ·refine Au (y ?_)
   refine Ak fun _ ae=>wp 1 rfl (bB b fun av af b=>(Bu rfl Tryz.call182 m ad (Rl k h i (j.ro m) _ af) rfl fun aw _ ag ah=>(Aq 5 rfl (ae (Ap fun _ ai=>(AQ B4 [] ag ah fun t _ n _=>?_))))))
   have f:=KeepX.refl t []
   refine Ax 0 rfl d f (Ax 1 rfl d f (bB b fun aj ak b=>(Ad 2 rfl d f (BB (e:=Ao) Tryz.underlying26 rfl rfl rfl j ak ?_))))
   rintro ax _ rfl al
   refine Ad 3 rfl d f (BL Bs rfl (al.kx n (by simp)) rfl (Ax 4 rfl d f (Ax 5 rfl d f (bB b fun am an b=>(Ad 6 rfl d f (BB (e:=Ao) Tryz.underlying26 rfl rfl rfl j an ?_))))))
   rintro ay _ rfl ao
   refine Ad 7 rfl d f (BL Bs rfl (ao.kx n (by simp)) rfl (Av 8 rfl (bB b fun az ap b=>(A7 rfl Tryz.call183 (GZ t aj am _ ap) rfl ?_))))
   rintro _ a0 ⟨rfl,u⟩
   refine ⟨_,rfl,?_⟩
   have aq:=tm n u
   have o:=f.ext u
   refine Ah (Am o (Ad 9 rfl d o (AC rfl rfl (Ad 10 rfl d o (AC rfl rfl (Ba (ai (Ay (rt p rfl rfl (by cases b; exact ⟨rfl,aq⟩))))))))))
 refine As (wp 1 rfl (bB b fun ar au b=>(Bu rfl Tryz.call43 q x (GF g h i (j.ro q) _ au) rfl fun a1 _ v w=>(wp 2 rfl ?_))))
 rcases bE (!ar) with c | c
 ·replace b:=BA c b
  refine wo rfl c (wo rfl c (wo rfl c (AA rfl rfl c rfl (Ah ?_))))
  exact jx (s true _ b v (w.sel [] rfl)) rfl
 ·replace b:=Cf c b
  refine wn rfl c (wp 1 rfl (wn rfl c (BX j Tryz.underlying26 rfl (wn rfl c (wp 1 rfl (A9 rfl rfl c rfl (Ah ?_)))))))
  exact jx (s ((decide ((List.length h:Int) < 2))) _ b v (w.sel [] rfl)) rfl
theorem Og (c:Ae) (i:Tab c) (d:Int) (r:(List Ai)) (b:Hz d = some r) :
  A1 184 [(iv d)] c fun e w'=>e = .returned (.string (B1 r)) ∧ Bl c w':=by
 refine cm Tryz.func184 Tryz.ntmps184 rfl fun Q m hP j n=>?_
 unfold Hz at b
 refine An 1 rfl (Ak fun _ o=>(wp 1 rfl (MO rfl rfl rfl (by decide) (bB b fun p q b=>(Bu rfl Tryz.call130 j n (E2 c (i.st j) (Ag (Int.tdiv d 8)) _ q) rfl fun s _ g k=>(Aq 1 rfl (o (Ap fun t u=>?_))))))))
 obtain ⟨v,w,b⟩:=Cj b
 have l:∀ (h:(List Ai)) (f:Ae) (_:v h = some r) (_:Bl c f) (_:Sp c f []),∀ a,St 17 [(3,(.string (B1 h)))] a → t a f:=by
  intro h f b x ag
  subst w
  refine u (An 2 rfl (Ay (rt m rfl rfl (by cases b; exact ⟨rfl,x⟩))))
 refine Ak fun _ y=>wp 1 rfl (Q5 rfl rfl rfl (by decide) (Aq 1 rfl (y (A3 rfl b (fun _ b=>?_) (fun _ b=>?_)))))
 ·refine As ?_
  refine wp 2 rfl (Q5 rfl rfl rfl (by decide) (bB b fun ah z b=>(Bu rfl Tryz.call130 g k (E2 s (i.st g) (Int.tmod d 8) _ z) rfl fun ai _ aa ab=>(bB b fun aj ac b=>(Hf rfl rfl rfl ac (bB b fun ad ae b=>(Hf rfl rfl rfl ae (Aq 1 rfl ?_))))))))
  exact jx (l ad _ b aa (ab.sel [] rfl)) rfl
 ·refine Au ?_
  exact jx (l p _ b g (k.sel [] rfl)) rfl
theorem TH (g:Ae) (i:Tab g) (c:(Int × Int)) (r:((List Ai) × Bool)) (a:Jy c = some r) :
  A1 126 [(.agg #[(iv c.1),(iv c.2)])] g fun e w'=>e = .returned (.tuple #[(.string (B1 r.1)),(.bool r.2)]) ∧ Bl g w':=by
 refine cm Tryz.func126 Tryz.ntmps126 rfl fun Q j b t u=>?_
 unfold Jy at a
 refine Ak fun _ v=>CK rfl t u fun b2 w _ x k=>Aq 2 rfl (v (Ap fun _ y=>(Ak fun _ z=>(AO 0 Bs rfl k rfl rfl (bB a fun u9 aa a=>(Bu rfl Tryz.call61 x k (Ks w c _ aa) rfl fun al _ l ab=>(Aq 1 rfl (z (A3 rfl a (fun _ a=>?_) (fun _ a=>?_))))))))))
 ·refine An 2 rfl ?_
  refine Ay (rt j rfl rfl (by cases a; exact ⟨rfl,l⟩))
 ·refine Au (y ?_)
  refine Ap fun _ ac=>AQ B4 [] l ab fun m _ n o=>?_
  have d:=KeepX.refl m []
  refine Ad 0 rfl b d (C9 CJ rfl (Ad 1 rfl b d (CQ 0 A4 rfl o rfl (by simp) (Ad 4 rfl b d (C9 CI rfl (Ad 5 rfl b d (CQ 0 A4 rfl o rfl (by simp) (Av 2 rfl (bB a fun am ad a=>(A7 rfl Tryz.call184 (Og m (i.st n) c.1 _ ad) rfl ?_))))))))))
  rintro _ ae ⟨rfl,p⟩
  refine ⟨_,rfl,?_⟩
  have q:=tm n p
  have h:=d.ext p
  refine Ah (Am h (bB a fun an af a=>(Ad 3 rfl b h (ER rfl rfl rfl af (Av 6 rfl (bB a fun ao ag a=>(A7 rfl Tryz.call184 (Og ae (i.st q) c.2 _ ag) rfl ?_)))))))
  rintro _ ap ⟨rfl,s⟩
  refine ⟨_,rfl,?_⟩
  have ah:=tm q s
  have f:=h.ext s
  refine Ah (Am f (bB a fun aq ai a=>(Ad 7 rfl b f (ER rfl rfl rfl ai (Ad 8 rfl b f (AC rfl rfl (Ad 9 rfl b f (AC rfl rfl (Ba (ac (Ay (rt j rfl rfl (by cases a; exact ⟨rfl,ah⟩)))))))))))))
theorem SC (d:Ae) (f:(Int × Int)) (g:(Int × Int)) (r:Int) (b:Kc f g = some r) :
  A1 185 [(.agg #[(iv f.1),(iv f.2)]),(.agg #[(iv g.1),(iv g.2)])] d fun e w'=>e = .returned (iv r) ∧ Bl d w':=by
 refine cm Tryz.func185 Tryz.ntmps185 rfl fun Q p hP q s=>?_
 unfold Kc at b
 refine Ak fun _ t=>CK rfl q s fun b2 w3 _ u v=>CK rfl u v fun b7 w _ x i=>Aq 1 rfl (t (Ak fun _ y=>(AO 1 Bs rfl i rfl rfl (AO 0 Bs rfl i rfl rfl (bB b fun j z b=>(Bu rfl Tryz.call183 x i (GZ w f g _ z) rfl fun ak _ aa ab=>(Aq 2 rfl (y (Ap fun _ ac=>(A0 (AU (fun m a l=>∃ (h:Int),St 21 [(5,(iv j)),(6,(iv h))] a ∧ Bl d l ∧ Sp d l [] ∧ DF j m h = some r) FU ?_ ?_)))))))))))
 ·exact fun a ha=>⟨0,ha.sb rfl,aa,(ab.sel [] rfl),b⟩
 ·rintro c a l ⟨h,ha,n,ad,b⟩ al ae
  refine BE ?_ ha
  cases c with
  | zero=>exact Bg b
  | succ c =>
   obtain ⟨am,o⟩:∃ k,k = DF j c:=⟨_,rfl⟩
   rw [DF,← o] at b
   refine Ap fun _ af=>An 8 rfl (A3 rfl b (fun _ b=>?_) (fun _ b=>?_))
   ·refine Au (af ?_)
    refine A0 (As (Aq 3 rfl ?_))
    rw [o] at b
    exact fun a ha=>ae a _ c (AB c) ⟨(Ag (h + 1)),ha.sb rfl,n,(ad.sel [] rfl),b⟩
   ·refine Bd (ac ?_)
    refine An 2 rfl (Ay (rt p rfl rfl (by cases b; exact ⟨rfl,n⟩)))
theorem SG (h:Ae) (d:(Int × Int)) (f:(Int × Int)) (r:(Int × Bool)) (b:Gy d f = some r) :
  A1 127 [(.agg #[(iv d.1),(iv d.2)]),(.agg #[(iv f.1),(iv f.2)])] h fun e w'=>e = .returned (.tuple #[(iv r.1),(.bool r.2)]) ∧ Bl h w':=by
 refine cm Tryz.func127 Tryz.ntmps127 rfl fun Q k hP t u=>?_
 unfold Gy at b
 refine Ak fun _ v=>CK rfl t u fun l w3 _ w x=>CK rfl w x fun m y _ z n=>Aq 2 rfl (v (Ap fun _ aa=>(Ap fun ab ac=>?_)))
 obtain ⟨ad,ae,b⟩:=Cj b
 have o:∀ (i:Bool) (g:Ae) (_:ad i = some r) (_:Bl h g) (_:Sp h g [A5 l 79 [(iv d.1),(iv d.2)],A5 m 79 [(iv f.1),(iv f.2)]]),∀ a,St 17 [(2,(.pointer (some ⟨l,0,none⟩))),(3,(.pointer (some ⟨m,0,none⟩))),(13,(.bool i))] a → ab a g:=by
  intro i g b p q
  subst ae
  refine ac (A3 rfl b (fun _ b=>?_) (fun _ b=>?_))
  ·refine An 2 rfl ?_
   refine Ay (rt k rfl rfl (by cases b; exact ⟨rfl,p⟩))
  ·refine Au (aa ?_)
   refine Ak fun _ af=>AO 0 Bs rfl q rfl rfl (AO 1 Bs rfl q rfl rfl (bB b fun au ag b=>(A7 rfl Tryz.call185 (SC g d f _ ag) rfl ?_)))
   rintro _ av ⟨rfl,ah⟩
   refine ⟨_,rfl,?_⟩
   have ai:=tm p ah
   refine Aq 2 rfl (af (Ay (rt k rfl rfl (by cases b; exact ⟨rfl,ai⟩))))
 refine As (AO 1 Bs rfl n rfl rfl (bB b fun aj ak b=>(Bu rfl Tryz.call61 z n (Ks y d _ ak) rfl fun al _ s j=>(wp 2 rfl ?_))))
 rcases bE (!aj) with c | c
 ·replace b:=BA c b
  refine wo rfl c (wo rfl c (wo rfl c (AA rfl rfl c rfl (Ah ?_))))
  exact jx (o true _ b s (j.sel [1,0] rfl)) rfl
 ·replace b:=Cf c b
  refine wn rfl c (AO 0 Bs rfl j rfl rfl (wn rfl c (bB b fun am an b=>(Bu rfl Tryz.call61 s j (Ks al f _ an) rfl fun aw _ ao ap=>(wn rfl c (wp 1 rfl (A9 rfl rfl c rfl (Ah ?_))))))))
  exact jx (o ((!am)) _ b ao (ap.sel [1,0] rfl)) rfl
theorem TG (c:Ae) (d:Ae1) (i:Ac) (n:RO BN c i d) (r:Int) (b:Jx d = some r) :
  A1 186 [i] c fun e w'=>e = .returned (iv r) ∧ Bl c w':=by
 refine cm Tryz.func186 Tryz.ntmps186 rfl fun Q q hP s t=>?_
 unfold Jx at b
 refine An 1 rfl (An 1 rfl (Ap fun _ u=>(Ak fun _ v=>(wp 1 rfl (BX n Tryz.underlying31 rfl (Aq 1 rfl (v (A0 (AU (fun m a j=>∃ (g:Int) (h:Int),St 18 [(3,(iv g)),(6,i),(7,(iv (List.length d:Int))),(8,(iv h))] a ∧ Bl c j ∧ Sp c j [] ∧ EA d m g h = some r) FU ?_ ?_)))))))))
 ·exact fun a ha=>⟨0,0,ha.sb rfl,s,(t.sel [] rfl),b⟩
 ·rintro f a j ⟨g,h,ha,l,w,b⟩ ai x
  refine BE ?_ ha
  cases f with
  | zero=>exact Bg b
  | succ f =>
   obtain ⟨aj,o⟩:∃ k,k = EA d f:=⟨_,rfl⟩
   rw [EA,← o] at b
   refine An 1 rfl (Ap fun _ y=>(A3 rfl b (fun _ b=>?_) (fun _ b=>?_)))
   ·refine Au (y ?_)
    refine Ap fun _ z=>A0 (Ak fun _ aa=>(bB b fun ab ac b=>(BP (e:=BN) Tryz.underlying31 rfl rfl rfl n ac ?_)))
    rintro ak _ rfl ad
    refine BZ GL rfl (ad.ro l) rfl (Ei GL rfl l w fun al am _ ae af=>(Gj 0 GL rfl rfl ae af rfl rfl rfl fun an _ ag p=>(Ah (aa (As (wp 1 rfl (Bp Kx rfl (AO 0 A4 rfl p rfl rfl (Aq 2 rfl (z (As (Aq 2 rfl ?_))))))))))))
    rw [o] at b
    exact fun a ha=>x a _ f (AB f) ⟨(Ag (g + ab.1)),(Ag (h + 1)),ha.sb rfl,ag,(p.sel [] rfl),b⟩
   ·refine Bd (u ?_)
    refine An 2 rfl (Ay (rt q rfl rfl (by cases b; exact ⟨rfl,l⟩)))
theorem VB (d:Ae) (f:Ae1) (p:Ac) (u:RO BN d p f) (q:Int) (r:Int) (b:Jh f q = some r) :
  A1 187 [p,(iv q)] d fun e w'=>e = .returned (iv r) ∧ Bl d w':=by
 refine cm Tryz.func187 Tryz.ntmps187 rfl fun Q v hP y z=>?_
 unfold Jh at b
 refine An 1 rfl (An 1 rfl (Ap fun _ aa=>(Ak fun _ ab=>(wp 1 rfl (BX u Tryz.underlying31 rfl (Aq 1 rfl (ab (A0 (AU (fun m a s=>∃ (i:Int) (j:Int) (l:Int),St 39 [(1,(iv i)),(5,(iv j)),(8,p),(9,(iv (List.length f:Int))),(10,(iv l))] a ∧ Bl d s ∧ Sp d s [] ∧ Gx f m i j l = some r) FU ?_ ?_)))))))))
 ·exact fun a ha=>⟨q,0,0,ha.sb rfl,y,(z.sel [] rfl),b⟩
 ·rintro g a s ⟨i,j,l,ha,t,ac,b⟩ aq ad
  refine BE ?_ ha
  cases g with
  | zero=>exact Bg b
  | succ g =>
   obtain ⟨ar,w⟩:∃ k,k = Gx f g:=⟨_,rfl⟩
   rw [Gx,← w] at b
   refine An 1 rfl (Ap fun _ ae=>(A3 rfl b (fun _ b=>?_) (fun _ b=>?_)))
   ·refine Au (ae ?_)
    refine Ap fun _ af=>A0 (Ak fun _ ag=>(bB b fun h ah b=>(BP (e:=BN) Tryz.underlying31 rfl rfl rfl u ah ?_)))
    rintro au _ rfl ai
    refine BZ GL rfl (ai.ro t) rfl (Ei GL rfl t ac fun av aw _ aj ak=>(Gj 0 GL rfl rfl aj ak rfl rfl rfl fun ax _ x c=>(Ah (ag (Ap fun _ al=>(Ak fun _ am=>(wp 1 rfl (Bp Kx rfl (AO 0 A4 rfl c rfl rfl (Aq 1 rfl (am (A3 rfl b (fun _ b=>?_) (fun _ b=>?_)))))))))))))
    ·refine Ak fun _ an=>?_
     refine wp 3 rfl (Bp NE rfl (AO 0 A4 rfl c rfl rfl ?_))
     have n:h.2 ≠ 0:=fun n=>Bg (BA n b)
     replace b:=Lp n b
     refine MO rfl rfl rfl n (Aq 2 rfl (an (Ay (rt v rfl rfl (by cases b; exact ⟨rfl,x⟩)))))
    ·refine Au (al ?_)
     refine Ak fun _ ao=>wp 1 rfl (Bp Kx rfl (AO 0 A4 rfl c rfl rfl (wp 1 rfl (Bp NE rfl (AO 0 A4 rfl c rfl rfl ?_)))))
     have o:h.2 ≠ 0:=fun o=>Bg (BA o b)
     replace b:=Lp o b
     refine MO rfl rfl rfl o (Aq 2 rfl (ao (As (wp 1 rfl (Bp Kx rfl (AO 0 A4 rfl c rfl rfl (Aq 2 rfl (af (As (Aq 2 rfl ?_))))))))))
     rw [w] at b
     exact fun a ha=>ad a _ g (AB g) ⟨(Ag (i - h.1)),(Ag (j + (Ag (Int.tdiv (Ag (60000 * h.1)) h.2)))),(Ag (l + 1)),ha.sb rfl,x,(c.sel [] rfl),b⟩
   ·refine Bd (aa ?_)
    refine An 2 rfl (Ay (rt v rfl rfl (by cases b; exact ⟨rfl,t⟩)))
theorem VC (d:Ae) (g:Ae1) (f:Ac) (j:RO BN d f g) (h:Int) (r:(Int × Bool)) (b:Kr g h = some r) :
  A1 128 [f,(iv h)] d fun e w'=>e = .returned (.tuple #[(iv r.1),(.bool r.2)]) ∧ Bl d w':=by
 refine cm Tryz.func128 Tryz.ntmps128 rfl fun Q n hP o s=>?_
 unfold Kr at b
 refine An 2 rfl (Ap fun _ t=>(Ap fun u v=>?_))
 obtain ⟨w,x,b⟩:=Cj b
 have p:∀ (k:Bool) (i:Ae) (_:w k = some r) (_:Bl d i) (_:Sp d i []),∀ a,St 19 [(0,f),(1,(iv h)),(15,(.bool k))] a → u a i:=by
  intro k i b l ap
  subst x
  refine v (A3 rfl b (fun _ b=>?_) (fun _ b=>?_))
  ·refine An 2 rfl ?_
   refine Ay (rt n rfl rfl (by cases b; exact ⟨rfl,l⟩))
  ·refine Au (t ?_)
   refine Ak fun _ y=>wp 2 rfl (bB b fun aq z b=>(A7 rfl Tryz.call187 (VB i g f (j.ro l) h _ z) rfl ?_))
   rintro _ ar ⟨rfl,aa⟩
   refine ⟨_,rfl,?_⟩
   have ab:=tm l aa
   refine Aq 2 rfl (y (Ay (rt n rfl rfl (by cases b; exact ⟨rfl,ab⟩))))
 refine As (wp 1 rfl (bB b fun ac ad b=>(Bu rfl Tryz.call44 o s (P9 d g f (j.ro o) _ ad) rfl fun ae _ m q=>(wp 2 rfl ?_))))
 rcases bE (!ac) with c | c
 ·replace b:=BA c b
  refine wo rfl c (wo rfl c (wo rfl c (wo rfl c (wo rfl c (AA rfl rfl c rfl (Ah ?_))))))
  exact jx (p true _ b m (q.sel [] rfl)) rfl
 ·replace b:=Cf c b
  refine wn rfl c (wp 1 rfl (wn rfl c (wp 1 rfl (wn rfl c (bB b fun af ag b=>(Bu rfl Tryz.call186 m q (TG ae g f (j.ro m) _ ag) rfl fun ah _ ai aj=>(wn rfl c (bB b fun ak al b=>(Bu rfl Tryz.call60 ai aj (Cr ah h 0 af _ al) rfl fun au _ am an=>(wn rfl c (wp 1 rfl (A9 rfl rfl c rfl (Ah ?_)))))))))))))
  exact jx (p ((!ak)) _ b am (an.sel [] rfl)) rfl
theorem SH (h:Ae) (l:Ae2) (o:Ac) (v:RO Az h o l) (j:Int) (i:Int) (r:(Int × Bool)) (b:IF l j i = some r) :
  A1 129 [o,(iv j),(iv i)] h fun e w'=>e = .returned (.tuple #[(iv r.1),(.bool r.2)]) ∧ Bl h w':=by
 refine cm Tryz.func129 Tryz.ntmps129 rfl fun Q w hP hB hS=>?_
 unfold IF at b
 refine An 2 rfl (Ap fun _ ap=>(Ap fun K3 ar=>?_))
 obtain ⟨k8,av,b⟩:=Cj b
 have x:∀ (y:Bool) (t:Ae) (_:k8 y = some r) (_:Bl h t) (_:Sp h t []),∀ a,St 48 [(0,o),(1,(iv j)),(2,(iv i)),(22,(.bool y))] a → K3 a t:=by
  intro y t b af aw
  subst av
  refine ar (A3 rfl b (fun _ b=>?_) (fun _ b=>?_))
  ·refine An 2 rfl ?_
   refine Ay (rt w rfl rfl (by cases b; exact ⟨rfl,af⟩))
  ·refine Au (ap ?_)
   refine Ap fun _ ax=>Ak fun _ ay=>wp 1 rfl (BX v Tryz.underlying72 rfl (Aq 1 rfl (ay (A0 (AU (fun m a z=>∃ (q:Int),St 48 [(1,(iv j)),(2,(iv i)),(23,o),(24,(iv (List.length l:Int))),(25,(iv q))] a ∧ Bl h z ∧ Sp h z [] ∧ Ew l j i m q = some r) FU ?_ ?_)))))
   ·exact fun a ha=>⟨0,ha.sb rfl,af,(aw.sel [] rfl),b⟩
   ·rintro s a z ⟨q,ha,aa,az,b⟩ bn a0
    refine BE ?_ ha
    cases s with
    | zero=>exact Bg b
    | succ s =>
     obtain ⟨bo,ag⟩:∃ k,k = Ew l j i s:=⟨_,rfl⟩
     rw [Ew,← ag] at b
     refine An 1 rfl (Ap fun _ a1=>(A3 rfl b (fun _ b=>?_) (fun _ b=>?_)))
     ·refine Au (a1 ?_)
      refine Ap fun _ a2=>A0 (Ak fun _ a3=>(bB b fun n a4 b=>(BP (e:=Az) Tryz.underlying72 rfl rfl rfl v a4 ?_)))
      rintro bp _ rfl a5
      refine BZ BD rfl (a5.ro aa) rfl (Ei BD rfl aa az fun ah bq _ a6 a7=>(Gj 0 BD rfl rfl a6 a7 rfl rfl rfl fun br _ ab p=>(Ah (a3 (Ap fun a8 a9=>?_)))))
      obtain ⟨ba,bb,b⟩:=Cj b
      have ac:∀ (ad:Bool) (u:Ae) (_:ba ad = some r) (_:Bl h u) (_:Sp h u [A5 ah 125 [(iv n.1),(iv n.2.1),(iv n.2.2.1),(iv n.2.2.2)]]),∀ a,St 48 [(1,(iv j)),(2,(iv i)),(9,(.pointer (some ⟨ah,0,none⟩))),(23,o),(24,(iv (List.length l:Int))),(25,(iv q)),(44,(.bool ad))] a → a8 a u:=by
       intro ad u b ai aj
       subst bb
       refine a9 (A3 rfl b (fun _ b=>?_) (fun _ b=>?_))
       ·refine Ak fun _ bc=>?_
        refine Bp J4 rfl (AO 0 A4 rfl aj rfl rfl (Aq 2 rfl (bc (Ay (rt w rfl rfl (by cases b; exact ⟨rfl,ai⟩))))))
       ·refine Au (a2 ?_)
        refine As (Aq 2 rfl ?_)
        rw [ag] at b
        exact fun a ha=>a0 a _ s (AB s) ⟨(Ag (q + 1)),ha.sb rfl,ai,(aj.sel [] rfl),b⟩
      refine As (Bp HT rfl (AO 0 A4 rfl p rfl rfl (wp 3 rfl ?_)))
      rcases bE (n.2.1 == j) with c | c
      ·replace b:=BA c b
       refine wn rfl c (Bp DB rfl (wn rfl c (AO 0 A4 rfl p rfl rfl (wn rfl c (wp 1 rfl (wn rfl c (wp 1 rfl (AA rfl rfl c rfl (wp 1 rfl ?_)))))))))
       rcases bE (decide (n.2.2.1 ≤ i)) with d | d
       ·replace b:=BA d b
        refine wn rfl d (wp 1 rfl (wn rfl d (Bp GP rfl (wn rfl d (AO 0 A4 rfl p rfl rfl (wn rfl d (wp 1 rfl (AA rfl rfl d rfl (Ah ?_)))))))))
        exact jx (ac ((decide (i < n.2.2.2))) _ b ab (p.sel [0] rfl)) rfl
       ·replace b:=Cf d b
        refine wo rfl d (wo rfl d (wo rfl d (wo rfl d (A9 rfl rfl d rfl (Ah ?_)))))
        exact jx (ac false _ b ab (p.sel [0] rfl)) rfl
      ·replace b:=Cf c b
       refine wo rfl c (wo rfl c (wo rfl c (wo rfl c (A9 rfl rfl c rfl (wp 1 rfl (wo rfl rfl (wo rfl rfl (wo rfl rfl (wo rfl rfl (A9 rfl rfl rfl rfl (Ah ?_)))))))))))
       exact jx (ac false _ b ab (p.sel [0] rfl)) rfl
     ·refine Bd (ax ?_)
      refine An 2 rfl (Ay (rt w rfl rfl (by cases b; exact ⟨rfl,aa⟩)))
 refine As (wp 1 rfl (bB b fun bd be b=>(Bu rfl Tryz.call116 hB hS (Nt h l o (v.ro hB) _ be) rfl fun bf _ ak al=>(wp 2 rfl ?_))))
 rcases bE (!bd) with f | f
 ·replace b:=BA f b
  refine wo rfl f (wo rfl f (wo rfl f (AA rfl rfl f rfl (wp 1 rfl (wo rfl rfl (wo rfl rfl (wo rfl rfl (AA rfl rfl rfl rfl (Ah ?_)))))))))
  exact jx (x true _ b ak (al.sel [] rfl)) rfl
 ·replace b:=Cf f b
  refine wn rfl f (wp 1 rfl (wn rfl f (bB b fun bg bh b=>(Bu rfl Tryz.call60 ak al (Cr bf j 1 9 _ bh) rfl fun bi _ am an=>(wn rfl f (wp 1 rfl (A9 rfl rfl f rfl (wp 1 rfl ?_))))))))
  rcases bE (!bg) with g | g
  ·replace b:=BA g b
   refine wo rfl g (wo rfl g (wo rfl g (AA rfl rfl g rfl (Ah ?_))))
   exact jx (x true _ b am (an.sel [] rfl)) rfl
  ·replace b:=Cf g b
   refine wn rfl g (wp 1 rfl (wn rfl g (bB b fun u64 bj b=>(Bu rfl Tryz.call60 am an (Cr bi i 0 999 _ bj) rfl fun bs _ bk bl=>(wn rfl g (wp 1 rfl (A9 rfl rfl g rfl (Ah ?_))))))))
   exact jx (x ((!u64)) _ b bk (bl.sel [] rfl)) rfl
theorem Rk (c:Ae) (d:Ae4) (i:Ac) (o:RO Ch c i d) (f:(List Int)) (n:Ac) (p:RO Ar c n f) (r:Bool) (b:HG d f = some r) :
  A1 223 [i,n] c fun e w'=>e = .returned (.bool r) ∧ Bl c w':=by
 refine cm Tryz.func223 Tryz.ntmps223 rfl fun Q q hP u v=>?_
 unfold HG at b
 refine An 1 rfl (Ap fun _ w=>(Ak fun _ x=>(wp 1 rfl (BX p Tryz.underlying36 rfl (Aq 1 rfl (x (A0 (AU (fun m a g=>∃ (j:Int),St 22 [(0,i),(7,n),(8,(iv (List.length f:Int))),(9,(iv j))] a ∧ Bl c g ∧ Sp c g [] ∧ DP f d m j = some r) FU ?_ ?_))))))))
 ·exact fun a ha=>⟨0,ha.sb rfl,u,(v.sel [] rfl),b⟩
 ·rintro h a g ⟨j,ha,l,y,b⟩ ao z
  refine BE ?_ ha
  cases h with
  | zero=>exact Bg b
  | succ h =>
   obtain ⟨ap,s⟩:∃ k,k = DP f d h:=⟨_,rfl⟩
   rw [DP,← s] at b
   refine An 1 rfl (Ap fun _ aa=>(A3 rfl b (fun _ b=>?_) (fun _ b=>?_)))
   ·refine Au (aa ?_)
    refine Ap fun _ ab=>A0 (Ak fun _ ac=>(bB b fun ad ae b=>(BP (e:=Ar) Tryz.underlying36 rfl rfl rfl p ae ?_)))
    rintro aq _ rfl af
    refine BZ A4 rfl (af.ro l) rfl (Aq 1 rfl (ac (Ak fun _ ag=>(wp 2 rfl (BX o Tryz.underlying41 rfl (wp 1 rfl (bB b fun ar ah b=>(Bu rfl Tryz.call60 l y (Cr g ad 0 (Ag ((List.length d:Int) - 1)) _ ah) rfl fun au _ t ai=>(Aq 1 rfl (ag (A3 rfl b (fun _ b=>?_) (fun _ b=>?_))))))))))))
    ·refine An 1 rfl ?_
     refine Ay (rt q rfl rfl (by cases b; exact ⟨rfl,t⟩))
    ·refine Au (ab ?_)
     refine As (Aq 2 rfl ?_)
     rw [s] at b
     exact fun a ha=>z a _ h (AB h) ⟨(Ag (j + 1)),ha.sb rfl,t,(ai.sel [] rfl),b⟩
   ·refine Bd (w ?_)
    refine Ak fun _ aj=>wp 1 rfl (bB b fun av ak b=>(A7 rfl Tryz.call45 (La g d i (o.ro l) _ ak) rfl ?_))
    rintro _ aw ⟨rfl,al⟩
    refine ⟨_,rfl,?_⟩
    have am:=tm l al
    refine Aq 1 rfl (aj (Ay (rt q rfl rfl (by cases b; exact ⟨rfl,am⟩))))
theorem Mt (f:Ae) (n:(List Int)) (j:Ac) (g:Al) (ax:Sep 0 f [Ab Ar g j n]) (r:(List Int)) (c:En n = some r) :
  A1 267 [j] f fun e w'=>e = .returned (.tuple #[]) ∧ Below 0 (wE f) w' ∧ Sep 0 w' [A6 f (Be [Ab Ar g j n]),Ab Ar g j r]:=by
 refine Ij Tryz.func267 rfl Tryz.ntmps267 rfl rfl fun Q hQn hQ l=>?_
 have hB:Bl (wE f) f:=Ej f
 have hS:Sp (wE f) f [A6 f (Be [Ab Ar g j n]),Ab Ar g j n]:=ax.rest
 unfold En at c
 refine Ak fun _ az=>wp 1 rfl (BX (hS.own_ro (i:=1) rfl) Tryz.underlying36 rfl (Aq 3 rfl (az (A0 (AU (fun m a w2=>∃ (v:(List Int)) (p:Int) (q:Int),St 28 [(0,j),(2,(iv p)),(3,(iv q))] a ∧ Bl (wE f) w2 ∧ Sp (wE f) w2 [A6 f (Be [Ab Ar g j n]),Ab Ar g j v] ∧ CS m v p q = some r) FU ?_ ?_)))))
 ·exact fun a ha=>⟨n,0,(Ag ((List.length n:Int) - 1)),ha.sb rfl,hB,(hS.sel [0,1] rfl),c⟩
 ·rintro w a w2 ⟨v,p,q,ha,ag,ah,c⟩ bp a0
  refine BE ?_ ha
  cases w with
  | zero=>exact Bg c
  | succ w =>
   obtain ⟨bq,ai⟩:∃ k,k = CS w:=⟨_,rfl⟩
   rw [CS,← ai] at c
   refine Ap fun _ a1=>An 3 rfl (A3 rfl c (fun _ c=>?_) (fun _ c=>?_))
   ·refine Au (a1 ?_)
    refine Ap fun a2 a3=>?_
    obtain ⟨a4,a5,c⟩:=Cj c
    have aj:∀ (y:(List Int)) (z:Ae) (_:a4 y = some r) (_:Bl (wE f) z) (_:Sp (wE f) z [A6 f (Be [Ab Ar g j n]),Ab Ar g j y]),∀ a,St 28 [(0,j),(2,(iv p)),(3,(iv q))] a → a2 a z:=by
     intro y z c a6 a7
     subst a5
     refine a3 (As (Aq 6 rfl ?_))
     rw [ai] at c
     exact fun a ha=>a0 a _ w (AB w) ⟨y,(Ag (p + 1)),(Ag (q - 1)),ha.sb rfl,a6,(a7.sel [0,1] rfl),c⟩
    refine A0 (AQ B4 g ag ah fun x _ ak s=>?_)
    have d:=KeepX.refl x g
    refine Ax 0 rfl l d (Ax 1 rfl l d (Ax 2 rfl l d (Ax 3 rfl l d (Ax 4 rfl l d (Ax 5 rfl l d (bB c fun t a8 c=>(Ad 6 rfl l d (Bv (e:=Ar) (i:=1) Tryz.underlying36 rfl rfl rfl s rfl a8 ?_))))))))
    rintro br _ rfl al bs
    refine Ax 8 rfl l d (Ax 9 rfl l d (bB c fun u a9 c=>(Ad 10 rfl l d (Bv (e:=Ar) (i:=1) Tryz.underlying36 rfl rfl rfl s rfl a9 ?_))))
    rintro bt _ rfl am bu
    refine C0 (is:=[7,11]) (by kernel_rfl) rfl (Bb.2 ⟨⟨_,rfl,?_⟩,Bb.2 ⟨⟨_,rfl,?_⟩,fun _ h=>by cases h⟩⟩)
    ·refine BZ A4 rfl al rfl ?_
     refine Ah (Am d (Av 11 rfl (BZ A4 rfl am rfl (Ah (Am d (bB c fun bv an c=>(Ad 12 rfl l d (Bv (e:=Ar) (i:=1) Tryz.underlying36 rfl rfl rfl s rfl an ?_))))))))
     rintro bw _ rfl bx ba
     refine Av 13 rfl (BT (i:=1) (o:=0) (vs:=[(iv t)]) (u':=t) Co A4 rfl rfl rfl rfl ba an ak s rfl rfl ⟨rfl,trivial⟩ rfl fun bz ab bb ao=>?_)
     have ac:=d.wr' ab.1 ab.2.1 (fun _ _ h=>h)
     have bc:∀ b,b < x.heap.size → b ∈ g → b ∈ g:=fun b hlt hb=>(ab.2.2 b hb).elim ((fun _ _ h=>h) b hlt) (fun h=>absurd hlt (AK.2 (Aw (Nat.le_refl x.heap.size) h)))
     refine Ah (Am ac (Av 14 rfl (bB c fun b0 ap c=>(Cw (e:=Ar) (i:=1) Tryz.underlying36 rfl rfl rfl ao rfl ap ?_))))
     rintro b1 _ rfl b2 bd
     refine Ah (Am ac (Av 15 rfl (BT (i:=1) (o:=0) (vs:=[(iv u)]) (u':=u) Co A4 rfl rfl rfl rfl bd ap bb ao rfl rfl ⟨rfl,trivial⟩ rfl fun b3 aq be bf=>?_)))
     have bg:=ac.wr' aq.1 aq.2.1 (bc)
     refine Ah (Am bg (Ba ?_))
     exact jx (aj ((BG (BG v p t) q u)) _ c be (bf.sel [0,1] rfl)) rfl
    ·refine BZ A4 rfl am rfl ?_
     refine Ah (Am d (Av 7 rfl (BZ A4 rfl al rfl (Ah (Am d (bB c fun b4 ar c=>(Ad 12 rfl l d (Bv (e:=Ar) (i:=1) Tryz.underlying36 rfl rfl rfl s rfl ar ?_))))))))
     rintro b5 _ rfl b6 bh
     refine Av 13 rfl (BT (i:=1) (o:=0) (vs:=[(iv t)]) (u':=t) Co A4 rfl rfl rfl rfl bh ar ak s rfl rfl ⟨rfl,trivial⟩ rfl fun b7 ad bi au=>?_)
     have ae:=d.wr' ad.1 ad.2.1 (fun _ _ h=>h)
     have bj:∀ b,b < x.heap.size → b ∈ g → b ∈ g:=fun b hlt hb=>(ad.2.2 b hb).elim ((fun _ _ h=>h) b hlt) (fun h=>absurd hlt (AK.2 (Aw (Nat.le_refl x.heap.size) h)))
     refine Ah (Am ae (Av 14 rfl (bB c fun b8 av c=>(Cw (e:=Ar) (i:=1) Tryz.underlying36 rfl rfl rfl au rfl av ?_))))
     rintro b9 _ rfl ca bk
     refine Ah (Am ae (Av 15 rfl (BT (i:=1) (o:=0) (vs:=[(iv u)]) (u':=u) Co A4 rfl rfl rfl rfl bk av bi au rfl rfl ⟨rfl,trivial⟩ rfl fun cb aw bl bm=>?_)))
     have bn:=ae.wr' aw.1 aw.2.1 (bj)
     refine Ah (Am bn (Ba ?_))
     exact jx (aj ((BG (BG v p t) q u)) _ c bl (bm.sel [0,1] rfl)) rfl
   ·refine Bd ?_
    obtain rfl:=Option.some.inj c
    exact LW (vs:=[]) hQn rfl trivial ⟨rfl,ag,ah.sel [0,1] rfl⟩
theorem Xj (f:Ae) (n:Ae4) (s:Ac) (ab:RO Ch f s n) (t:Int) (r:(List Int)) (b:KX n t = some r) :
  A1 244 [s,(iv t)] f fun e w'=>∃ (w:Ac) (G0:Al),e = .returned w ∧ Bl f w' ∧ Sp f w' [Ab Ar G0 w r]:=by
 refine cm Tryz.func244 Tryz.ntmps244 rfl fun Q hQ hP hB hS=>?_
 unfold KX at b
 refine An 1 rfl (Ak fun _ ag=>(Bc (vs:=[]) (l:=[]) Co Tryz.underlying36 rfl rfl rfl rfl rfl rfl hB hS fun v3 F4 w5 _ aj ak=>(Aq 1 rfl (ag (Ap fun _ al=>(A0 (AU (fun m a p=>∃ (h:Int) (g:(List Int)) (c:Ac) (d:Al),St 21 [(0,s),(1,(iv h)),(5,c)] a ∧ Bl f p ∧ Sp f p [Ab Ar d c g] ∧ E5 n m h g = some r) FU ?_ ?_)))))))
 ·exact fun a ha=>⟨t,[],v3,F4,ha.sb rfl,aj,(ak.sel [0] rfl),b⟩
 ·rintro j a p ⟨h,g,c,d,ha,u,q,b⟩ a9 am
  refine BE ?_ ha
  cases j with
  | zero=>exact Bg b
  | succ j =>
   obtain ⟨ba,x⟩:∃ k,k = E5 n j:=⟨_,rfl⟩
   rw [E5,← x] at b
   refine Ap fun _ an=>An 2 rfl (A3 rfl b (fun _ b=>?_) (fun _ b=>?_))
   ·refine Au (an ?_)
    refine Ap fun _ ao=>A0 (As (wp 2 rfl (Bc (vs:=[(iv h)]) (l:=[h]) Co Tryz.underlying36 rfl rfl rfl rfl rfl rfl u q fun bb bc ap _ aq y=>(bB b fun ar au b=>(AF (i:=1) (S:=(· < ap.heap.size)) Co Tryz.underlying36 rfl rfl rfl aq y rfl (y.own_ro (i:=0) rfl) au fun av aw bd _ z ax=>(Aq 1 rfl (ao (As (wp 2 rfl (bB b fun ay az b=>(BP (e:=Ch) Tryz.underlying41 rfl rfl rfl ab az ?_)))))))))))
    rintro be _ rfl a0
    refine JT (o:=0) ND rfl rfl (BZ A4 rfl ((a0.ro z).add 0) rfl (Aq 1 rfl ?_))
    rw [x] at b
    exact fun a ha=>am a _ j (AB j) ⟨ay.1,ar,av,aw,ha.sb rfl,z,(ax.sel [1] rfl),b⟩
   ·refine Bd (al ?_)
    refine Ak fun _ a1=>wp 1 rfl (bB b fun v a2 b=>(A7 rfl Tryz.call267 (Mt p g c d (q.sel [0] rfl).base0 _ a2) rfl ?_))
    rintro _ a3 ⟨rfl,a4,aa⟩
    refine ⟨_,rfl,?_⟩
    have a5:=q.mutB [0] rfl (M:=[Ab Ar d c g]) rfl (M':=[Ab Ar d c v]) rfl u u.size a4 aa
    have a6:Sp f a3 [Ab Ar d c v]:=q.mut [0] [] rfl (M:=[Ab Ar d c g]) rfl (M':=[Ab Ar d c v]) rfl aa
    refine Ah (a1 (An 2 rfl (Ay (rt hQ rfl rfl (by cases b; exact ⟨c,d,rfl,a5,a6.sel [0] rfl⟩)))))
theorem UH (g:Ae) (j:Ae4) (q:Ac) (ad:RO Ch g q j) (n:Int) (r:(List Int)) (c:JN j n = some r) :
  A1 224 [q,(iv n)] g fun e w'=>∃ (q0:Ac) (G0:Al),e = .returned q0 ∧ Bl g w' ∧ Sp g w' [Ab Ar G0 q0 r]:=by
 refine cm Tryz.func224 Tryz.ntmps224 rfl fun Q hQ f hB hS=>?_
 unfold JN at c
 refine An 1 rfl (Ak fun _ a0=>(Bc (vs:=[]) (l:=[]) Co Tryz.underlying36 rfl rfl rfl rfl rfl rfl hB hS fun v3 F4 w5 _ a3 a4=>(Aq 1 rfl (a0 (Ap fun _ a5=>(An 1 rfl (A0 (AU (fun m a v=>∃ (w:(List Int)) (x:Int) (y:Ac) (ae:Al),St 37 [(0,q),(1,(iv n)),(5,y),(9,(iv x))] a ∧ Bl g v ∧ Sp g v [Ab Ar ae y w] ∧ Fh j n m w x = some r) FU ?_ ?_))))))))
 ·exact fun a ha=>⟨[],0,v3,F4,ha.sb rfl,a3,(a4.sel [0] rfl),c⟩
 ·rintro s a v ⟨w,x,y,ae,ha,af,al,c⟩ b4 a6
  refine BE ?_ ha
  cases s with
  | zero=>exact Bg c
  | succ s =>
   obtain ⟨b5,am⟩:∃ k,k = Fh j n s:=⟨_,rfl⟩
   rw [Fh,← am] at c
   refine An 1 rfl (Ap fun _ a7=>(A3 rfl c (fun _ c=>?_) (fun _ c=>?_)))
   ·refine Au (a7 ?_)
    refine Ap fun _ a8=>A0 (As (wp 1 rfl (Bc (vs:=[(iv (-1))]) (l:=[(-1)]) Co Tryz.underlying36 rfl rfl rfl rfl rfl rfl af al fun b6 b7 a9 _ ba an=>(bB c fun bb bc c=>(AF (i:=1) (S:=(· < a9.heap.size)) Co Tryz.underlying36 rfl rfl rfl ba an rfl (an.own_ro (i:=0) rfl) bc fun bd be b8 _ bf bg=>(Aq 1 rfl (a8 (As (Aq 2 rfl ?_)))))))))
    rw [am] at c
    exact fun a ha=>a6 a _ s (AB s) ⟨bb,(Ag (x + 1)),bd,be,ha.sb rfl,bf,(bg.sel [1] rfl),c⟩
   ·refine Bd (a5 ?_)
    refine Ap fun _ bh=>Ak fun _ bi=>wp 2 rfl (bB c fun z bj c=>(E6 rfl Tryz.call244 af al (Xj v j q (ad.ro af) n _ bj) rfl fun ao bk b9 _ _ bl ap=>(BX (ap.own_ro (i:=0) rfl) Tryz.underlying36 rfl (Aq 1 rfl (bi (A0 (AU (fun m a ag=>∃ (aa:(List Int)) (ab:Int) (t:Ac) (p:Al),St 37 [(0,q),(5,t),(17,ao),(18,(iv (List.length z:Int))),(19,(iv ab))] a ∧ Bl g ag ∧ Sp g ag [Ab Ar p t aa,Ab Ar bk ao z] ∧ Dl z j m aa ab = some r) FU ?_ ?_)))))))
    ·exact fun a ha=>⟨w,0,y,ae,ha.sb rfl,bl,(ap.sel [1,0] rfl),c⟩
    ·rintro u a ag ⟨aa,ab,t,p,ha,aq,ah,c⟩ ca bm
     refine BE ?_ ha
     cases u with
     | zero=>exact Bg c
     | succ u =>
      obtain ⟨cb,ar⟩:∃ k,k = Dl z j u:=⟨_,rfl⟩
      rw [Dl,← ar] at c
      refine An 1 rfl (Ap fun _ bn=>(A3 rfl c (fun _ c=>?_) (fun _ c=>?_)))
      ·refine Au (bn ?_)
       refine Ap fun _ bo=>A0 (Ak fun _ bp=>(bB c fun cc bq c=>(Cw (e:=Ar) (i:=1) Tryz.underlying36 rfl rfl rfl ah rfl bq ?_)))
       rintro cd _ rfl br ce
       refine BZ A4 rfl br rfl (Aq 1 rfl (bp (AQ B4 p aq ah fun bs _ ai ac=>?_)))
       have d:=KeepX.refl bs p
       refine Ax 0 rfl f d (Ax 1 rfl f d (Ax 2 rfl f d (bB c fun bt bu c=>(Ad 3 rfl f d (BB (e:=Ch) Tryz.underlying41 rfl rfl rfl ad bu ?_)))))
       rintro cf _ rfl bv
       refine Ad 4 rfl f d (C6 (o:=1) NC rfl rfl (Ad 5 rfl f d (BL A4 rfl (EAt.addk (bv.kx ai (fun b hb=>(((ac.get (i:=0) rfl).2.1 b hb).1))) 1) rfl (Ax 6 rfl f d (Ax 7 rfl f d (bB c fun aj bw c=>(Ad 8 rfl f d (BB (e:=Ch) Tryz.underlying41 rfl rfl rfl ad bw ?_))))))))
       rintro cg _ rfl bx
       refine Ad 9 rfl f d (C6 (o:=2) NB rfl rfl (Ad 10 rfl f d (BL A4 rfl (EAt.addk (bx.kx ai (fun b hb=>(((ac.get (i:=0) rfl).2.1 b hb).1))) 2) rfl (bB c fun ch au c=>(Ad 11 rfl f d (Bv (e:=Ar) (i:=0) Tryz.underlying36 rfl rfl rfl ac rfl au ?_))))))
       rintro ci _ rfl cj bz
       refine Av 12 rfl (BT (i:=0) (o:=0) (vs:=[(iv aj.2.2)]) (u':=aj.2.2) Co A4 rfl rfl rfl rfl bz au ai ac rfl rfl ⟨rfl,trivial⟩ rfl fun ck av b0 b1=>?_)
       have b2:=d.wr' av.1 av.2.1 (fun _ _ h=>h)
       refine Ah (Am b2 (Ba (bo (As (Aq 2 rfl ?_)))))
       rw [ar] at c
       exact fun a ha=>bm a _ u (AB u) ⟨(BG aa bt.2.1 aj.2.2),(Ag (ab + 1)),t,p,ha.sb rfl,b0,(b1.sel [0,1] rfl),c⟩
      ·refine Bd (bh ?_)
       refine An 2 rfl (Ay (rt hQ rfl rfl (by cases c; exact ⟨t,p,rfl,aq,ah.sel [0] rfl⟩)))
theorem UM (c:Ae) (d:Ae4) (f:Ac) (h:RO Ch c f d) (b:Int) (r:((List Int) × Bool)) (a:JR d b = some r) :
  A1 189 [f,(iv b)] c fun e w'=>∃ (j:Ac) (p:Al),e = .returned (.tuple #[j,(.bool r.2)]) ∧ Bl c w' ∧ Sp c w' [Ab Ar p j r.1]:=by
 refine cm Tryz.func189 Tryz.ntmps189 rfl fun Q k hP q s=>?_
 unfold JR at a
 refine An 2 rfl (Ap fun _ t=>(Ak fun _ u=>(wp 2 rfl (Bc (vs:=[(iv b)]) (l:=[b]) Co Tryz.underlying36 rfl rfl rfl rfl rfl rfl q s fun v F5 w _ m n=>(bB a fun ai x a=>(Bu rfl Tryz.call223 m n (Rk w d f (h.ro m) [b] v (n.own_ro (i:=0) rfl) _ x) rfl fun y _ g o=>(Aq 1 rfl (u (A3 rfl a (fun _ a=>?_) (fun _ a=>?_))))))))))
 ·refine An 2 rfl ?_
  refine Ay ?_
  have z:=o.push0 (r:=Ab Ar [] (.slice none 0 0) []) rfl fun _=>.inl ⟨rfl,rfl,rfl⟩
  refine rt k rfl rfl (by cases a; exact ⟨(.slice none 0 0),[],rfl,g,z.sel [0] rfl⟩)
 ·refine Au (t ?_)
  refine Ak fun _ aa=>wp 2 rfl (bB a fun aj ab a=>(E6 rfl Tryz.call224 g o (UH y d f (h.ro g) b _ ab) rfl fun ac ad ak _ _ ae af=>(Aq 2 rfl (aa (Ay (rt k rfl rfl (by cases a; exact ⟨ac,ad,rfl,ae,af.sel [0] rfl⟩)))))))
theorem Mu (c:Ae) (hT:Tab c) (d:(Ae1 × Ae1 × Int × Ae1 × Ae2 × Ae4)) (p0:Addr) (ad:Ac) (b6:RO Ao c ad d.1) (ae:Ac) (b7:RO Ao c ae d.2.1) (af:Ac) (b8:RO BN c af d.2.2.2.1) (ag:Ac) (b9:RO Az c ag d.2.2.2.2.1) (x:Ac) (ar:RO Ch c x d.2.2.2.2.2) (au:EAt (· < c.heap.size) c p0 [ad,ae,(iv d.2.2.1),af,ag,x]) (y:Int) (r:(List Ai)) (b:Fw d y = some r) :
  A1 131 [(.pointer (some p0)),(iv y)] c fun e w'=>e = .returned (.string (B1 r)) ∧ Bl c w':=by
 refine cm Tryz.func131 Tryz.ntmps131 rfl fun Q hQ hP z hS=>?_
 unfold Fw at b
 refine An 1 rfl (Ak fun _ aw=>(wp 1 rfl (BC rfl rfl (JT (o:=5) Ug rfl rfl (BZ Rx rfl ((au.ro z).add 5) rfl (wp 1 rfl (bB b fun f ax b=>(E6 rfl Tryz.call189 z hS (UM c d.2.2.2.2.2 x (ar.ro z) y _ ax) rfl fun n F5 w6 _ _ aj ay=>(Aq 5 rfl (aw (Ap fun _ az=>(An 2 rfl (A3 rfl b (fun _ b=>?_) (fun _ b=>?_))))))))))))))
 ·refine An 1 rfl ?_
  refine Ay (rt hQ rfl rfl (by cases b; exact ⟨rfl,aj⟩))
 ·refine Au (az ?_)
  refine Ak fun _ a0=>Bc (vs:=[]) (l:=[]) I6 Tryz.underlying61 rfl rfl rfl rfl rfl rfl aj ay fun a1 a2 cc _ a3 ak=>Aq 1 rfl (a0 (Ap fun _ a4=>(Ak fun _ a5=>(wp 1 rfl (BX (ak.own_ro (i:=1) rfl) Tryz.underlying36 rfl (Aq 1 rfl (a5 (A0 (AU (fun m a g=>∃ (p:(List (List Ai))) (h:Int) (q:Ac) (aa:Al),St 41 [(7,q),(22,n),(23,(iv (List.length f.1:Int))),(24,(iv h))] a ∧ Bl c g ∧ Sp c g [Ab Cy aa q p,Ab Ar F5 n f.1] ∧ Cv f m p h = some r) FU ?_ ?_)))))))))
  ·exact fun a ha=>⟨[],0,a1,a2,ha.sb rfl,a3,(ak.sel [0,1] rfl),b⟩
  ·rintro j a g ⟨p,h,q,aa,ha,s,t,b⟩ cd a6
   refine BE ?_ ha
   cases j with
   | zero=>exact Bg b
   | succ j =>
    obtain ⟨ce,al⟩:∃ k,k = Cv f j:=⟨_,rfl⟩
    rw [Cv,← al] at b
    refine An 1 rfl (Ap fun _ a7=>(A3 rfl b (fun _ b=>?_) (fun _ b=>?_)))
    ·refine Au (a7 ?_)
     refine Ap fun a8 a9=>?_
     obtain ⟨ba,bb,b⟩:=Cj b
     have am:∀ (u:(List (List Ai))) (v:Ac) (ab:Al) (w:Ae) (_:ba u = some r) (_:Bl c w) (_:Sp c w [Ab Cy ab v u,Ab Ar F5 n f.1]),∀ a,St 41 [(7,v),(22,n),(23,(iv (List.length f.1:Int))),(24,(iv h))] a → a8 a w:=by
      intro u v ab w b bc bd
      subst bb
      refine a9 (As (Aq 2 rfl ?_))
      rw [al] at b
      exact fun a ha=>a6 a _ j (AB j) ⟨u,(Ag (h + 1)),v,ab,ha.sb rfl,bc,(bd.sel [0,1] rfl),b⟩
     refine A0 (Ak fun _ be=>(bB b fun bf bg b=>(Cw (e:=Ar) (i:=1) Tryz.underlying36 rfl rfl rfl t rfl bg ?_)))
     rintro cf _ rfl bh cg
     refine BZ A4 rfl bh rfl (Aq 1 rfl (be (An 2 rfl (A3 rfl b (fun _ b=>?_) (fun _ b=>?_)))))
     ·refine As ?_
      refine wp 1 rfl (Bc (vs:=[(.string (B1 [45]))]) (l:=[[45]]) I6 Tryz.underlying61 rfl rfl rfl rfl rfl rfl s t fun ch ci bi _ bj an=>(bB b fun bk bl b=>(AF (i:=1) (S:=(· < bi.heap.size)) I6 Tryz.underlying61 rfl rfl rfl bj an rfl (an.own_ro (i:=0) rfl) bl fun bm bn cj _ bo bp=>(Aq 1 rfl ?_))))
      exact jx (am bk bm bn _ b bo (bp.sel [1,2] rfl)) rfl
     ·refine As ?_
      refine wp 2 rfl (bB b fun ao bq b=>(Bu rfl Tryz.call130 s t (E2 g (hT.st s) bf _ bq) rfl fun ck _ br bs=>(Bc (vs:=[(.string (B1 ao))]) (l:=[ao]) I6 Tryz.underlying61 rfl rfl rfl rfl rfl rfl br bs fun cl cn bt _ bu ap=>(bB b fun bv bw b=>(AF (i:=1) (S:=(· < bt.heap.size)) I6 Tryz.underlying61 rfl rfl rfl bu ap rfl (ap.own_ro (i:=0) rfl) bw fun bx bz co _ b0 b1=>(Aq 1 rfl ?_))))))
      exact jx (am bv bx bz _ b b0 (b1.sel [1,2] rfl)) rfl
    ·refine Bd (a4 ?_)
     refine Ak fun _ b2=>wp 1 rfl (bB b fun cp b3 b=>(A7 rfl Tryz.call176 (Px g p q aa (t.ok (i:=0) rfl) [32] _ b3) rfl ?_))
     rintro _ cq ⟨rfl,b4⟩
     refine ⟨_,rfl,?_⟩
     have b5:=tm s b4
     refine Aq 1 rfl (b2 (Ay (rt hQ rfl rfl (by cases b; exact ⟨rfl,b5⟩))))
theorem Om (k:Ae) (x:Tab k) (g:(Ae1 × Ae1 × Int × Ae1 × Ae2 × Ae4)) (p0:Addr) (y:Ac) (s:RO Ao k y g.1) (ac:Ac) (ah:RO Ao k ac g.2.1) (ap:Ac) (bz:RO BN k ap g.2.2.2.1) (aq:Ac) (b0:RO Az k aq g.2.2.2.2.1) (a3:Ac) (co:RO Ch k a3 g.2.2.2.2.2) (m:EAt (· < k.heap.size) k p0 [y,ac,(iv g.2.2.1),ap,aq,a3]) (x1:(List Ai)) (x2:(List Int)) (b1:Ac) (t:RO Ar k b1 x2) (r:(List Ai)) (d:Ca g x1 x2 = some r) :
  A1 86 [(.pointer (some p0)),(.string (B1 x1)),b1] k fun e w'=>e = .returned (.string (B1 r)) ∧ Bl k w':=by
 refine cm Tryz.func86 Tryz.ntmps86 rfl fun Q u c f hS=>?_
 unfold Ca at d
 refine An 1 rfl (Ap fun _ ef=>(An 1 rfl (A0 (Ak fun _ eg=>(AP rfl rfl rfl (Aq 1 rfl (eg (A3 rfl d (fun _ d=>?_) (fun _ d=>?_)))))))))
 ·refine Ap fun K6 ei=>?_
  obtain ⟨ej,ek,d⟩:=jE4 d
  have cr:∀ (a4:Ae1) (a5:Ae1) (a6:Int) (a7:(List Int)) (a8:Ac) (cs:Al) (a9:Ac) (ct:Al) (ba:Ac) (cu:Al) (b2:Nat) (w7:Ae) (_:ej a4 a5 a6 a7 = some r) (_:Bl k w7) (_:Sp k w7 [Ab Ao cs a8 a4,Ab Ao ct a9 a5,Ab Ar cu ba a7,A5 b2 128 [a8,a9,(iv a6),ba]]),∀ a,St 182 [(7,(.pointer (some ⟨b2,0,none⟩)))] a → K6 a w7:=by
   intro a4 a5 a6 a7 a8 cs a9 ct ba cu b2 w7 d el bb
   subst ek
   refine ei (Ak fun _ em=>(AO 3 Bo rfl bb rfl rfl (bB d fun cv en d=>(A7 rfl Tryz.call121 (SF w7 (a4,a5,a6,a7) a8 (bb.own_ro (i:=0) rfl) a9 (bb.own_ro (i:=1) rfl) ba (bb.own_ro (i:=2) rfl) _ en) rfl ?_))))
   rintro _ eo ⟨rfl,ep⟩
   refine ⟨_,rfl,?_⟩
   have cw:=tm el ep
   refine wp 2 rfl (bB d fun i3 eq d=>(A7 rfl Tryz.call120 (J1 eo (x.st cw) cv.1 cv.2 _ eq) rfl ?_))
   rintro _ i4 ⟨rfl,er⟩
   refine ⟨_,rfl,?_⟩
   have es:=tm cw er
   refine Aq 1 rfl (em (Ay (rt u rfl rfl (by cases d; exact ⟨rfl,es⟩))))
  refine AQ B4 [] f hS fun ae _ z cx=>?_
  have n:=KeepX.refl ae []
  refine Ax 0 rfl c n (Ad 1 rfl c n (B8 rfl rfl (Ad 2 rfl c n (C6 (o:=1) R8 rfl rfl (Ad 3 rfl c n (BL Cm rfl (EAt.addk (m.kx z (by simp)) 1) rfl (Ax 4 rfl c n (Ad 5 rfl c n (B8 rfl rfl (Ad 6 rfl c n (C6 (o:=0) HM rfl rfl (Ad 7 rfl c n (BL Cm rfl (EAt.addk (m.kx z (by simp)) 0) rfl (Ax 8 rfl c n (Ad 9 rfl c n (B8 rfl rfl (Ad 10 rfl c n (C6 (o:=2) R7 rfl rfl (Ad 11 rfl c n (BL A4 rfl (EAt.addk (m.kx z (by simp)) 2) rfl (C0 (is:=[12,16]) (by kernel_rfl) rfl (Bb.2 ⟨⟨_,rfl,?_⟩,Bb.2 ⟨⟨_,rfl,?_⟩,fun _ h=>by cases h⟩⟩))))))))))))))))))))))
  ·refine bB d fun aj et d=>?_
   refine A7 rfl Tryz.call119 (L1 ae g.2.1 ac (ah.ro z) g.1 y (s.ro z) g.2.2.1 _ et) rfl ?_
   rintro _ eu ⟨b3,ev,b4,ew,b5,ex,rfl,bc,ey⟩
   refine ⟨_,rfl,?_⟩
   have cy:=tm z bc
   have ez:=cx.join bc ey z.size
   have au:=n.ext bc
   have e0:=Aw (Nat.le_refl ae.heap.size) bc.size
   refine Ah (Am au (Ax 13 rfl c au (Ad 14 rfl c au (AV rfl rfl rfl (Ad 15 rfl c au (AV rfl rfl rfl (Av 16 rfl (Ei Bo rfl (Bf eu) (Sep.nil _ _) fun cz i5 b6 _ c0=>?_))))))))
   have e1:=tm cy b6
   have bd:=ez.join b6 c0 cy.size
   have e2:∀ b ∈ [cz],ae.heap.size ≤ b:=fun b hb=>Aw e0 ((c0.1 _ (List.mem_cons_self ..)).2.1 b hb).1
   have c1:=au.ext b6
   refine Ah (Am c1 (Av 17 rfl (B9 (i:=0) (vs:=[b3,b4,(iv aj.1.2.2.1),b5]) (cs':=[b3,b4,(iv aj.1.2.2.1),b5]) Bo rfl rfl rfl rfl e1 bd rfl rfl ⟨(bd.own_ro (i:=1) rfl).one,(bd.own_ro (i:=2) rfl).one,rfl,(bd.own_ro (i:=3) rfl).one,trivial⟩ rfl fun i6 c2 e3 e4=>?_)))
   have c3:=c1.wr' c2.1 c2.2.1 (fun b hlt hb=>absurd hlt (AK.2 (e2 b hb)))
   refine Ah (Am c3 (Ad 18 rfl c c3 (AC rfl rfl (Ba ?_))))
   exact jx (cr (aj.1.1) (aj.1.2.1) (aj.1.2.2.1) (aj.1.2.2.2) b3 ev b4 ew b5 ex cz _ d e3 (e4.sel [1,2,3,0] rfl)) rfl
  ·refine Ei Bo rfl (Bf ae) (Sep.nil _ _) fun c4 e5 b7 _ c5=>?_
   have be:=tm z b7
   have e6:=cx.join b7 c5 z.size
   have e7:∀ b ∈ [c4],ae.heap.size ≤ b:=fun b hb=>Aw (Nat.le_refl ae.heap.size) ((c5.1 _ (List.mem_cons_self ..)).2.1 b hb).1
   have c6:=n.ext b7
   refine Ah (Am c6 (Av 12 rfl (bB d fun ak e8 d=>(A7 rfl Tryz.call119 (L1 e5 g.2.1 ac (ah.ro be) g.1 y (s.ro be) g.2.2.1 _ e8) rfl ?_))))
   rintro _ i7 ⟨b8,e9,b9,fa,ca,fb,rfl,cb,fc⟩
   refine ⟨_,rfl,?_⟩
   have fd:=tm be cb
   have bf:=e6.join cb fc be.size
   have av:=c6.ext cb
   refine Ah (Am av (Ax 13 rfl c av (Ad 14 rfl c av (AV rfl rfl rfl (Ad 15 rfl c av (AV rfl rfl rfl (Av 17 rfl (B9 (i:=3) (vs:=[b8,b9,(iv ak.1.2.2.1),ca]) (cs':=[b8,b9,(iv ak.1.2.2.1),ca]) Bo rfl rfl rfl rfl fd bf rfl rfl ⟨(bf.own_ro (i:=0) rfl).one,(bf.own_ro (i:=1) rfl).one,rfl,(bf.own_ro (i:=2) rfl).one,trivial⟩ rfl fun i8 c7 fe ff=>?_))))))))
   have c8:=av.wr' c7.1 c7.2.1 (fun b hlt hb=>absurd hlt (AK.2 (e7 b hb)))
   refine Ah (Am c8 (Ad 18 rfl c c8 (AC rfl rfl (Ba ?_))))
   exact jx (cr (ak.1.1) (ak.1.2.1) (ak.1.2.2.1) (ak.1.2.2.2) b8 e9 b9 fa ca fb c4 _ d fe (ff.sel [0,1,2,3] rfl)) rfl
 ·refine Ak fun _ fg=>?_
  refine AP rfl rfl rfl (Aq 1 rfl (fg (A3 rfl d (fun _ d=>?_) (fun _ d=>?_))))
  ·refine Ak fun _ fh=>?_
   refine wp 2 rfl (bB d fun fi fj d=>(BP (e:=Ar) Tryz.underlying36 rfl rfl rfl t fj ?_))
   rintro i9 _ rfl fk
   refine BZ A4 rfl (fk.ro f) rfl (bB d fun ja fl d=>(A7 rfl Tryz.call122 (N2 k (x.st f) g p0 y (s.ro f) ac (ah.ro f) ap (bz.ro f) aq (b0.ro f) a3 (co.ro f) (m.ro f) fi _ fl) rfl ?_))
   rintro _ jb ⟨rfl,fm⟩
   refine ⟨_,rfl,?_⟩
   have fn:=tm f fm
   refine Aq 1 rfl (fh (Ay (rt u rfl rfl (by cases d; exact ⟨rfl,fn⟩))))
  ·refine Ak fun _ fo=>?_
   refine AP rfl rfl rfl (Aq 1 rfl (fo (A3 rfl d (fun _ d=>?_) (fun _ d=>?_))))
   ·refine Ap fun fp fq=>?_
    obtain ⟨fr,fs,d⟩:=jE4 d
    have c9:∀ (bg:Ae1) (bh:Ae1) (bi:Int) (bj:(List Int)) (bk:Ac) (da:Al) (bl:Ac) (db:Al) (bm:Ac) (dc:Al) (cc:Nat) (bn:Ae) (_:fr bg bh bi bj = some r) (_:Bl k bn) (_:Sp k bn [Ab Ao da bk bg,Ab Ao db bl bh,Ab Ar dc bm bj,A5 cc 128 [bk,bl,(iv bi),bm]]),∀ a,St 182 [(2,b1),(9,(.pointer (some ⟨cc,0,none⟩)))] a → fp a bn:=by
     intro bg bh bi bj bk da bl db bm dc cc bn d ft fu
     subst fs
     refine fq (Ap fun _ fv=>(AQ B4 [] ft fu fun dd _ de bo=>?_))
     have aw:=KeepX.refl dd []
     refine Ad 0 rfl c aw (CQ 3 Bo rfl bo rfl (by simp) (Ax 1 rfl c aw (bB d fun fw fx d=>(Ad 2 rfl c aw (BB (e:=Ar) Tryz.underlying36 rfl rfl rfl t fx ?_)))))
     rintro jc _ rfl fy
     refine Ad 3 rfl c aw (BL A4 rfl (fy.kx de (by simp)) rfl (Av 4 rfl (bB d fun df fz d=>(A7 rfl Tryz.call124 (RL dd (bg,bh,bi,bj) bk (bo.own_ro (i:=0) rfl) bl (bo.own_ro (i:=1) rfl) bm (bo.own_ro (i:=2) rfl) fw _ fz) rfl ?_))))
     rintro _ f0 ⟨rfl,dg⟩
     refine ⟨_,rfl,?_⟩
     have dh:=tm de dg
     have bp:=aw.ext dg
     refine Ah (Am bp (Ad 5 rfl c bp (AV rfl rfl rfl (Ad 6 rfl c bp (AV rfl rfl rfl (Av 7 rfl (bB d fun jd f1 d=>(A7 rfl Tryz.call120 (J1 f0 (x.st dh) df.1 df.2 _ f1) rfl ?_))))))))
     rintro _ je ⟨rfl,di⟩
     refine ⟨_,rfl,?_⟩
     have f2:=tm dh di
     have dj:=bp.ext di
     refine Ah (Am dj (Ad 8 rfl c dj (AC rfl rfl (Ba (fv (Ay (rt u rfl rfl (by cases d; exact ⟨rfl,f2⟩))))))))
    refine AQ B4 [] f hS fun af _ aa dk=>?_
    have p:=KeepX.refl af []
    refine Ax 0 rfl c p (Ad 1 rfl c p (B8 rfl rfl (Ad 2 rfl c p (C6 (o:=1) R8 rfl rfl (Ad 3 rfl c p (BL Cm rfl (EAt.addk (m.kx aa (by simp)) 1) rfl (Ax 4 rfl c p (Ad 5 rfl c p (B8 rfl rfl (Ad 6 rfl c p (C6 (o:=0) HM rfl rfl (Ad 7 rfl c p (BL Cm rfl (EAt.addk (m.kx aa (by simp)) 0) rfl (Ax 8 rfl c p (Ad 9 rfl c p (B8 rfl rfl (Ad 10 rfl c p (C6 (o:=2) R7 rfl rfl (Ad 11 rfl c p (BL A4 rfl (EAt.addk (m.kx aa (by simp)) 2) rfl (C0 (is:=[12,16]) (by kernel_rfl) rfl (Bb.2 ⟨⟨_,rfl,?_⟩,Bb.2 ⟨⟨_,rfl,?_⟩,fun _ h=>by cases h⟩⟩))))))))))))))))))))))
    ·refine bB d fun al f3 d=>?_
     refine A7 rfl Tryz.call123 (HA af g.2.1 ac (ah.ro aa) g.1 y (s.ro aa) g.2.2.1 _ f3) rfl ?_
     rintro _ f4 ⟨cd,f5,ce,f6,cf,f7,rfl,bq,f8⟩
     refine ⟨_,rfl,?_⟩
     have dl:=tm aa bq
     have f9:=dk.join bq f8 aa.size
     have ax:=p.ext bq
     have ga:=Aw (Nat.le_refl af.heap.size) bq.size
     refine Ah (Am ax (Ax 13 rfl c ax (Ad 14 rfl c ax (AV rfl rfl rfl (Ad 15 rfl c ax (AV rfl rfl rfl (Av 16 rfl (Ei Bo rfl (Bf f4) (Sep.nil _ _) fun dm jf cg _ dn=>?_))))))))
     have gb:=tm dl cg
     have br:=f9.join cg dn dl.size
     have gc:∀ b ∈ [dm],af.heap.size ≤ b:=fun b hb=>Aw ga ((dn.1 _ (List.mem_cons_self ..)).2.1 b hb).1
     have dp:=ax.ext cg
     refine Ah (Am dp (Av 17 rfl (B9 (i:=0) (vs:=[cd,ce,(iv al.1.2.2.1),cf]) (cs':=[cd,ce,(iv al.1.2.2.1),cf]) Bo rfl rfl rfl rfl gb br rfl rfl ⟨(br.own_ro (i:=1) rfl).one,(br.own_ro (i:=2) rfl).one,rfl,(br.own_ro (i:=3) rfl).one,trivial⟩ rfl fun jg dq gd ge=>?_)))
     have dr:=dp.wr' dq.1 dq.2.1 (fun b hlt hb=>absurd hlt (AK.2 (gc b hb)))
     refine Ah (Am dr (Ad 18 rfl c dr (AC rfl rfl (Ba ?_))))
     exact jx (c9 (al.1.1) (al.1.2.1) (al.1.2.2.1) (al.1.2.2.2) cd f5 ce f6 cf f7 dm _ d gd (ge.sel [1,2,3,0] rfl)) rfl
    ·refine Ei Bo rfl (Bf af) (Sep.nil _ _) fun ds gf ch _ dt=>?_
     have bs:=tm aa ch
     have gg:=dk.join ch dt aa.size
     have gh:∀ b ∈ [ds],af.heap.size ≤ b:=fun b hb=>Aw (Nat.le_refl af.heap.size) ((dt.1 _ (List.mem_cons_self ..)).2.1 b hb).1
     have du:=p.ext ch
     refine Ah (Am du (Av 12 rfl (bB d fun am gi d=>(A7 rfl Tryz.call123 (HA gf g.2.1 ac (ah.ro bs) g.1 y (s.ro bs) g.2.2.1 _ gi) rfl ?_))))
     rintro _ jh ⟨ci,gj,cj,gk,ck,gl,rfl,cl,gm⟩
     refine ⟨_,rfl,?_⟩
     have gn:=tm bs cl
     have bt:=gg.join cl gm bs.size
     have ay:=du.ext cl
     refine Ah (Am ay (Ax 13 rfl c ay (Ad 14 rfl c ay (AV rfl rfl rfl (Ad 15 rfl c ay (AV rfl rfl rfl (Av 17 rfl (B9 (i:=3) (vs:=[ci,cj,(iv am.1.2.2.1),ck]) (cs':=[ci,cj,(iv am.1.2.2.1),ck]) Bo rfl rfl rfl rfl gn bt rfl rfl ⟨(bt.own_ro (i:=0) rfl).one,(bt.own_ro (i:=1) rfl).one,rfl,(bt.own_ro (i:=2) rfl).one,trivial⟩ rfl fun ji dv go gp=>?_))))))))
     have dw:=ay.wr' dv.1 dv.2.1 (fun b hlt hb=>absurd hlt (AK.2 (gh b hb)))
     refine Ah (Am dw (Ad 18 rfl c dw (AC rfl rfl (Ba ?_))))
     exact jx (c9 (am.1.1) (am.1.2.1) (am.1.2.2.1) (am.1.2.2.2) ci gj cj gk ck gl ds _ d go (gp.sel [0,1,2,3] rfl)) rfl
   ·refine Ak fun _ gq=>?_
    refine AP rfl rfl rfl (Aq 1 rfl (gq (A3 rfl d (fun _ d=>?_) (fun _ d=>?_))))
    ·refine Ak fun _ gr=>?_
     refine wp 1 rfl (BC rfl rfl (JT (o:=0) HM rfl rfl (BZ Cm rfl ((m.ro f).add 0) rfl (bB d fun dx gs d=>(A7 rfl Tryz.call125 (Rn k g.1 y (s.ro f) _ gs) rfl ?_)))))
     rintro _ gt ⟨rfl,gu⟩
     refine ⟨_,rfl,?_⟩
     have dy:=tm f gu
     refine wp 2 rfl (bB d fun jj gv d=>(A7 rfl Tryz.call120 (J1 gt (x.st dy) dx.1 dx.2 _ gv) rfl ?_))
     rintro _ jk ⟨rfl,gw⟩
     refine ⟨_,rfl,?_⟩
     have gx:=tm dy gw
     refine Aq 1 rfl (gr (Ay (rt u rfl rfl (by cases d; exact ⟨rfl,gx⟩))))
    ·refine Ak fun _ gy=>?_
     refine AP rfl rfl rfl (Aq 1 rfl (gy (A3 rfl d (fun _ d=>?_) (fun _ d=>?_))))
     ·refine Ap fun _ gz=>?_
      refine Ap fun _ g0=>AQ B4 [] f hS fun g1 _ bu g2=>?_
      have ab:=KeepX.refl g1 []
      refine Ax 0 rfl c ab (bB d fun jl g3 d=>(Ad 1 rfl c ab (BB (e:=Ar) Tryz.underlying36 rfl rfl rfl t g3 ?_)))
      rintro jm _ rfl g4
      refine Ad 2 rfl c ab (BL A4 rfl (g4.kx bu (by simp)) rfl (Ax 3 rfl c ab (Ad 4 rfl c ab (B8 rfl rfl (Ad 5 rfl c ab (C6 (o:=0) HM rfl rfl (Ad 6 rfl c ab (BL Cm rfl (EAt.addk (m.kx bu (by simp)) 0) rfl (Ad 7 rfl c ab (M8 (e:=Ao) (l:=g.1) Tryz.underlying26 rfl rfl s (Ad 8 rfl c ab (Ws rfl rfl rfl (Ba (g0 (A3 rfl d (fun _ d=>?_) (fun _ d=>?_))))))))))))))))
      ·refine An 1 rfl ?_
       refine Ay (rt u rfl rfl (by cases d; exact ⟨rfl,bu⟩))
      ·refine Au (gz ?_)
       refine Ap fun _ g5=>AQ B4 [] bu g2 fun dz _ az _=>?_
       have w:=KeepX.refl dz []
       refine Ax 0 rfl c w (Ad 1 rfl c w (B8 rfl rfl (Ad 2 rfl c w (C6 (o:=0) HM rfl rfl (Ad 3 rfl c w (BL Cm rfl (EAt.addk (m.kx az (by simp)) 0) rfl (Ax 4 rfl c w (bB d fun jn g6 d=>(Ad 5 rfl c w (BB (e:=Ar) Tryz.underlying36 rfl rfl rfl t g6 ?_))))))))))
       rintro jo _ rfl g7
       refine Ad 6 rfl c w (BL A4 rfl (g7.kx az (by simp)) rfl (bB d fun g8 g9 d=>(Ad 7 rfl c w (BB (e:=Ao) Tryz.underlying26 rfl rfl rfl s g9 ?_))))
       rintro jp _ rfl ha
       refine Ad 8 rfl c w (BL Bs rfl (ha.kx az (by simp)) rfl (Av 9 rfl (bB d fun jq hc d=>(A7 rfl Tryz.call126 (TH dz (x.st az) g8 _ hc) rfl ?_))))
       rintro _ jr ⟨rfl,d0⟩
       refine ⟨_,rfl,?_⟩
       have hd:=tm az d0
       have an:=w.ext d0
       refine Ah (Am an (Ax 10 rfl c an (Ad 11 rfl c an (AV rfl rfl rfl (Ad 12 rfl c an (AV rfl rfl rfl (Ad 13 rfl c an (AC rfl rfl (Ad 14 rfl c an (AC rfl rfl (Ba (g5 (An 2 rfl (Ay (rt u rfl rfl (by cases d; exact ⟨rfl,hd⟩))))))))))))))))
     ·refine Ak fun _ he=>?_
      refine AP rfl rfl rfl (Aq 1 rfl (he (A3 rfl d (fun _ d=>?_) (fun _ d=>?_))))
      ·refine Ap fun _ hf=>?_
       refine Ap fun _ hg=>AQ B4 [] f hS fun hh _ a0 hi=>?_
       have q:=KeepX.refl hh []
       refine Ax 0 rfl c q (bB d fun js hj d=>(Ad 1 rfl c q (BB (e:=Ar) Tryz.underlying36 rfl rfl rfl t hj ?_)))
       rintro jt _ rfl hk
       refine Ad 2 rfl c q (BL A4 rfl (hk.kx a0 (by simp)) rfl (Ax 3 rfl c q (bB d fun ju hl d=>(Ad 4 rfl c q (BB (e:=Ar) Tryz.underlying36 rfl rfl rfl t hl ?_)))))
       rintro jv _ rfl hm
       refine Ad 5 rfl c q (BL A4 rfl (hm.kx a0 (by simp)) rfl (Ad 6 rfl c q (Acu rfl rfl rfl (Ax 7 rfl c q (Ad 8 rfl c q (B8 rfl rfl (Ad 9 rfl c q (C6 (o:=0) HM rfl rfl (Ad 10 rfl c q (BL Cm rfl (EAt.addk (m.kx a0 (by simp)) 0) rfl (Ad 11 rfl c q (M8 (e:=Ao) (l:=g.1) Tryz.underlying26 rfl rfl s (Ad 12 rfl c q (Ws rfl rfl rfl (Ba (hg (A3 rfl d (fun _ d=>?_) (fun _ d=>?_))))))))))))))))))
       ·refine An 1 rfl ?_
        refine Ay (rt u rfl rfl (by cases d; exact ⟨rfl,a0⟩))
       ·refine Au (hf ?_)
        refine Ap fun _ hn=>AQ B4 [] a0 hi fun d1 _ ag _=>?_
        have j:=KeepX.refl d1 []
        refine Ax 0 rfl c j (Ad 1 rfl c j (B8 rfl rfl (Ad 2 rfl c j (C6 (o:=0) HM rfl rfl (Ad 3 rfl c j (BL Cm rfl (EAt.addk (m.kx ag (by simp)) 0) rfl (Ax 4 rfl c j (bB d fun jw ho d=>(Ad 5 rfl c j (BB (e:=Ar) Tryz.underlying36 rfl rfl rfl t ho ?_))))))))))
        rintro jy _ rfl hp
        refine Ad 6 rfl c j (BL A4 rfl (hp.kx ag (by simp)) rfl (bB d fun hq hr d=>(Ad 7 rfl c j (BB (e:=Ao) Tryz.underlying26 rfl rfl rfl s hr ?_))))
        rintro jz _ rfl hs
        refine Ad 8 rfl c j (BL Bs rfl (hs.kx ag (by simp)) rfl (Ax 9 rfl c j (Ad 10 rfl c j (B8 rfl rfl (Ad 11 rfl c j (C6 (o:=0) HM rfl rfl (Ad 12 rfl c j (BL Cm rfl (EAt.addk (m.kx ag (by simp)) 0) rfl (Ax 13 rfl c j (bB d fun j0 ht d=>(Ad 14 rfl c j (BB (e:=Ar) Tryz.underlying36 rfl rfl rfl t ht ?_))))))))))))
        rintro j1 _ rfl hu
        refine Ad 15 rfl c j (BL A4 rfl (hu.kx ag (by simp)) rfl (bB d fun hv hw d=>(Ad 16 rfl c j (BB (e:=Ao) Tryz.underlying26 rfl rfl rfl s hw ?_))))
        rintro j2 _ rfl hx
        refine Ad 17 rfl c j (BL Bs rfl (hx.kx ag (by simp)) rfl (Av 18 rfl (bB d fun d2 hy d=>(A7 rfl Tryz.call127 (SG d1 hq hv _ hy) rfl ?_))))
        rintro _ hz ⟨rfl,d3⟩
        refine ⟨_,rfl,?_⟩
        have d4:=tm ag d3
        have bv:=j.ext d3
        refine Ah (Am bv (Ad 19 rfl c bv (AV rfl rfl rfl (Ad 20 rfl c bv (AV rfl rfl rfl (Av 21 rfl (bB d fun j3 h0 d=>(A7 rfl Tryz.call120 (J1 hz (x.st d4) d2.1 d2.2 _ h0) rfl ?_))))))))
        rintro _ j4 ⟨rfl,d5⟩
        refine ⟨_,rfl,?_⟩
        have h1:=tm d4 d5
        have d6:=bv.ext d5
        refine Ah (Am d6 (Ad 22 rfl c d6 (AC rfl rfl (Ba (hn (Ay (rt u rfl rfl (by cases d; exact ⟨rfl,h1⟩))))))))
      ·refine Ak fun _ h2=>?_
       refine AP rfl rfl rfl (Aq 1 rfl (h2 (A3 rfl d (fun _ d=>?_) (fun _ d=>?_))))
       ·refine Ap fun _ h3=>?_
        refine AQ B4 [] f hS fun d7 _ bw _=>?_
        have ad:=KeepX.refl d7 []
        refine Ax 0 rfl c ad (Ad 1 rfl c ad (B8 rfl rfl (Ad 2 rfl c ad (C6 (o:=3) Ui rfl rfl (Ad 3 rfl c ad (BL Ry rfl (EAt.addk (m.kx bw (by simp)) 3) rfl (Ax 4 rfl c ad (bB d fun h4 h5 d=>(Ad 5 rfl c ad (BB (e:=Ar) Tryz.underlying36 rfl rfl rfl t h5 ?_))))))))))
        rintro j5 _ rfl h6
        refine Ad 6 rfl c ad (BL A4 rfl (h6.kx bw (by simp)) rfl (Av 7 rfl (bB d fun d8 h7 d=>(A7 rfl Tryz.call128 (VC d7 g.2.2.2.1 ap (bz.ro bw) h4 _ h7) rfl ?_))))
        rintro _ h8 ⟨rfl,d9⟩
        refine ⟨_,rfl,?_⟩
        have ea:=tm bw d9
        have bx:=ad.ext d9
        refine Ah (Am bx (Ad 8 rfl c bx (AV rfl rfl rfl (Ad 9 rfl c bx (AV rfl rfl rfl (Av 10 rfl (bB d fun j6 h9 d=>(A7 rfl Tryz.call120 (J1 h8 (x.st ea) d8.1 d8.2 _ h9) rfl ?_))))))))
        rintro _ j7 ⟨rfl,eb⟩
        refine ⟨_,rfl,?_⟩
        have ia:=tm ea eb
        have ec:=bx.ext eb
        refine Ah (Am ec (Ad 11 rfl c ec (AC rfl rfl (Ba (h3 (Ay (rt u rfl rfl (by cases d; exact ⟨rfl,ia⟩))))))))
       ·refine Ak fun _ ib=>?_
        refine AP rfl rfl rfl (Aq 1 rfl (ib (A3 rfl d (fun _ d=>?_) (fun _ d=>?_))))
        ·refine Ap fun _ ic=>?_
         refine AQ B4 [] f hS fun ed _ a1 _=>?_
         have v:=KeepX.refl ed []
         refine Ax 0 rfl c v (Ad 1 rfl c v (B8 rfl rfl (Ad 2 rfl c v (C6 (o:=4) Uh rfl rfl (Ad 3 rfl c v (BL Rw rfl (EAt.addk (m.kx a1 (by simp)) 4) rfl (Ax 4 rfl c v (bB d fun ie ig d=>(Ad 5 rfl c v (BB (e:=Ar) Tryz.underlying36 rfl rfl rfl t ig ?_))))))))))
         rintro j8 _ rfl ih
         refine Ad 6 rfl c v (BL A4 rfl (ih.kx a1 (by simp)) rfl (Ax 7 rfl c v (bB d fun ii ij d=>(Ad 8 rfl c v (BB (e:=Ar) Tryz.underlying36 rfl rfl rfl t ij ?_)))))
         rintro j9 _ rfl ik
         refine Ad 9 rfl c v (BL A4 rfl (ik.kx a1 (by simp)) rfl (Av 10 rfl (bB d fun il im d=>(A7 rfl Tryz.call129 (SH ed g.2.2.2.2.1 aq (b0.ro a1) ie ii _ im) rfl ?_))))
         rintro _ io ⟨rfl,ee⟩
         refine ⟨_,rfl,?_⟩
         have cn:=tm a1 ee
         have ao:=v.ext ee
         refine Ah (Am ao (Ax 11 rfl c ao (Ad 12 rfl c ao (AV rfl rfl rfl (Ad 13 rfl c ao (AV rfl rfl rfl (Ad 14 rfl c ao (AC rfl rfl (Ad 15 rfl c ao (AC rfl rfl (Ba (ic (Ap fun _ ip=>(An 2 rfl (A3 rfl d (fun _ d=>?_) (fun _ d=>?_))))))))))))))))
         ·refine An 1 rfl ?_
          refine Ay (rt u rfl rfl (by cases d; exact ⟨rfl,cn⟩))
         ·refine Au (ip ?_)
          refine Ak fun _ iq=>wp 1 rfl (bB d fun ka ir d=>(A7 rfl Tryz.call130 (E2 io (x.st cn) il.1 _ ir) rfl ?_))
          rintro _ kb ⟨rfl,it⟩
          refine ⟨_,rfl,?_⟩
          have iu:=tm cn it
          refine Aq 1 rfl (iq (Ay (rt u rfl rfl (by cases d; exact ⟨rfl,iu⟩))))
        ·refine Au (ef ?_)
         refine Ak fun _ iw=>wp 2 rfl (bB d fun ix iy d=>(BP (e:=Ar) Tryz.underlying36 rfl rfl rfl t iy ?_))
         rintro kc _ rfl iz
         refine BZ A4 rfl (iz.ro f) rfl (bB d fun kd i0 d=>(A7 rfl Tryz.call131 (Mu k (x.st f) g p0 y (s.ro f) ac (ah.ro f) ap (bz.ro f) aq (b0.ro f) a3 (co.ro f) (m.ro f) ix _ i0) rfl ?_))
         rintro _ ke ⟨rfl,i1⟩
         refine ⟨_,rfl,?_⟩
         have i2:=tm f i1
         refine Aq 1 rfl (iw (Ay (rt u rfl rfl (by cases d; exact ⟨rfl,i2⟩))))
theorem Ol (f:Ae) (g:(Ae1 × Ae1 × Int × Ae1 × Ae2 × Ae4)) (d:Nat) (n:Al) (x1:(List Ai)) (bf:Sep 0 f [A2 AR 76 n d g]) (hT:TabX f (Be [A2 AR 76 n d g])) (r:((List Ai) × (Ae1 × Ae1 × Int × Ae1 × Ae2 × Ae4))) (c:Dv g x1 = some r) :
  A1 66 [(.pointer (some ⟨d,0,none⟩)),(.string (B1 x1))] f fun e w'=>∃ (H_0:Al),e = .returned (.string (B1 r.1)) ∧ Below 0 (wE f) w' ∧ Sep 0 w' [A6 f (Be [A2 AR 76 n d g]),A2 AR 76 H_0 d r.2]:=by
 refine G4 Tryz.func66 rfl Tryz.ntmps66 rfl rfl fun Q hQ hP=>?_
 have hB:Bl (wE f) f:=Ej f
 have hS:Sp (wE f) f [A6 f (Be [A2 AR 76 n d g]),A2 AR 76 n d g]:=bf.rest
 unfold Dv at c
 refine An 1 rfl (Ak fun _ bj=>(wp 1 rfl (bB c fun u3 bk c=>(E6 rfl Tryz.call81 hB hS (OB f x1 [32] _ bk) rfl fun v4 F5 w6 _ _ bl ar=>(Aq 1 rfl (bj (Ak fun _ bm=>(wp 1 rfl (bB c fun o bn c=>(H6 (e:=Cy) (i:=0) Tryz.underlying61 rfl rfl rfl ar rfl bn ?_))))))))))
 rintro dy _ rfl au dz
 refine BZ Na rfl au rfl (Bc (vs:=[]) (l:=[]) Co Tryz.underlying36 rfl rfl rfl rfl rfl rfl bl ar fun bo bp d0 bq br av=>?_)
 have au:=au.keepS (fun b hb=>bq.block b (((ar.get (i:=0) rfl).2.1 b hb).2)) (fun _ h=>h)
 refine Aq 2 rfl (bm (Ap fun _ bs=>(Ak fun _ bt=>(wp 1 rfl (bB c fun w bu c=>(Nv (e:=Cy) Tryz.underlying61 rfl rfl (av.ok (i:=1) rfl:ownS Cy _ _ _ _).rd bu (.inr ⟨_,_,rfl,rfl⟩) (.inl ⟨rfl,rfl⟩) fun an a4 _=>(BX (a4.mono (fun b hb=>((av.get (i:=1) rfl).2.1 b hb).2)) Tryz.underlying61 rfl (Aq 1 rfl (bt (A0 (AU (fun m a x=>∃ (q:(List Int)) (af:Int) (p:Ac) (s:Al),St 69 [(0,(.pointer (some ⟨d,0,none⟩))),(6,(.string (B1 o))),(7,p),(19,an),(20,(iv (List.length w:Int))),(21,(iv af))] a ∧ Bl (wE f) x ∧ Sp (wE f) x [A6 f (Be [A2 AR 76 n d g]),A2 AR 76 n d g,Ab Ar s p q,Ab Cy F5 v4 u3] ∧ (rdS Cy (· ∈ F5) x an w) ∧ BS w g o m q af = some r) FU ?_ ?_)))))))))))
 ·exact fun a ha=>⟨[],0,bo,bp,ha.sb rfl,br,(av.sel [2,3,0,1] rfl),a4,c⟩
 ·rintro ag a x ⟨q,af,p,s,ha,a5,y,v,c⟩ d1 bv
  refine BE ?_ ha
  cases ag with
  | zero=>exact Bg c
  | succ ag =>
   obtain ⟨d2,a6⟩:∃ k,k = BS w g o ag:=⟨_,rfl⟩
   rw [BS,← a6] at c
   refine An 1 rfl (Ap fun _ bw=>(A3 rfl c (fun _ c=>?_) (fun _ c=>?_)))
   ·refine Au (bw ?_)
    refine Ap fun _ bx=>A0 (Ak fun _ bz=>(bB c fun b1 b2 c=>(BP (e:=Cy) Tryz.underlying61 rfl rfl rfl (v.mono (fun b hb=>((y.get (i:=3) rfl).2.1 b hb).2)) b2 ?_)))
    rintro d3 _ rfl b3
    refine BZ Na rfl b3 rfl (Aq 1 rfl (bz (Ak fun _ b4=>(wp 1 rfl (bB c fun ah b5 c=>(Bu rfl Tryz.call82 a5 y (UI x b1 _ b5) rfl fun d4 b6 a7 a8=>?_))))))
    have v:=v.keep (fun b hb=>b6.block b (((y.get (i:=3) rfl).2.1 b hb).2))
    refine Aq 5 rfl (b4 (Ap fun _ b7=>(Ap fun b8 b9=>?_)))
    obtain ⟨ca,cb,c⟩:=Cj c
    have a9:∀ (aw:Bool) (ai:Ae) (z:rdS Cy (· ∈ F5) ai an w) (_:ca aw = some r) (_:Bl (wE f) ai) (_:Sp (wE f) ai [A6 f (Be [A2 AR 76 n d g]),A2 AR 76 n d g,Ab Ar s p q,Ab Cy F5 v4 u3]),∀ a,St 69 [(0,(.pointer (some ⟨d,0,none⟩))),(6,(.string (B1 o))),(7,p),(10,(iv ah.1)),(19,an),(20,(iv (List.length w:Int))),(21,(iv af)),(35,(.bool aw))] a → b8 a ai:=by
     intro aw ai z c ba ax
     subst cb
     refine b9 (A3 rfl c (fun _ c=>?_) (fun _ c=>?_))
     ·refine An 1 rfl ?_
      refine Ay (rt hQ rfl rfl (by cases c; exact ⟨n,rfl,ba,ax.sel [0,1] rfl⟩))
     ·refine Au (b7 ?_)
      refine As (wp 2 rfl (Bc (vs:=[(iv ah.1)]) (l:=[ah.1]) Co Tryz.underlying36 rfl rfl rfl rfl rfl rfl ba ax fun d5 d6 cc cd ce ao=>?_))
      have z:=z.keep (fun b hb=>cd.block b (((ax.get (i:=3) rfl).2.1 b hb).2))
      refine bB c fun cf cg c=>AF (i:=3) (S:=(· < cc.heap.size)) Co Tryz.underlying36 rfl rfl rfl ce ao rfl (ao.own_ro (i:=0) rfl) cg fun ch ci d7 cj ck cl=>?_
      have z:=z.keep (fun b hb=>cj.2.1 b (((ao.get (i:=4) rfl).2.1 b hb).2) (ao.disj (i:=4) (j:=3) rfl rfl rfl b hb))
      refine Aq 1 rfl (bx (As (Aq 2 rfl ?_)))
      rw [a6] at c
      exact fun a ha=>bv a _ ag (AB ag) ⟨cf,(Ag (af + 1)),ch,ci,ha.sb rfl,ck,(cl.sel [1,2,3,4] rfl),z,c⟩
    refine As (wp 3 rfl ?_)
    rcases bE (!ah.2) with t | t
    ·replace c:=BA t c
     refine wo rfl t (wo rfl t (AA rfl rfl t rfl (Ah ?_)))
     exact jx (a9 true _ v c a7 (a8.sel [0,1,2,3] rfl)) rfl
    ·replace c:=Cf t c
     refine wn rfl t (wp 1 rfl (wn rfl t (wp 1 rfl (A9 rfl rfl t rfl (Ah ?_)))))
     exact jx (a9 ((decide (99999 < ah.1))) _ v c a7 (a8.sel [0,1,2,3] rfl)) rfl
   ·refine Bd (bs ?_)
    refine Ap fun _ cm=>Ak fun _ cn=>wp 1 rfl (BX (y.own_ro (i:=2) rfl) Tryz.underlying36 rfl (wp 1 rfl (bB c fun d8 co c=>(Bu rfl Tryz.call83 a5 y (Rh x o _ co) rfl fun d9 cp aa ab=>?_))))
    have v:=v.keep (fun b hb=>cp.block b (((y.get (i:=3) rfl).2.1 b hb).2))
    refine Aq 1 rfl (cn (A3 rfl c (fun _ c=>?_) (fun _ c=>?_)))
    ·refine An 1 rfl ?_
     refine Ay (rt hQ rfl rfl (by cases c; exact ⟨n,rfl,aa,ab.sel [0,1] rfl⟩))
    ·refine Au (cm ?_)
     refine Ap fun _ cq=>An 1 rfl (A0 (Ap fun cr cs=>?_))
     obtain ⟨ct,cu,c⟩:=Cj c
     have aj:∀ (ay:Bool) (ak:Ae) (_:ct ay = some r) (_:Bl (wE f) ak) (_:Sp (wE f) ak [A6 f (Be [A2 AR 76 n d g]),A2 AR 76 n d g,Ab Ar s p q]),∀ a,St 69 [(0,(.pointer (some ⟨d,0,none⟩))),(6,(.string (B1 o))),(7,p),(46,(.string (B1 o))),(47,(.bool ay))] a → cr a ak:=by
      intro ay ak c al ac
      subst cu
      refine cs (A3 rfl c (fun _ c=>?_) (fun _ c=>?_))
      ·refine Ak fun _ cv=>?_
       refine wp 3 rfl (bB c fun cw cx c=>(A7 rfl Tryz.call84 (Nm ak g d n o q p s (ac.sel [1,2] rfl).base0 _ cx) rfl ?_))
       rintro _ cy ⟨bb,rfl,cz,bc⟩
       refine ⟨_,rfl,?_⟩
       have c0:=ac.takeB [1,2] rfl (M:=[A2 AR 76 n d g,Ab Ar s p q]) rfl al cz bc
       have c1:Sp (wE f) cy [A2 AR 76 bb d cw.2,A6 f (Be [A2 AR 76 n d g])]:=ac.take [1,2] [0] rfl (M:=[A2 AR 76 n d g,Ab Ar s p q]) rfl bc al.size
       refine Aq 1 rfl (cv (Ay (rt hQ rfl rfl (by cases c; exact ⟨bb,rfl,c0,c1.sel [1,0] rfl⟩))))
      ·refine Ap fun c2 c3=>?_
       obtain ⟨c4,c5,c⟩:=Cj c
       have az:∀ (a0:Bool) (ad:Ae) (_:c4 a0 = some r) (_:Bl (wE f) ad) (_:Sp (wE f) ad [A6 f (Be [A2 AR 76 n d g]),A2 AR 76 n d g,Ab Ar s p q]),∀ a,St 69 [(0,(.pointer (some ⟨d,0,none⟩))),(6,(.string (B1 o))),(7,p),(57,(.bool a0))] a → c2 a ad:=by
        intro a0 ad c a1 ap
        subst c5
        refine c3 (A3 rfl c (fun _ c=>?_) (fun _ c=>?_))
        ·refine Ak fun _ c6=>?_
         refine wp 3 rfl (bB c fun c7 c8 c=>(A7 rfl Tryz.call85 (On ad g d n o q p s (ap.sel [1,2] rfl).base0 _ c8) rfl ?_))
         rintro _ c9 ⟨bd,rfl,da,be⟩
         refine ⟨_,rfl,?_⟩
         have db:=ap.takeB [1,2] rfl (M:=[A2 AR 76 n d g,Ab Ar s p q]) rfl a1 da be
         have dc:Sp (wE f) c9 [A2 AR 76 bd d c7.2,A6 f (Be [A2 AR 76 n d g])]:=ap.take [1,2] [0] rfl (M:=[A2 AR 76 n d g,Ab Ar s p q]) rfl be a1.size
         refine Aq 1 rfl (c6 (Ay (rt hQ rfl rfl (by cases c; exact ⟨bd,rfl,db,dc.sel [1,0] rfl⟩))))
        ·refine Au (cq ?_)
         refine Ak fun _ dd=>wp 3 rfl ?_
         obtain ⟨de,ea,df,eb,dg,ec,dh,ed,di,ee,u⟩:=Ir (ap.sel [1,0,2] rfl)
         refine bB c fun ef dj c=>Bu rfl Tryz.call86 a1 u (Om ad (hT _ (u.ok (i:=6) rfl)) g ⟨d,0,none⟩ de (u.own_ro (i:=1) rfl) df (u.own_ro (i:=2) rfl) dg (u.own_ro (i:=3) rfl) dh (u.own_ro (i:=4) rfl) di (u.own_ro (i:=5) rfl) (XU (i:=0) u rfl) o q p (u.own_ro (i:=7) rfl) _ dj) rfl fun dk _ dl dm=>Aq 1 rfl (dd (Ay ?_))
         obtain ⟨dn,dp⟩:∃ F,Sp (wE f) dk [A2 AR 76 F d g,A6 f (Be [A2 AR 76 n d g]),Ab Ar s p q]:=⟨_,Dt (dm.sel [0,1,2,3,4,5,6,7] rfl)⟩
         refine rt hQ rfl rfl (by cases c; exact ⟨dn,rfl,dl,dp.sel [1,0] rfl⟩)
       refine Ak fun _ dq=>AP rfl rfl rfl (Aq 1 rfl (dq (A3 rfl c (fun _ c=>?_) (fun _ c=>?_))))
       ·refine Au ?_
        exact jx (az ((o == [109,101,97,115,117,114,101])) _ c al (ac.sel [0,1,2] rfl)) rfl
       ·refine Ak fun _ dr=>?_
        refine AP rfl rfl rfl (Aq 1 rfl (dr (A3 rfl c (fun _ c=>?_) (fun _ c=>?_))))
        ·refine Au ?_
         exact jx (az ((o == [99,97,114,114,121])) _ c al (ac.sel [0,1,2] rfl)) rfl
        ·refine As ?_
         refine AP rfl rfl rfl (Aq 1 rfl ?_)
         exact jx (az ((o == [118,101,114,115,105,111,110])) _ c al (ac.sel [0,1,2] rfl)) rfl
     refine Ak fun _ ds=>AP rfl rfl rfl (Aq 1 rfl (ds (A3 rfl c (fun _ c=>?_) (fun _ c=>?_))))
     ·refine Au ?_
      exact jx (aj ((o == [115,112,111,116])) _ c aa (ab.sel [0,1,2] rfl)) rfl
     ·refine Ak fun _ dt=>?_
      refine AP rfl rfl rfl (Aq 1 rfl (dt (A3 rfl c (fun _ c=>?_) (fun _ c=>?_))))
      ·refine Au ?_
       exact jx (aj ((o == [112,108,97,99,101])) _ c aa (ab.sel [0,1,2] rfl)) rfl
      ·refine Ak fun _ du=>?_
       refine AP rfl rfl rfl (Aq 1 rfl (du (A3 rfl c (fun _ c=>?_) (fun _ c=>?_))))
       ·refine Au ?_
        exact jx (aj ((o == [109,105,114,114,111,114])) _ c aa (ab.sel [0,1,2] rfl)) rfl
       ·refine Ak fun _ dv=>?_
        refine AP rfl rfl rfl (Aq 1 rfl (dv (A3 rfl c (fun _ c=>?_) (fun _ c=>?_))))
        ·refine Au ?_
         exact jx (aj ((o == [107,101,101,112])) _ c aa (ab.sel [0,1,2] rfl)) rfl
        ·refine As ?_
         refine AP rfl rfl rfl (Aq 1 rfl ?_)
         exact jx (aj ((o == [99,111,117,110,116,115])) _ c aa (ab.sel [0,1,2] rfl)) rfl
theorem SD (c:Ae) (hT:Tab c) (w:(List Ai)) (r:((Bool × (Ae1 × Ae1 × Int × Ae1 × Ae2 × Ae4)) × (List (List Ai)) × Bool)) (b:ID w = some r) :
  A1 47 [(.string (B1 w))] c fun e w'=>∃ (y:Ac) (z:Nat) (H0:Al) (q0:Ac) (G0:Al),e = .returned (.tuple #[y,q0,(.bool r.2.2)]) ∧ y = pvl r.1.1 z ∧ Bl c w' ∧ Sp c w' (Aei r.1.1 [A2 AR 76 H0 z r.1.2] ++ [Ab Cy G0 q0 r.2.1]):=by
 refine cm Tryz.func47 Tryz.ntmps47 rfl fun Q hQ hP hB hS=>?_
 unfold ID at b
 refine An 3 rfl (Ak fun _ ap=>(wp 1 rfl (bB b fun j aq b=>(E6 rfl Tryz.call58 hB hS (Ri c w _ aq) rfl fun x F5 w6 _ _ ad ae=>(Aq 5 rfl (ap (Ap fun _ au=>(An 2 rfl (A3 rfl b (fun _ b=>?_) (fun _ b=>?_))))))))))
 ·refine An 3 rfl ?_
  refine Ay ?_
  have av:=ae.push0 (r:=Ab Cy [] (.slice none 0 0) []) rfl fun _=>.inl ⟨rfl,rfl,rfl⟩
  refine rt hQ rfl rfl (by cases b; exact ⟨(.pointer none),0,[],(.slice none 0 0),[],rfl,rfl,ad,av.sel [0] rfl⟩)
 ·refine Au (au ?_)
  refine Ak fun _ aw=>bB b fun ax ay b=>E6 rfl Tryz.call65 ad ae (TE w6  _ ay) rfl fun d az bs _ _ a0 a1=>Bc (vs:=[]) (l:=[]) I6 Tryz.underlying61 rfl rfl rfl rfl rfl rfl a0 a1 fun a2 a3 bt _ a4 af=>Aq 2 rfl (aw (Ap fun _ a5=>(Ak fun _ a6=>(wp 1 rfl (BX (af.own_ro (i:=2) rfl) Tryz.underlying61 rfl (Aq 1 rfl (a6 (A0 (AU (fun m a p=>∃ (f:(Ae1 × Ae1 × Int × Ae1 × Ae2 × Ae4)) (q:(List (List Ai))) (s:Int) (g:Al) (n:Ac) (t:Al),St 35 [(7,(.pointer (some ⟨d,0,none⟩))),(8,n),(20,x),(21,(iv (List.length j.1:Int))),(22,(iv s))] a ∧ Bl c p ∧ Sp c p [A2 AR 76 g d f,Ab Cy t n q,Ab Cy F5 x j.1] ∧ Eu j m f q s = some r) FU ?_ ?_)))))))))
  ·exact fun a ha=>⟨ax,[],0,az,a2,a3,ha.sb rfl,a4,(af.sel [1,0,2] rfl),b⟩
  ·rintro o a p ⟨f,q,s,g,n,t,ha,u,h,b⟩ bu a7
   refine BE ?_ ha
   cases o with
   | zero=>exact Bg b
   | succ o =>
    obtain ⟨bv,ag⟩:∃ k,k = Eu j o:=⟨_,rfl⟩
    rw [Eu,← ag] at b
    refine An 1 rfl (Ap fun _ a8=>(A3 rfl b (fun _ b=>?_) (fun _ b=>?_)))
    ·refine Au (a8 ?_)
     refine Ap fun _ a9=>A0 (Ak fun _ ba=>(bB b fun bb bc b=>(Cw (e:=Cy) (i:=2) Tryz.underlying61 rfl rfl rfl h rfl bc ?_)))
     rintro bw _ rfl bd bx
     refine BZ Na rfl bd rfl (Aq 1 rfl (ba (As (wp 3 rfl (bB b fun v be b=>(A7 rfl Tryz.call66 (Ol p f d g bb (h.sel [0] rfl).base0 (TabX.of hT u (h.sel [0] rfl)) _ be) rfl ?_))))))
     rintro _ bf ⟨ah,rfl,bg,ai⟩
     refine ⟨_,rfl,?_⟩
     have bh:=h.takeB [0] rfl (M:=[A2 AR 76 g d f]) rfl u bg ai
     have bi:Sp c bf [A2 AR 76 ah d v.2,Ab Cy t n q,Ab Cy F5 x j.1]:=h.take [0] [1,2] rfl (M:=[A2 AR 76 g d f]) rfl ai u.size
     refine Bc (vs:=[(.string (B1 v.1))]) (l:=[v.1]) I6 Tryz.underlying61 rfl rfl rfl rfl rfl rfl bh bi fun bz b0 bj _ bk aj=>bB b fun bl bm b=>AF (i:=2) (S:=(· < bj.heap.size)) I6 Tryz.underlying61 rfl rfl rfl bk aj rfl (aj.own_ro (i:=0) rfl) bm fun bn bo b1 _ bp bq=>Aq 1 rfl (a9 (As (Aq 2 rfl ?_)))
     rw [ag] at b
     exact fun a ha=>a7 a _ o (AB o) ⟨v.2,bl,(Ag (s + 1)),ah,bn,bo,ha.sb rfl,bp,(bq.sel [1,2,3] rfl),b⟩
    ·refine Bd (a5 ?_)
     refine An 5 rfl (Ay (rt hQ rfl rfl (by cases b; exact ⟨(.pointer (some ⟨d,0,none⟩)),d,g,n,t,rfl,rfl,u,h.sel [0,1] rfl⟩)))
theorem TI (c:Ae) (hT:Tab c) (x0:(List Ai)) (r:(List Ai)) (b:Jz x0 = some r) :
  A1 11 [(.string (B1 x0))] c fun e w'=>e = .returned (.string (B1 r)) ∧ Bl c w':=by
 refine cm Tryz.func11 Tryz.ntmps11 rfl fun Q hQ hP q hS=>?_
 unfold Jz at b
 refine An 1 rfl (Ap fun K2 aw=>?_)
 obtain ⟨k9,ay,b⟩:=Cj b
 have ag:∀ (g:(List (List Ai))) (n:Ac) (v:Al) (w:Ae) (_:k9 g = some r) (_:Bl c w) (_:Sp c w [Ab Cy v n g]),∀ a,St 26 [(4,n)] a → K2 a w:=by
  intro g n v w b az a0
  subst ay
  refine aw (Ak fun _ a1=>(Ei Ady rfl az a0 fun d bv _ a2 ah=>(Ah (a1 (Ap fun _ a3=>(Ak fun _ a4=>(wp 1 rfl (BX (ah.own_ro (i:=1) rfl) Tryz.underlying61 rfl (Aq 1 rfl (a4 (A0 (AU (fun m a s=>∃ (j:(List Int)) (x:Int) (h:Ac) (f:Ac) (o:Al),St 26 [(6,(.pointer (some ⟨d,0,none⟩))),(15,n),(16,(iv (List.length g:Int))),(17,(iv x))] a ∧ Bl c s ∧ Sp c s [Ab L7 o f j,A5 d 66 [h,f],Ab Cy v n g] ∧ (h = .pointer none ∨ h = .pointer (some ⟨d,0,none⟩)) ∧ Eg g m j x = some r) FU ?_ ?_))))))))))))
  ·have a5:=ah.push0 (r:=Ab L7 [] (.slice none 0 0) []) rfl fun _=>.inl ⟨rfl,rfl,rfl⟩
   exact fun a ha=>⟨[],0,(.pointer none),(.slice none 0 0),[],ha.sb rfl,a2,(a5.sel [0,1,2] rfl),(.inl rfl),b⟩
  ·rintro t a s ⟨j,x,h,f,o,ha,ad,u,ai,b⟩ bw a6
   refine BE ?_ ha
   cases t with
   | zero=>exact Bg b
   | succ t =>
    obtain ⟨bx,aj⟩:∃ k,k = Eg g t:=⟨_,rfl⟩
    rw [Eg,← aj] at b
    refine An 1 rfl (Ap fun _ a7=>(A3 rfl b (fun _ b=>?_) (fun _ b=>?_)))
    ·refine Au (a7 ?_)
     refine Ap fun _ a8=>A0 (Ak fun _ a9=>(bB b fun bz ba b=>(Cw (e:=Cy) (i:=2) Tryz.underlying61 rfl rfl rfl u rfl ba ?_)))
     rintro b0 _ rfl bb b1
     refine BZ Na rfl bb rfl (Aq 1 rfl (a9 (As (wp 1 rfl (bB b fun bc bd b=>(Hf rfl rfl rfl bd (bB b fun ak be b=>(A7 rfl Tryz.call48 (PA s d h f ai o j bc (u.sel [1,0] rfl).base0 _ be) rfl ?_))))))))
     rintro _ bf ⟨rfl,bg,ae,al,am,hM45z⟩
     refine ⟨_,rfl,?_⟩
     have bh:=u.takeB [1,0] rfl (M:=[A5 d 66 [h,f],Ab L7 o f j]) rfl ad bg am
     have bi:Sp c bf [A5 d 66 [(.pointer (some ⟨d,0,none⟩)),ae],Ab L7 al ae ak,Ab Cy v n g]:=u.take [1,0] [2] rfl (M:=[A5 d 66 [h,f],Ab L7 o f j]) rfl am ad.size
     refine Ah (a8 (As (Aq 2 rfl ?_)))
     rw [aj] at b
     exact fun a ha=>a6 a _ t (AB t) ⟨ak,(Ag (x + 1)),(.pointer (some ⟨d,0,none⟩)),ae,al,ha.sb rfl,bh,(bi.sel [1,0,2] rfl),(.inr rfl),b⟩
    ·refine Bd (a3 ?_)
     refine Ak fun _ bj=>bB b fun b2 bk b=>A7 rfl Tryz.call49 (SJ c s d h f ai o j ad (u.sel [1,0,2] rfl) _ bk) rfl ?_
     rintro _ b3 ⟨rfl,bl⟩
     refine ⟨_,rfl,(Aq 1 rfl (bj (Ay (rt hQ rfl rfl (by cases b; exact ⟨rfl,bl⟩)))))⟩
 refine As (wp 1 rfl (bB b fun p bm b=>(A7 rfl Tryz.call47 (SD c (hT.st q) x0 _ bm) rfl ?_)))
 rintro _ an ⟨ao,ap,bn,y,z,rfl,aq,aa,ab⟩
 refine ⟨_,rfl,?_⟩
 rcases bE p.1.1 with l | l
 ·replace b:=BA l b
  obtain rfl:ao = (.pointer (some ⟨ap,0,none⟩)):=aq.trans (by rw [l]; rfl)
  have bo:Sp c an [A2 AR 76 bn ap p.1.2,Ab Cy z y p.2.1]:=by rw [l] at ab; exact ab
  have bp:=tm q aa
  have bq:=hS.join aa bo q.size
  refine Aq 7 rfl ?_
  exact jx (ag (p.2.1) y z _ b bp (bq.sel [1] rfl)) rfl
 ·replace b:=Cf l b
  obtain rfl:ao = (.pointer none):=aq.trans (by rw [l]; rfl)
  have br:Sp c an [Ab Cy z y p.2.1]:=by rw [l] at ab; exact ab
  have bs:=tm q aa
  have bt:=hS.join aa br q.size
  refine Aq 7 rfl ?_
  exact jx (ag (p.2.1) y z _ b bs (bt.sel [0] rfl)) rfl
theorem Pc (b:Ae) (i:Tab b) (c:(List Ai)) (r:Bool) (a:H9 c = some r) :
  A1 3 [(.string (B1 c))] b fun e w'=>e = .returned (.bool r) ∧ Bl b w':=by
 refine cm Tryz.func3 Tryz.ntmps3 rfl fun Q d v f _=>?_
 unfold H9 at a
 refine An 1 rfl (Ap fun _ j=>(Ak fun _ k=>(wp 1 rfl (D4 Tryz.underlying9 rfl rfl (Aq 1 rfl (k (A3 rfl a (fun _ a=>?_) (fun _ a=>?_))))))))
 ·refine An 1 rfl ?_
  refine Ay (rt d rfl rfl (by cases a; exact ⟨rfl,f⟩))
 ·refine Au (j ?_)
  refine Ak fun _ l=>wp 1 rfl (bB a fun w m a=>(A7 rfl Tryz.call10 (TD b c _ m) rfl ?_))
  rintro _ n ⟨rfl,o⟩
  refine ⟨_,rfl,?_⟩
  have g:=tm f o
  refine Aq 1 rfl (l (Ak fun _ p=>(wp 1 rfl (bB a fun x q a=>(A7 rfl Tryz.call11 (TI n (i.st g) c _ q) rfl ?_)))))
  rintro _ y ⟨rfl,s⟩
  refine ⟨_,rfl,?_⟩
  have h:=tm g s
  refine Aq 1 rfl (p (Ap fun _ t=>(Ak fun _ u=>(wp 2 rfl (UO rfl rfl rfl (Ah (u (A3 rfl a (fun _ a=>?_) (fun _ a=>?_)))))))))
  ·refine An 1 rfl ?_
   refine Ay (rt d rfl rfl (by cases a; exact ⟨rfl,h⟩))
  ·refine Au (t ?_)
   refine An 1 rfl (Ay (rt d rfl rfl (by cases a; exact ⟨rfl,h⟩)))
end Go.Proofs.YtellehgihceicaaGreatDoor
