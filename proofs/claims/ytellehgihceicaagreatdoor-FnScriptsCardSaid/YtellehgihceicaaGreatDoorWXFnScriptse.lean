/-
  THE WALKS of functions of this seat, by program (gen.py, prune.py).
-/
import Derived.Test.YtellehgihceicaaGreatDoorWXFnScriptsc
set_option linter.unusedVariables false
set_option linter.unusedSimpArgs false
set_option maxRecDepth 100000
set_option maxHeartbeats 1600000
namespace Go.Proofs.YtellehgihceicaaGreatDoor
open Go Go.RowKit Go.Proofs.Tryz
theorem H5:∀(m:Nat)(j:Af)(p:Akh)(d:Ac)(f:Ap)(l q n:Int)(bq:Sep 0 j [Ab A4 f d p])(r:Akh)(c:AW m p l q n=some r),
  A2 211 [d,iv l,iv q,iv n,.func (.func 115) #[] #[]] j fun e w'=>e=.returned (.tuple #[])∧Below 0 (wE j) w'∧Sep 0 w' [A5 j (AP [Ab A4 f d p]),Ab A4 f d r]:=by
 intro m
 induction m with
 | zero =>
  intro j p d f l q n bq r c
  exact Be c
 | succ m ih =>
  intro j p d f l q n bq r c
  replace c:Cj (AW m) p l q n=some r:=c
  obtain ⟨rec,hrec⟩:∃ k,k=AW m:=⟨_,rfl⟩
  rw [← hrec] at c ih
  refine Jr func211 J ntmps211 J J fun Q hQn hQ g=>?_
  have hB:Bl (wE j) j:=Dp j
  have hS:Sp (wE j) j [A5 j (AP [Ab A4 f d p]),Ab A4 f d p]:=bq.rest
  unfold Cj at c
  refine Ao fun _ ef=>Am 4 J<|A3 J c (fun _ c=>?_)<|fun _ c=>?_
  refine Am 2 J ?_
  refine Am 2 J<|Ao fun _ eg=>A0<|AN (fun m a w7=>∃(ad ao:Int),St 220 [(0,d),(1,iv l),(4,.func (.func 115) #[] #[]),(10,iv ad),(11,iv ao)] a∧Bl (wE j) w7∧Sp (wE j) w7 [A5 j (AP [Ab A4 f d p]),Ab A4 f d p]∧AK p l m ad ao=some r) FU ?_ ?_
  exact fun a ha=>⟨q,n,ha.sb J,hB,hS.sel [0,1] J,c⟩
  rintro ak a w7 ⟨ad,ao,ha,cq,cr,c⟩ hx cs
  refine BC ?_ ha
  cases ak with
  | zero=>exact Be c
  | succ ak =>
   obtain ⟨hy,bs⟩:∃ k,k=AK p l ak:=⟨_,rfl⟩
   rw [AK,← bs] at c
   refine Ao fun _ eh=>Am 3 J<|A3 J c (fun _ c=>?_)<|fun _ c=>?_
   refine Au<|eh ?_
   refine A0<|Al fun _ ei=>wp 3 J<|DR underlying3 underlying117 J J<|GB J J J J<|DR underlying117 underlying3 J J<|An 1 J<|ei<|Ao fun _ ej=>AQ B1 [] cq cr fun ct _ ek bt=>?_
   have ae:=KeepX.refl ct []
   refine Ay 0 J g ae<|Ay 1 J g ae<|Ay 2 J g ae<|bB c fun av el c=>Ad 3 J g ae<|Bx (e:=A4) (i:=1) underlying72 J J J bt J el ?_
   rintro hz _ rfl em h0
   refine Ad 4 J g ae<|BR BJ J (em.kx0) J<|Ay 5 J g ae<|Ay 6 J g ae<|bB c fun aw en c=>Ad 7 J g ae<|Bx (e:=A4) (i:=1) underlying72 J J J bt J en ?_
   rintro h1 _ rfl eo h2
   refine Ad 8 J g ae<|BR BJ J (eo.kx0) J<|A1 9 J<|bB c fun h3 ep c=>R3 (caps:=[]) (vs:=[.agg #[iv av.1,iv av.2.1,iv av.2.2.1,iv av.2.2.2],.agg #[iv aw.1,iv aw.2.1,iv aw.2.2.1,iv aw.2.2.2]]) J J call115 (Hx ct av aw _ ep) J ?_
   rintro _ h4 ⟨rfl,bu⟩
   refine ⟨_,rfl,?_⟩
   have cu:=tm ek bu
   have cv:=bt.below bu
   have cw:=ae.ext bu
   refine Ai<|Ar cw<|Ad 10 J g cw<|MB J J J<|Bc<|ej<|A3 J c (fun _ c=>?_)<|fun _ c=>?_
   refine Aq ?_
   refine An 3 J ?_
   rw [bs] at c
   exact fun a ha=>cs a _ ak (AB ak) ⟨Ah ((Ah (Bu .u64 (Bi (Ah (ad+ao))) 1))+1),ao,ha.sb J,cu,cv.sel [0,1] J,c⟩
   refine Aq ?_
   refine An 2 J ?_
   rw [bs] at c
   exact fun a ha=>cs a _ ak (AB ak) ⟨ad,Ah (Bu .u64 (Bi (Ah (ad+ao))) 1),ha.sb J,cu,cv.sel [0,1] J,c⟩
   refine Bb<|eg ?_
   refine Ao fun _ eq=>Am 2 J<|A0<|AN (fun m a bv=>∃(ax:Akh)(ah:Int),St 220 [(0,d),(10,iv ad),(13,iv ah)] a∧Bl (wE j) bv∧Sp (wE j) bv [A5 j (AP [Ab A4 f d p]),Ab A4 f d ax]∧B3 ad m ax ah=some r) FU ?_ ?_
   exact fun a ha=>⟨p,l,ha.sb J,cq,cr.sel [0,1] J,c⟩
   rintro ay a bv ⟨ax,ah,ha,cx,cy,c⟩ h5 er
   refine BC ?_ ha
   cases ay with
   | zero=>exact Be c
   | succ ay =>
    obtain ⟨h6,cz⟩:∃ k,k=B3 ad ay:=⟨_,rfl⟩
    rw [B3,← cz] at c
    refine Ao fun _ es=>Am 4 J<|A3 J c (fun _ c=>?_)<|fun _ c=>?_
    refine Au<|es ?_
    refine Ao fun et eu=>?_
    obtain ⟨ev,ew,c⟩:=Cb c
    have c0:∀(bc:Akh)(bd:Af)(_:ev bc=some r)(_:Bl (wE j) bd)(_:Sp (wE j) bd [A5 j (AP [Ab A4 f d p]),Ab A4 f d bc]),∀ a,St 220 [(0,d),(10,iv ad),(13,iv ah)] a→et a bd:=by
     intro bc bd c ex ey
     subst ew
     refine eu<|Aq<|An 3 J ?_
     rw [cz] at c
     exact fun a ha=>er a _ ay (AB ay) ⟨bc,Ah (ah+1),ha.sb J,ex,ey.sel [0,1] J,c⟩
    refine A0<|AQ B1 f cx cy fun az _ c1 ap=>?_
    have t:=KeepX.refl az f
    refine Ay 0 J g t<|Ay 1 J g t<|Ay 2 J g t<|Ay 3 J g t<|Ad 4 J g t<|Fj J J J<|Ay 5 J g t<|Ay 6 J g t<|Ad 7 J g t<|Fj J J J<|bB c fun v ez c=>Ad 8 J g t<|Bx (e:=A4) (i:=1) underlying72 J J J ap J ez ?_
    rintro h7 _ rfl c2 h8
    refine Ay 10 J g t<|Ay 11 J g t<|bB c fun w e0 c=>Ad 12 J g t<|Bx (e:=A4) (i:=1) underlying72 J J J ap J e0 ?_
    rintro h9 _ rfl c3 ia
    refine CA (is:=[9,13]) (by kernel_rfl) J<|Bj.2 ⟨⟨_,rfl,?_⟩,Bj.2 ⟨⟨_,rfl,?_⟩,fun _ h=>by cases h⟩⟩
    refine BZ BJ J c2 J ?_
    refine Ai<|Ar t<|A1 13 J<|BZ BJ J c3 J<|Ai<|Ar t<|bB c fun ib c4 c=>Ad 14 J g t<|Bx (e:=A4) (i:=1) underlying72 J J J ap J c4 ?_
    rintro ic _ rfl ie e1
    refine A1 15 J<|Cf (i:=1) (o:=0) (vs:=[iv v.1,iv v.2.1,iv v.2.2.1,iv v.2.2.2]) (u':=v) C2 BJ J J J J e1 c4 c1 ap J J ⟨rfl,rfl,rfl,rfl,trivial⟩ J fun ig bw e2 c5=>?_
    have bx:=t.wr' bw.1 bw.2.1 (fun _ _ h=>h)
    have e3:∀ b,b<az.heap.size→b ∈ f→b ∈ f:=fun b hlt hb=>(bw.2.2 b hb).elim ((fun _ _ h=>h) b hlt) (fun h=>absurd hlt (AM.2 (Az (Nat.le_refl az.heap.size) h)))
    refine Ai<|Ar bx<|A1 16 J<|bB c fun ii c6 c=>Co (e:=A4) (i:=1) underlying72 J J J c5 J c6 ?_
    rintro ij _ rfl ik e4
    refine Ai<|Ar bx<|A1 17 J<|Cf (i:=1) (o:=0) (vs:=[iv w.1,iv w.2.1,iv w.2.2.1,iv w.2.2.2]) (u':=w) C2 BJ J J J J e4 c6 e2 c5 J J ⟨rfl,rfl,rfl,rfl,trivial⟩ J fun il c7 e5 e6=>?_
    have e7:=bx.wr' c7.1 c7.2.1 (e3)
    refine Ai<|Ar e7<|Bc ?_
    exact jx (c0 (BL (BL ax ah v) (Ah (ah+1)) w) _ c e5 (e6.sel [0,1] J)) J
    refine BZ BJ J c3 J ?_
    refine Ai<|Ar t<|A1 9 J<|BZ BJ J c2 J<|Ai<|Ar t<|bB c fun im c8 c=>Ad 14 J g t<|Bx (e:=A4) (i:=1) underlying72 J J J ap J c8 ?_
    rintro io _ rfl ip e8
    refine A1 15 J<|Cf (i:=1) (o:=0) (vs:=[iv v.1,iv v.2.1,iv v.2.2.1,iv v.2.2.2]) (u':=v) C2 BJ J J J J e8 c8 c1 ap J J ⟨rfl,rfl,rfl,rfl,trivial⟩ J fun iq bz e9 c9=>?_
    have b0:=t.wr' bz.1 bz.2.1 (fun _ _ h=>h)
    have fa:∀ b,b<az.heap.size→b ∈ f→b ∈ f:=fun b hlt hb=>(bz.2.2 b hb).elim ((fun _ _ h=>h) b hlt) (fun h=>absurd hlt (AM.2 (Az (Nat.le_refl az.heap.size) h)))
    refine Ai<|Ar b0<|A1 16 J<|bB c fun ir da c=>Co (e:=A4) (i:=1) underlying72 J J J c9 J da ?_
    rintro it _ rfl iu fb
    refine Ai<|Ar b0<|A1 17 J<|Cf (i:=1) (o:=0) (vs:=[iv w.1,iv w.2.1,iv w.2.2.1,iv w.2.2.2]) (u':=w) C2 BJ J J J J fb da e9 c9 J J ⟨rfl,rfl,rfl,rfl,trivial⟩ J fun iw db fc fd=>?_
    have fe:=b0.wr' db.1 db.2.1 (fa)
    refine Ai<|Ar fe<|Bc ?_
    exact jx (c0 (BL (BL ax ah v) (Ah (ah+1)) w) _ c fc (fd.sel [0,1] J)) J
    refine Bb<|eq ?_
    refine Aw ?_
    obtain rfl:=Option.some.inj c
    exact JU (vs:=[]) hQ J trivial ⟨rfl,cx,cy.sel [0,1] J⟩
  refine Au<|ef ?_
  refine Ao fun _ ff=>Am 4 J<|A3 J c (fun _ c=>?_)<|fun _ c=>?_
  refine Am 2 J ?_
  refine Am 2 J<|Ao fun _ fg=>A0<|AN (fun m a b1=>∃(af aq:Int),St 220 [(0,d),(2,iv q),(4,.func (.func 115) #[] #[]),(14,iv af),(15,iv aq)] a∧Bl (wE j) b1∧Sp (wE j) b1 [A5 j (AP [Ab A4 f d p]),Ab A4 f d p]∧AJ p q m af aq=some r) FU ?_ ?_
  exact fun a ha=>⟨l,q,ha.sb J,hB,hS.sel [0,1] J,c⟩
  rintro al a b1 ⟨af,aq,ha,dc,dd,c⟩ ix de
  refine BC ?_ ha
  cases al with
  | zero=>exact Be c
  | succ al =>
   obtain ⟨iy,b2⟩:∃ k,k=AJ p q al:=⟨_,rfl⟩
   rw [AJ,← b2] at c
   refine Ao fun _ fh=>Am 3 J<|A3 J c (fun _ c=>?_)<|fun _ c=>?_
   refine Au<|fh ?_
   refine A0<|Al fun _ fi=>wp 3 J<|DR underlying3 underlying117 J J<|GB J J J J<|DR underlying117 underlying3 J J<|An 1 J<|fi<|Ao fun _ fj=>AQ B1 [] dc dd fun df _ fk b3=>?_
   have ag:=KeepX.refl df []
   refine Ay 0 J g ag<|Ay 1 J g ag<|Ay 2 J g ag<|bB c fun a0 fl c=>Ad 3 J g ag<|Bx (e:=A4) (i:=1) underlying72 J J J b3 J fl ?_
   rintro iz _ rfl fm i0
   refine Ad 4 J g ag<|BR BJ J (fm.kx0) J<|Ay 5 J g ag<|Ay 6 J g ag<|bB c fun a1 fn c=>Ad 7 J g ag<|Bx (e:=A4) (i:=1) underlying72 J J J b3 J fn ?_
   rintro i1 _ rfl fo i2
   refine Ad 8 J g ag<|BR BJ J (fo.kx0) J<|A1 9 J<|bB c fun i3 fp c=>R3 (caps:=[]) (vs:=[.agg #[iv a0.1,iv a0.2.1,iv a0.2.2.1,iv a0.2.2.2],.agg #[iv a1.1,iv a1.2.1,iv a1.2.2.1,iv a1.2.2.2]]) J J call115 (Hx df a0 a1 _ fp) J ?_
   rintro _ i4 ⟨rfl,b4⟩
   refine ⟨_,rfl,?_⟩
   have dg:=tm fk b4
   have dh:=b3.below b4
   have b5:=ag.ext b4
   refine Ai<|Ar b5<|Ad 10 J g b5<|MB J J J<|Ad 11 J g b5<|LZ J J<|Bc<|fj<|A3 J c (fun _ c=>?_)<|fun _ c=>?_
   refine Aq ?_
   refine An 3 J ?_
   rw [b2] at c
   exact fun a ha=>de a _ al (AB al) ⟨Ah ((Ah (Bu .u64 (Bi (Ah (af+aq))) 1))+1),aq,ha.sb J,dg,dh.sel [0,1] J,c⟩
   refine Aq ?_
   refine An 2 J ?_
   rw [b2] at c
   exact fun a ha=>de a _ al (AB al) ⟨af,Ah (Bu .u64 (Bi (Ah (af+aq))) 1),ha.sb J,dg,dh.sel [0,1] J,c⟩
   refine Bb<|fg ?_
   refine Ao fun _ fq=>Am 2 J<|A0<|AN (fun m a b6=>∃(a2:Akh)(ai:Int),St 220 [(0,d),(14,iv af),(17,iv ai)] a∧Bl (wE j) b6∧Sp (wE j) b6 [A5 j (AP [Ab A4 f d p]),Ab A4 f d a2]∧B2 af m a2 ai=some r) FU ?_ ?_
   exact fun a ha=>⟨p,q,ha.sb J,dc,dd.sel [0,1] J,c⟩
   rintro a3 a b6 ⟨a2,ai,ha,di,dj,c⟩ i5 fr
   refine BC ?_ ha
   cases a3 with
   | zero=>exact Be c
   | succ a3 =>
    obtain ⟨i6,dk⟩:∃ k,k=B2 af a3:=⟨_,rfl⟩
    rw [B2,← dk] at c
    refine Ao fun _ fs=>Am 3 J<|A3 J c (fun _ c=>?_)<|fun _ c=>?_
    refine Au<|fs ?_
    refine Ao fun ft fu=>?_
    obtain ⟨fv,fw,c⟩:=Cb c
    have dl:∀(be:Akh)(bf:Af)(_:fv be=some r)(_:Bl (wE j) bf)(_:Sp (wE j) bf [A5 j (AP [Ab A4 f d p]),Ab A4 f d be]),∀ a,St 220 [(0,d),(14,iv af),(17,iv ai)] a→ft a bf:=by
     intro be bf c fx fy
     subst fw
     refine fu<|Aq<|An 3 J ?_
     rw [dk] at c
     exact fun a ha=>fr a _ a3 (AB a3) ⟨be,Ah (ai-1),ha.sb J,fx,fy.sel [0,1] J,c⟩
    refine A0<|AQ B1 f di dj fun a4 _ dm ar=>?_
    have u:=KeepX.refl a4 f
    refine Ay 0 J g u<|Ay 1 J g u<|Ay 2 J g u<|Ay 3 J g u<|Ad 4 J g u<|H6 J J J<|Ay 5 J g u<|Ay 6 J g u<|Ad 7 J g u<|H6 J J J<|bB c fun x fz c=>Ad 8 J g u<|Bx (e:=A4) (i:=1) underlying72 J J J ar J fz ?_
    rintro i7 _ rfl dn i8
    refine Ay 10 J g u<|Ay 11 J g u<|bB c fun y f0 c=>Ad 12 J g u<|Bx (e:=A4) (i:=1) underlying72 J J J ar J f0 ?_
    rintro i9 _ rfl dp ja
    refine CA (is:=[9,13]) (by kernel_rfl) J<|Bj.2 ⟨⟨_,rfl,?_⟩,Bj.2 ⟨⟨_,rfl,?_⟩,fun _ h=>by cases h⟩⟩
    refine BZ BJ J dn J ?_
    refine Ai<|Ar u<|A1 13 J<|BZ BJ J dp J<|Ai<|Ar u<|bB c fun jb dq c=>Ad 14 J g u<|Bx (e:=A4) (i:=1) underlying72 J J J ar J dq ?_
    rintro jc _ rfl jd f1
    refine A1 15 J<|Cf (i:=1) (o:=0) (vs:=[iv x.1,iv x.2.1,iv x.2.2.1,iv x.2.2.2]) (u':=x) C2 BJ J J J J f1 dq dm ar J J ⟨rfl,rfl,rfl,rfl,trivial⟩ J fun je b7 f2 dr=>?_
    have b8:=u.wr' b7.1 b7.2.1 (fun _ _ h=>h)
    have f3:∀ b,b<a4.heap.size→b ∈ f→b ∈ f:=fun b hlt hb=>(b7.2.2 b hb).elim ((fun _ _ h=>h) b hlt) (fun h=>absurd hlt (AM.2 (Az (Nat.le_refl a4.heap.size) h)))
    refine Ai<|Ar b8<|A1 16 J<|bB c fun jf ds c=>Co (e:=A4) (i:=1) underlying72 J J J dr J ds ?_
    rintro jg _ rfl jh f4
    refine Ai<|Ar b8<|A1 17 J<|Cf (i:=1) (o:=0) (vs:=[iv y.1,iv y.2.1,iv y.2.2.1,iv y.2.2.2]) (u':=y) C2 BJ J J J J f4 ds f2 dr J J ⟨rfl,rfl,rfl,rfl,trivial⟩ J fun ji dt f5 f6=>?_
    have f7:=b8.wr' dt.1 dt.2.1 (f3)
    refine Ai<|Ar f7<|Bc ?_
    exact jx (dl (BL (BL a2 ai x) (Ah (ai-1)) y) _ c f5 (f6.sel [0,1] J)) J
    refine BZ BJ J dp J ?_
    refine Ai<|Ar u<|A1 9 J<|BZ BJ J dn J<|Ai<|Ar u<|bB c fun jj du c=>Ad 14 J g u<|Bx (e:=A4) (i:=1) underlying72 J J J ar J du ?_
    rintro jk _ rfl jl f8
    refine A1 15 J<|Cf (i:=1) (o:=0) (vs:=[iv x.1,iv x.2.1,iv x.2.2.1,iv x.2.2.2]) (u':=x) C2 BJ J J J J f8 du dm ar J J ⟨rfl,rfl,rfl,rfl,trivial⟩ J fun jm b9 f9 dv=>?_
    have ca:=u.wr' b9.1 b9.2.1 (fun _ _ h=>h)
    have ga:∀ b,b<a4.heap.size→b ∈ f→b ∈ f:=fun b hlt hb=>(b9.2.2 b hb).elim ((fun _ _ h=>h) b hlt) (fun h=>absurd hlt (AM.2 (Az (Nat.le_refl a4.heap.size) h)))
    refine Ai<|Ar ca<|A1 16 J<|bB c fun jn dw c=>Co (e:=A4) (i:=1) underlying72 J J J dv J dw ?_
    rintro jo _ rfl jp gb
    refine Ai<|Ar ca<|A1 17 J<|Cf (i:=1) (o:=0) (vs:=[iv y.1,iv y.2.1,iv y.2.2.1,iv y.2.2.2]) (u':=y) C2 BJ J J J J gb dw f9 dv J J ⟨rfl,rfl,rfl,rfl,trivial⟩ J fun jq dx gc gd=>?_
    have ge:=ca.wr' dx.1 dx.2.1 (ga)
    refine Ai<|Ar ge<|Bc ?_
    exact jx (dl (BL (BL a2 ai x) (Ah (ai-1)) y) _ c gc (gd.sel [0,1] J)) J
    refine Bb<|fq ?_
    refine Aw ?_
    obtain rfl:=Option.some.inj c
    exact JU (vs:=[]) hQ J trivial ⟨rfl,di,dj.sel [0,1] J⟩
  refine Au<|ff ?_
  refine Al fun _ gf=>wp 3 J<|DR underlying3 underlying117 J J<|GB J J J J<|DR underlying117 underlying3 J J<|An 1 J<|gf<|Am 4 J<|Am 2 J<|Ao fun gg gh=>?_
  obtain ⟨gi,gj,c⟩:=Np c
  have dy:∀(bg bh:Int)(bi:Af)(_:gi bg bh=some r)(_:Bl (wE j) bi)(_:Sp (wE j) bi [A5 j (AP [Ab A4 f d p]),Ab A4 f d p]),∀ a,St 220 [(0,d),(1,iv l),(2,iv q),(3,iv n),(4,.func (.func 115) #[] #[]),(18,iv (Ah (Bu .u64 (Bi (Ah (l+n))) 1))),(19,iv (Ah ((Ah (Bu .u64 (Bi (Ah (l+n))) 1))+q))),(20,iv bg),(21,iv bh)] a→gg a bi:=by
   intro bg bh bi c gk gl
   subst gj
   refine gh<|Am 3 J<|Ao fun _ gm=>A0<|AN (fun m a cb=>∃(s au:Int),St 220 [(0,d),(1,iv l),(2,iv q),(3,iv n),(4,.func (.func 115) #[] #[]),(18,iv (Ah (Bu .u64 (Bi (Ah (l+n))) 1))),(19,iv (Ah ((Ah (Bu .u64 (Bi (Ah (l+n))) 1))+q))),(20,iv s),(21,iv au),(22,iv (Ah ((Ah ((Ah (Bu .u64 (Bi (Ah (l+n))) 1))+q))-1)))] a∧Bl (wE j) cb∧Sp (wE j) cb [A5 j (AP [Ab A4 f d p]),Ab A4 f d p]∧AH p l n q rec m s au=some r) FU ?_ ?_
   exact fun a ha=>⟨bg,bh,ha.sb J,gk,gl.sel [0,1] J,c⟩
   rintro am a cb ⟨s,au,ha,cc,cd,c⟩ jr dz
   refine BC ?_ ha
   cases am with
   | zero=>exact Be c
   | succ am =>
    obtain ⟨js,ce⟩:∃ k,k=AH p l n q rec am:=⟨_,rfl⟩
    rw [AH,← ce] at c
    refine Ao fun _ gn=>Am 3 J<|A3 J c (fun _ c=>?_)<|fun _ c=>?_
    refine Au<|gn ?_
    refine A0<|Al fun _ go=>wp 3 J<|DR underlying3 underlying117 J J<|GB J J J J<|DR underlying117 underlying3 J J<|An 1 J<|go<|Ao fun _ gp=>AQ B1 [] cc cd fun d0 _ gq cf=>?_
    have z:=KeepX.refl d0 []
    refine Ay 0 J g z<|Ay 1 J g z<|Ay 2 J g z<|Ay 3 J g z<|Ad 4 J g z<|H6 J J J<|bB c fun a5 gr c=>Ad 5 J g z<|Bx (e:=A4) (i:=1) underlying72 J J J cf J gr ?_
    rintro jt _ rfl gs ju
    refine Ad 6 J g z<|BR BJ J (gs.kx0) J<|Ay 7 J g z<|Ay 8 J g z<|bB c fun a6 gt c=>Ad 9 J g z<|Bx (e:=A4) (i:=1) underlying72 J J J cf J gt ?_
    rintro jv _ rfl gu jw
    refine Ad 10 J g z<|BR BJ J (gu.kx0) J<|A1 11 J<|bB c fun jy gv c=>R3 (caps:=[]) (vs:=[.agg #[iv a5.1,iv a5.2.1,iv a5.2.2.1,iv a5.2.2.2],.agg #[iv a6.1,iv a6.2.1,iv a6.2.2.1,iv a6.2.2.2]]) J J call115 (Hx d0 a5 a6 _ gv) J ?_
    rintro _ jz ⟨rfl,cg⟩
    refine ⟨_,rfl,?_⟩
    have d1:=tm gq cg
    have d2:=cf.below cg
    have ch:=z.ext cg
    refine Ai<|Ar ch<|Ad 12 J g ch<|MB J J J<|Ad 13 J g ch<|LZ J J<|Bc<|gp<|A3 J c (fun _ c=>?_)<|fun _ c=>?_
    refine Aq ?_
    refine An 3 J ?_
    rw [ce] at c
    exact fun a ha=>dz a _ am (AB am) ⟨Ah ((Ah (Bu .u64 (Bi (Ah (s+au))) 1))+1),au,ha.sb J,d1,d2.sel [0,1] J,c⟩
    refine Aq ?_
    refine An 2 J ?_
    rw [ce] at c
    exact fun a ha=>dz a _ am (AB am) ⟨s,Ah (Bu .u64 (Bi (Ah (s+au))) 1),ha.sb J,d1,d2.sel [0,1] J,c⟩
    refine Bb<|gm ?_
    refine Am 4 J<|Ao fun gw gx=>?_
    obtain ⟨gy,gz,c⟩:=Cb c
    have d3:∀(aj:Akh)(bj:Af)(_:gy aj=some r)(_:Bl (wE j) bj)(_:Sp (wE j) bj [A5 j (AP [Ab A4 f d p]),Ab A4 f d aj]),∀ a,St 220 [(0,d),(1,iv l),(3,iv n),(4,.func (.func 115) #[] #[]),(18,iv (Ah (Bu .u64 (Bi (Ah (l+n))) 1))),(20,iv s),(24,iv (Ah ((Ah ((Ah (Bu .u64 (Bi (Ah (l+n))) 1))+q))-s)))] a→gw a bj:=by
     intro aj bj c d4 d5
     subst gz
     refine gx<|Ao fun g0 g1=>?_
     obtain ⟨g2,g3,c⟩:=Cb c
     have d6:∀(an:Akh)(bk:Af)(_:g2 an=some r)(_:Bl (wE j) bk)(_:Sp (wE j) bk [A5 j (AP [Ab A4 f d p]),Ab A4 f d an]),∀ a,St 220 [(0,d),(3,iv n),(4,.func (.func 115) #[] #[]),(18,iv (Ah (Bu .u64 (Bi (Ah (l+n))) 1))),(24,iv (Ah ((Ah ((Ah (Bu .u64 (Bi (Ah (l+n))) 1))+q))-s)))] a→g0 a bk:=by
      intro an bk c d7 d8
      subst g3
      refine g1<|Ao fun g4 g5=>?_
      obtain ⟨g6,g7,c⟩:=Cb c
      have d9:∀(ci:Bool)(a7:Af)(_:g6 ci=some r)(_:Bl (wE j) a7)(_:Sp (wE j) a7 [A5 j (AP [Ab A4 f d p]),Ab A4 f d an]),∀ a,St 220 [(0,d),(3,iv n),(4,.func (.func 115) #[] #[]),(18,iv (Ah (Bu .u64 (Bi (Ah (l+n))) 1))),(24,iv (Ah ((Ah ((Ah (Bu .u64 (Bi (Ah (l+n))) 1))+q))-s))),(213,.bool ci)] a→g4 a a7:=by
       intro ci a7 c cj bl
       subst g7
       refine g5<|A3 J c (fun _ c=>?_)<|fun _ c=>?_
       refine Aq ?_
       refine wp 5 J<|bB c fun ck g8 c=>A7 J call211 (ih a7 an d f (Ah (Bu .u64 (Bi (Ah (l+n))) 1)) (Ah ((Ah ((Ah (Bu .u64 (Bi (Ah (l+n))) 1))+q))-s)) n (bl.sel [1] J).base0 _ g8) J ?_
       rintro _ g9 ⟨rfl,hc,ea⟩
       refine ⟨_,rfl,?_⟩
       have hd:=bl.mutB [1] J (M:=[Ab A4 f d an]) J (M':=[Ab A4 f d ck]) J cj cj.size hc ea
       have he:Sp (wE j) g9 [Ab A4 f d ck,A5 j (AP [Ab A4 f d p])]:=bl.mut [1] [0] J (M:=[Ab A4 f d an]) J (M':=[Ab A4 f d ck]) J ea
       refine Ai ?_
       obtain rfl:=Option.some.inj c
       exact Nw (vs:=[]) hQn J trivial ⟨rfl,hd,he.sel [1,0] J⟩
       refine Au ?_
       obtain rfl:=Option.some.inj c
       exact Nw (vs:=[]) hQn J trivial ⟨rfl,cj,bl.sel [0,1] J⟩
      refine Aq<|wp 4 J ?_
      rcases bE (decide ((Ah (Bu .u64 (Bi (Ah (l+n))) 1))<(Ah ((Ah ((Ah (Bu .u64 (Bi (Ah (l+n))) 1))+q))-s)))) with aa|aa
      replace c:=Bw aa c
      refine wn J aa<|wp 1 J<|wn J aa<|wp 1 J<|wn J aa<|wp 1 J<|A8 J J aa J<|Ai ?_
      exact jx (d9 (decide ((Ah ((Ah ((Ah (Bu .u64 (Bi (Ah (l+n))) 1))+q))-s))<n)) _ c d7 (d8.sel [0,1] J)) J
      replace c:=BI aa c
      refine wo J aa<|wo J aa<|wo J aa<|Ak J J aa J<|Ai ?_
      exact jx (d9 false _ c d7 (d8.sel [0,1] J)) J
     refine Ao fun hf hg=>?_
     obtain ⟨hh,hi,c⟩:=Cb c
     have eb:∀(cl:Bool)(a8:Af)(_:hh cl=some r)(_:Bl (wE j) a8)(_:Sp (wE j) a8 [A5 j (AP [Ab A4 f d p]),Ab A4 f d aj]),∀ a,St 220 [(0,d),(1,iv l),(3,iv n),(4,.func (.func 115) #[] #[]),(18,iv (Ah (Bu .u64 (Bi (Ah (l+n))) 1))),(20,iv s),(24,iv (Ah ((Ah ((Ah (Bu .u64 (Bi (Ah (l+n))) 1))+q))-s))),(199,.bool cl)] a→hf a a8:=by
      intro cl a8 c cm bm
      subst hi
      refine hg<|A3 J c (fun _ c=>?_)<|fun _ c=>?_
      refine Aq ?_
      refine wp 5 J<|bB c fun bn hj c=>A7 J call211 (ih a8 aj d f l s (Ah (Bu .u64 (Bi (Ah (l+n))) 1)) (bm.sel [1] J).base0 _ hj) J ?_
      rintro _ hk ⟨rfl,hl,ec⟩
      refine ⟨_,rfl,?_⟩
      have hm:=bm.mutB [1] J (M:=[Ab A4 f d aj]) J (M':=[Ab A4 f d bn]) J cm cm.size hl ec
      have hn:Sp (wE j) hk [Ab A4 f d bn,A5 j (AP [Ab A4 f d p])]:=bm.mut [1] [0] J (M:=[Ab A4 f d aj]) J (M':=[Ab A4 f d bn]) J ec
      refine Ai ?_
      exact jx (d6 bn _ c hm (hn.sel [1,0] J)) J
      refine Au ?_
      exact jx (d6 aj _ c cm (bm.sel [0,1] J)) J
     refine Aq<|wp 4 J ?_
     rcases bE (decide (l<s)) with ab|ab
     replace c:=Bw ab c
     refine wn J ab<|wp 1 J<|wn J ab<|wp 1 J<|wn J ab<|wp 1 J<|A8 J J ab J<|Ai ?_
     exact jx (eb (decide (s<(Ah (Bu .u64 (Bi (Ah (l+n))) 1)))) _ c d4 (d5.sel [0,1] J)) J
     replace c:=BI ab c
     refine wo J ab<|wo J ab<|wo J ab<|Ak J J ab J<|Ai ?_
     exact jx (eb false _ c d4 (d5.sel [0,1] J)) J
    refine Ao fun ho hp=>?_
    obtain ⟨hq,hr,c⟩:=Cb c
    have ed:∀(cn:Bool)(a9:Af)(_:hq cn=some r)(_:Bl (wE j) a9)(_:Sp (wE j) a9 [A5 j (AP [Ab A4 f d p]),Ab A4 f d p]),∀ a,St 220 [(0,d),(1,iv l),(2,iv q),(3,iv n),(4,.func (.func 115) #[] #[]),(18,iv (Ah (Bu .u64 (Bi (Ah (l+n))) 1))),(20,iv s),(24,iv (Ah ((Ah ((Ah (Bu .u64 (Bi (Ah (l+n))) 1))+q))-s))),(185,.bool cn)] a→ho a a9:=by
     intro cn a9 c co bo
     subst hr
     refine hp<|A3 J c (fun _ c=>?_)<|fun _ c=>?_
     refine Aq ?_
     refine wp 5 J<|bB c fun bp hs c=>A7 J call235 (HT a9 p d f s q (Ah ((Ah ((Ah (Bu .u64 (Bi (Ah (l+n))) 1))+q))-s)) (bo.sel [1] J).base0 _ hs) J ?_
     rintro _ ht ⟨rfl,hu,ee⟩
     refine ⟨_,rfl,?_⟩
     have hv:=bo.mutB [1] J (M:=[Ab A4 f d p]) J (M':=[Ab A4 f d bp]) J co co.size hu ee
     have hw:Sp (wE j) ht [Ab A4 f d bp,A5 j (AP [Ab A4 f d p])]:=bo.mut [1] [0] J (M:=[Ab A4 f d p]) J (M':=[Ab A4 f d bp]) J ee
     refine Ai ?_
     exact jx (d3 bp _ c hv (hw.sel [1,0] J)) J
     refine Au ?_
     exact jx (d3 p _ c co (bo.sel [0,1] J)) J
    refine Aq<|wp 4 J ?_
    rcases bE (decide (s<q)) with ac|ac
    replace c:=Bw ac c
    refine wn J ac<|wp 1 J<|wn J ac<|wp 1 J<|wn J ac<|wp 1 J<|A8 J J ac J<|Ai ?_
    exact jx (ed (decide (q<(Ah ((Ah ((Ah (Bu .u64 (Bi (Ah (l+n))) 1))+q))-s)))) _ c cc (cd.sel [0,1] J)) J
    replace c:=BI ac c
    refine wo J ac<|wo J ac<|wo J ac<|Ak J J ac J<|Ai ?_
    exact jx (ed false _ c cc (cd.sel [0,1] J)) J
  refine Am 3 J<|A3 J c (fun _ c=>?_)<|fun _ c=>?_
  refine Am 4 J ?_
  refine Aq<|An 2 J ?_
  exact jx (dy (Ah ((Ah ((Ah (Bu .u64 (Bi (Ah (l+n))) 1))+q))-n)) (Ah (Bu .u64 (Bi (Ah (l+n))) 1)) _ c hB (hS.sel [0,1] J)) J
  refine Am 2 J ?_
  refine Aq<|An 2 J ?_
  exact jx (dy l q _ c hB (hS.sel [0,1] J)) J
theorem E1(a:Af)(c:Akh)(b:Ac)(d:Ap)(f g h:Int)(i:Sep 0 a [Ab A4 d b c])(r:Akh)(j:Cn c f g h=some r) :
  A2 211 [b,iv f,iv g,iv h,.func (.func 115) #[] #[]] a fun e w'=>e=.returned (.tuple #[])∧Below 0 (wE a) w'∧Sep 0 w' [A5 a (AP [Ab A4 d b c]),Ab A4 d b r] :=
 H5 FU a c b d f g h i r j
theorem HS(f:Af)(g:Akh)(c:Ac)(d:Ap)(h:Int)(aw:Sep 0 f [Ab A4 d c g])(r:Akh)(b:CJ g h=some r) :
  A2 167 [c,iv h,.func (.func 115) #[] #[]] f fun e w'=>e=.returned (.tuple #[])∧Below 0 (wE f) w'∧Sep 0 w' [A5 f (AP [Ab A4 d c g]),Ab A4 d c r]:=by
 refine Jr func167 J ntmps167 J J fun Q hQn hQ hP=>?_
 have hB:Bl (wE f) f:=Dp f
 have hS:Sp (wE f) f [A5 f (AP [Ab A4 d c g]),Ab A4 d c g]:=aw.rest
 unfold CJ at b
 refine Am 1 J<|Am 3 J<|Ao fun _ az=>A0<|AN (fun m a t=>∃(l:Akh)(u p:Int),St 63 [(0,c),(1,iv h),(2,.func (.func 115) #[] #[]),(6,iv 20),(7,iv u),(8,iv p)] a∧Bl (wE f) t∧Sp (wE f) t [A5 f (AP [Ab A4 d c g]),Ab A4 d c l]∧AO h m l u p=some r) FU ?_ ?_
 exact fun a ha=>⟨g,0,20,ha.sb J,hB,hS.sel [0,1] J,b⟩
 rintro v a t ⟨l,u,p,ha,aa,q,b⟩ b3 a0
 refine BC ?_ ha
 cases v with
 | zero=>exact Be b
 | succ v =>
  obtain ⟨b4,aj⟩:∃ k,k=AO h v:=⟨_,rfl⟩
  rw [AO] at b; try rw [← aj] at b
  refine Ao fun _ a1=>Am 3 J<|A3 J b (fun _ b=>?_)<|fun _ b=>?_
  refine Au<|a1 ?_
  refine A0<|Al fun _ a2=>wp 4 J<|bB b fun ab a3 b=>A7 J call210 (Ea t l c d u p (q.sel [1] J).base0 _ a3) J ?_
  rintro _ a4 ⟨rfl,a5,ak⟩
  refine ⟨_,rfl,?_⟩
  have a6:=q.mutB [1] J (M:=[Ab A4 d c l]) J (M':=[Ab A4 d c ab]) J aa aa.size a5 ak
  have a7:Sp (wE f) a4 [Ab A4 d c ab,A5 f (AP [Ab A4 d c g])]:=q.mut [1] [0] J (M:=[Ab A4 d c l]) J (M':=[Ab A4 d c ab]) J ak
  refine Ai<|a2<|Am 2 J<|Aq<|An 4 J ?_
  rw [aj] at b
  exact fun a ha=>a0 a _ v (AB v) ⟨ab,p,Ah (p+20),ha.sb J,a6,a7.sel [1,0] J,b⟩
  refine Bb<|az ?_
  refine Al fun _ a8=>wp 4 J<|bB b fun ac a9 b=>A7 J call210 (Ea t l c d u h (q.sel [1] J).base0 _ a9) J ?_
  rintro _ ba ⟨rfl,bb,al⟩
  refine ⟨_,rfl,?_⟩
  have bc:=q.mutB [1] J (M:=[Ab A4 d c l]) J (M':=[Ab A4 d c ac]) J aa aa.size bb al
  have bd:Sp (wE f) ba [Ab A4 d c ac,A5 f (AP [Ab A4 d c g])]:=q.mut [1] [0] J (M:=[Ab A4 d c l]) J (M':=[Ab A4 d c ac]) J al
  refine Ai<|a8<|A0<|AN (fun m a ai=>∃(ad:Akh)(i:Int),St 63 [(0,c),(1,iv h),(2,.func (.func 115) #[] #[]),(6,iv i)] a∧Bl (wE f) ai∧Sp (wE f) ai [A5 f (AP [Ab A4 d c g]),Ab A4 d c ad]∧AF h m ad i=some r) FU ?_ ?_
  exact fun a ha=>⟨ac,20,ha.sb J,bc,bd.sel [1,0] J,b⟩
  rintro w a ai ⟨ad,i,ha,am,an,b⟩ b5 be
  refine BC ?_ ha
  cases w with
  | zero=>exact Be b
  | succ w =>
   obtain ⟨ao,ap⟩:∃ k,k=AF h w:=⟨_,rfl⟩
   rw [AF] at b; try rw [← ap] at b
   refine Ao fun _ bf=>Am 3 J<|A3 J b (fun _ b=>?_)<|fun _ b=>?_
   refine Au<|bf ?_
   refine A0<|Am 4 J<|Ao fun _ bg=>A0<|AN (fun m a x=>∃(j:Akh)(n s:Int),St 63 [(0,c),(1,iv h),(2,.func (.func 115) #[] #[]),(6,iv i),(7,iv n),(8,iv s)] a∧Bl (wE f) x∧Sp (wE f) x [A5 f (AP [Ab A4 d c g]),Ab A4 d c j]∧Br h i ao m j n s=some r) FU ?_ ?_
   exact fun a ha=>⟨ad,0,Ah (2*i),ha.sb J,am,an.sel [0,1] J,b⟩
   rintro y a x ⟨j,n,s,ha,z,o,b⟩ b6 bh
   refine BC ?_ ha
   cases y with
   | zero=>exact Be b
   | succ y =>
    obtain ⟨b7,aq⟩:∃ k,k=Br h i ao y:=⟨_,rfl⟩
    rw [Br] at b; try rw [← aq] at b
    refine Ao fun _ bi=>Am 3 J<|A3 J b (fun _ b=>?_)<|fun _ b=>?_
    refine Au<|bi ?_
    refine A0<|Al fun _ bj=>wp 7 J<|bB b fun ae bk b=>A7 J call211 (E1 x j c d n (Ah (n+i)) s (o.sel [1] J).base0 _ bk) J ?_
    rintro _ bl ⟨rfl,bm,ar⟩
    refine ⟨_,rfl,?_⟩
    have bn:=o.mutB [1] J (M:=[Ab A4 d c j]) J (M':=[Ab A4 d c ae]) J z z.size bm ar
    have bo:Sp (wE f) bl [Ab A4 d c ae,A5 f (AP [Ab A4 d c g])]:=o.mut [1] [0] J (M:=[Ab A4 d c j]) J (M':=[Ab A4 d c ae]) J ar
    refine Ai<|bj<|Am 2 J<|Aq<|An 5 J ?_
    rw [aq] at b
    exact fun a ha=>bh a _ y (AB y) ⟨ae,s,Ah (s+(Ah (2*i))),ha.sb J,bn,bo.sel [1,0] J,b⟩
    refine Bb<|bg ?_
    refine Ao fun bp bq=>?_
    obtain ⟨br,bs,b⟩:=Cb b
    have au:∀(af:Akh)(ag:Af)(_:br af=some r)(_:Bl (wE f) ag)(_:Sp (wE f) ag [A5 f (AP [Ab A4 d c g]),Ab A4 d c af]),∀ a,St 63 [(0,c),(1,iv h),(2,.func (.func 115) #[] #[]),(6,iv i)] a→bp a ag:=by
     intro af ag b bt bu
     subst bs
     refine bq<|Aq<|An 3 J ?_
     rw [ap] at b
     exact fun a ha=>be a _ w (AB w) ⟨af,Ah (i*2),ha.sb J,bt,bu.sel [0,1] J,b⟩
    refine Am 4 J<|Am 3 J<|A3 J b (fun _ b=>?_)<|fun _ b=>?_
    refine Aq ?_
    refine wp 5 J<|bB b fun ah bv b=>A7 J call211 (E1 x j c d n (Ah (n+i)) h (o.sel [1] J).base0 _ bv) J ?_
    rintro _ bw ⟨rfl,bx,av⟩
    refine ⟨_,rfl,?_⟩
    have bz:=o.mutB [1] J (M:=[Ab A4 d c j]) J (M':=[Ab A4 d c ah]) J z z.size bx av
    have b0:Sp (wE f) bw [Ab A4 d c ah,A5 f (AP [Ab A4 d c g])]:=o.mut [1] [0] J (M:=[Ab A4 d c j]) J (M':=[Ab A4 d c ah]) J av
    refine Ai ?_
    exact jx (au ah _ b bz (b0.sel [1,0] J)) J
    refine Au ?_
    exact jx (au j _ b z (o.sel [0,1] J)) J
   refine Bb ?_
   obtain rfl:=Option.some.inj b
   exact Nw (vs:=[]) hQn J trivial ⟨rfl,am,an.sel [0,1] J⟩
theorem G4(a:Af)(d:Akh)(b:Ac)(c:Ap)(l:Sep 0 a [Ab A4 c b d])(r:Akh)(f:BD d=some r) :
  A2 114 [b,.func (.func 115) #[] #[]] a fun e w'=>e=.returned (.tuple #[])∧Below 0 (wE a) w'∧Sep 0 w' [A5 a (AP [Ab A4 c b d]),Ab A4 c b r]:=by
 refine Jr func114 J ntmps114 J J fun Q hQn s t=>?_
 have j:Bl (wE a) a:=Dp a
 have g:Sp (wE a) a [A5 a (AP [Ab A4 c b d]),Ab A4 c b d]:=l.rest
 unfold BD at f
 refine Aq<|wp 2 J<|BO (g.own_ro (i:=1) J) underlying72 J<|wp 1 J<|bB f fun h m f=>A7 J call167 (HS a d b c (List.length d:Int) (g.sel [1] J).base0 _ m) J ?_
 rintro _ n ⟨rfl,o,k⟩
 refine ⟨_,rfl,?_⟩
 have p:=g.mutB [1] J (M:=[Ab A4 c b d]) J (M':=[Ab A4 c b h]) J j j.size o k
 have q:Sp (wE a) n [Ab A4 c b h,A5 a (AP [Ab A4 c b d])]:=g.mut [1] [0] J (M:=[Ab A4 c b d]) J (M':=[Ab A4 c b h]) J k
 refine Ai ?_
 obtain rfl:=Option.some.inj f
 exact Nw (vs:=[]) hQn J trivial ⟨rfl,p,q.sel [1,0] J⟩
theorem Qd(g:Af)(f:Akg×Akg×Int×Akg×Akh×Akj)(j:Nat)(p:Ap)(x1:List Ag)(k:List Int)(m:Ac)(n:Ap)(ei:Sep 0 g [A6 AX 76 p j f,Ab As n m k])(r:(List Ag)×(Akg×Akg×Int×Akg×Akh×Akj))(c:CU f x1 k=some r) :
  A2 85 [.pointer (some ⟨j,0,none⟩),.string (AL x1),m] g fun e w'=>∃(H_0:Ap),e=.returned (.string (AL r.1))∧Below 0 (wE g) w'∧Sep 0 w' [A5 g (AP [A6 AX 76 p j f,Ab As n m k]),A6 AX 76 H_0 j r.2]:=by
 refine Ek func85 J ntmps85 J J fun Q hQ d=>?_
 have hB:Bl (wE g) g:=Dp g
 have hS:Sp (wE g) g [A5 g (AP [A6 AX 76 p j f,Ab As n m k]),A6 AX 76 p j f,Ab As n m k]:=ei.rest
 unfold CU at c
 refine Am 1 J<|Ao fun _ ej=>Am 1 J<|A0<|Al fun _ ek=>AR J J J<|An 1 J<|ek<|A3 J c (fun _ c=>?_)<|fun _ c=>?_
 refine Ao fun K6 em=>?_
 obtain ⟨en,eo,c⟩:=Np c
 have be:∀(ag:Akg×Akg×Int×Akg×Akh×Akj)(ao:Akg)(bf:Ap)(ak:Ac)(b5:Ap)(ap:Af)(_:en ag ao=some r)(_:Bl (wE g) ap)(_:Sp (wE g) ap [A5 g (AP [A6 AX 76 p j f,Ab As n m k]),A6 AX 76 bf j ag,Ab BN b5 ak ao]),∀ a,St 93 [(0,.pointer (some ⟨j,0,none⟩)),(7,ak)] a→K6 a ap:=by
  intro ag ao bf ak b5 ap c ep b6
  subst eo
  refine em<|Ao fun _ eq=>Al fun _ er=>wp 1 J<|bB c fun kh es c=>Bn J call44 ep b6 (Oq ap ao ak (b6.own_ro (i:=2) J) _ es) J fun ki _ b7 b8=>An 1 J<|er<|A3 J c (fun _ c=>?_)<|fun _ c=>?_
  refine Am 1 J ?_
  refine Aw<|rt hQ J J<|by cases c; exact ⟨bf,rfl,b7,b8.sel [0,1] J⟩
  refine Au<|eq ?_
  refine Al fun _ et=>wp 2 J<|B4 J J<|Bp T8 J ?_
  obtain ⟨eu,kj,ev,kk,ew,ex,ey,kl,ez,km,bg⟩:=HM (b8.sel [1,0,2] J)
  refine BG (i:=0) (vs:=[ak]) (cs':=[eu,ev,iv ag.2.2.1,ak,ey,ez]) Qi J J (Ch (bg.own_ro (i:=7) J).one) J b7 bg J J ⟨(bg.own_ro (i:=7) J).one,trivial⟩ J fun e0 _ e1 e2=>Ai<|et<|Am 1 J<|Aw ?_
  obtain ⟨e3,e4⟩:∃ F,Sp (wE g) e0 [A6 AX 76 F j (ag.1,ag.2.1,ag.2.2.1,ao,ag.2.2.2.2.1,ag.2.2.2.2.2),Ab BN ex ew ag.2.2.2.1,A5 g (AP [A6 AX 76 p j f,Ab As n m k])]:=⟨_,DF (e2.sel [0,1,2,7,4,5,3,6] J)⟩
  refine rt hQ J J<|by cases c; exact ⟨e3,rfl,e1,e4.sel [2,0] J⟩
 obtain ⟨kn,ko,kp,kq,kr,ks,kt,ku,kv,kw,e5⟩:=HM (hS.sel [1,0,2] J)
 refine AQ B1 [] hB e5 fun ac _ aw aj=>?_
 have t:=KeepX.refl ac []
 refine Ay 1 J d t<|Ad 2 J d t<|B0 J J<|Ad 3 J d t<|C7 T8 J<|Ad 4 J d t<|CN 0 Qi J aj J (by simp)<|Ay 6 J d t<|bB c fun u e6 c=>Ad 7 J d t<|CK (e:=As) (i:=7) underlying36 J J J aj J e6 ?_
 rintro kx _ rfl e7 ky
 refine Ad 8 J d t<|BR A9 J (fun w hw=>e7.keepS (fun b q=>(hw.blk b (((aj.get (i:=7) J).2.1 b q).2) (by simp))) (fun _ h=>h)) J<|Ay 9 J d t<|bB c fun v e8 c=>Ad 10 J d t<|CK (e:=As) (i:=7) underlying36 J J J aj J e8 ?_
 rintro kz _ rfl e9 k0
 refine Ad 11 J d t<|BR A9 J (fun w hw=>e9.keepS (fun b q=>(hw.blk b (((aj.get (i:=7) J).2.1 b q).2) (by simp))) (fun _ h=>h)) J<|Ad 12 J d t<|IU (zs:=[iv 0,iv 0]) (out:=[iv u,iv v]) (vs:=[iv u,iv v]) (css:=[[iv u],[iv v]]) Hb XX J J J J J<|CA (is:=[0,13]) (by kernel_rfl) J<|Bj.2 ⟨⟨_,rfl,?_⟩,Bj.2 ⟨⟨_,rfl,?_⟩,fun _ h=>by cases h⟩⟩
 refine AZ (vs:=[]) (l:=[]) Hz underlying31 J J J J J J (Bk ac) (Sep.nil _ _) fun k1 fa b9 ax _ ca=>?_
 have bh:=tm aw ax
 have bi:=aj.join ax ca aw.size
 have ay:∀ b ∈ fa,ac.heap.size≤b:=fun b hb=>Az (Nat.le_refl ac.heap.size) ((ca.1 _ (List.mem_cons_self ..)).2.1 b hb).1
 have bj:=t.ext ax
 have cb:=Az (Nat.le_refl ac.heap.size) ax.size
 refine Ai<|Ar bj<|CA (is:=[5,13]) (by kernel_rfl) J<|Bj.2 ⟨⟨_,rfl,?_⟩,Bj.2 ⟨⟨_,rfl,?_⟩,fun _ h=>by cases h⟩⟩
 refine bB c fun k2 fb c=>?_
 refine AE (i:=0) (S:=(·<b9.heap.size)) Hz underlying31 J J J bh bi J (bi.own_ro (i:=4) J) fb fun k3 fc fd bk cc fe=>?_
 have cd:=bj.wr' bk.1 bk.2.1 (fun b hlt hb=>absurd hlt (AM.2 (ay b hb)))
 have ff:∀ b ∈ fc,ac.heap.size≤b:=fun b hb=>(bk.2.2 b hb).elim (ay b) fun h=>Az cb h
 refine Ai<|Ar cd<|A1 13 J<|AZ (vs:=[.agg #[iv u,iv v]]) (l:=[(u,v)]) Hz underlying31 J J J J J J (Bk fd) (Sep.nil _ _) fun fg fh fi bl _ fj=>?_
 have fk:=tm cc bl
 have ce:=fe.join bl fj cc.size
 have cf:=cd.ext bl
 refine Ai<|Ar cf<|A1 14 J<|bB c fun cg fl c=>AE (i:=1) (S:=(·<fi.heap.size)) Hz underlying31 J J J fk ce J (ce.own_ro (i:=0) J) fl fun ch ci fm cj fn fo=>?_
 have ck:=cf.wr' cj.1 cj.2.1 (fun b hlt hb=>absurd hlt (AM.2 (ff b hb)))
 refine Ai<|Ar ck<|Ad 15 J d ck<|AD J J<|Bc ?_
 obtain ⟨fp,fq⟩:∃ F,Sp (wE g) fm [A6 AX 76 F j f,Ab BN fh fg [(u,v)],Ab BN ci ch cg,A5 g (AP [A6 AX 76 p j f,Ab As n m k]),Ab As n m k]:=⟨_,DF (fo.sel [2,3,4,5,6,7,0,1,8,9] J)⟩
 exact jx (be f cg fp ch ci _ c fn (fq.sel [3,0,2] J)) J
 refine AZ (vs:=[.agg #[iv u,iv v]]) (l:=[(u,v)]) Hz underlying31 J J J J J J (Bk b9) (Sep.nil _ _) fun fr fs ft az _ fu=>?_
 have fv:=tm bh az
 have cl:=bi.join az fu bh.size
 have cm:=bj.ext az
 have fw:=Az cb az.size
 refine Ai<|Ar cm<|A1 5 J<|bB c fun k4 fx c=>AE (i:=1) (S:=(·<ft.heap.size)) Hz underlying31 J J J fv cl J (cl.own_ro (i:=5) J) fx fun k5 fy fz bm f0 cn=>?_
 have co:=cm.wr' bm.1 bm.2.1 (fun b hlt hb=>absurd hlt (AM.2 (ay b hb)))
 have f1:∀ b ∈ fy,ac.heap.size≤b:=fun b hb=>(bm.2.2 b hb).elim (ay b) fun h=>Az fw h
 refine Ai<|Ar co<|A1 14 J<|bB c fun cp f2 c=>AE (i:=1) (S:=(·<fz.heap.size)) Hz underlying31 J J J f0 cn J (cn.own_ro (i:=0) J) f2 fun cq cr f3 cs f4 f5=>?_
 have ct:=co.wr' cs.1 cs.2.1 (fun b hlt hb=>absurd hlt (AM.2 (f1 b hb)))
 refine Ai<|Ar ct<|Ad 15 J d ct<|AD J J<|Bc ?_
 obtain ⟨f6,f7⟩:∃ F,Sp (wE g) f3 [A6 AX 76 F j f,Ab BN fs fr [(u,v)],Ab BN cr cq cp,A5 g (AP [A6 AX 76 p j f,Ab As n m k]),Ab As n m k]:=⟨_,DF (f5.sel [2,3,4,5,6,7,0,1,8,9] J)⟩
 exact jx (be f cp f6 cq cr _ c f4 (f7.sel [3,0,2] J)) J
 refine AZ (vs:=[.agg #[iv u,iv v]]) (l:=[(u,v)]) Hz underlying31 J J J J J J (Bk ac) (Sep.nil _ _) fun f8 f9 ga a0 _ gb=>?_
 have cu:=tm aw a0
 have gc:=aj.join a0 gb aw.size
 have cv:=t.ext a0
 have cw:=Az (Nat.le_refl ac.heap.size) a0.size
 refine Ai<|Ar cv<|A1 0 J<|AZ (vs:=[]) (l:=[]) Hz underlying31 J J J J J J (Bk ga) (Sep.nil _ _) fun k6 gd ge a1 _ cx=>?_
 have gf:=tm cu a1
 have cy:=gc.join a1 cx cu.size
 have cz:∀ b ∈ gd,ac.heap.size≤b:=fun b hb=>Az cw ((cx.1 _ (List.mem_cons_self ..)).2.1 b hb).1
 have c0:=cv.ext a1
 have gg:=Az cw a1.size
 refine Ai<|Ar c0<|A1 5 J<|bB c fun k7 gh c=>AE (i:=0) (S:=(·<ge.heap.size)) Hz underlying31 J J J gf cy J (cy.own_ro (i:=5) J) gh fun k8 gi gj bn gk c1=>?_
 have c2:=c0.wr' bn.1 bn.2.1 (fun b hlt hb=>absurd hlt (AM.2 (cz b hb)))
 have gl:∀ b ∈ gi,ac.heap.size≤b:=fun b hb=>(bn.2.2 b hb).elim (cz b) fun h=>Az gg h
 refine Ai<|Ar c2<|A1 14 J<|bB c fun c3 gm c=>AE (i:=0) (S:=(·<gj.heap.size)) Hz underlying31 J J J gk c1 J (c1.own_ro (i:=1) J) gm fun c4 c5 gn c6 go gp=>?_
 have c7:=c2.wr' c6.1 c6.2.1 (fun b hlt hb=>absurd hlt (AM.2 (gl b hb)))
 refine Ai<|Ar c7<|Ad 15 J d c7<|AD J J<|Bc ?_
 obtain ⟨gq,gr⟩:∃ F,Sp (wE g) gn [A6 AX 76 F j f,Ab BN c5 c4 c3,Ab BN f9 f8 [(u,v)],A5 g (AP [A6 AX 76 p j f,Ab As n m k]),Ab As n m k]:=⟨_,DF (gp.sel [2,3,4,5,6,7,0,1,8,9] J)⟩
 exact jx (be f c3 gq c4 c5 _ c go (gr.sel [3,0,1] J)) J
 refine Al fun _ gs=>?_
 refine AR J J J<|An 1 J<|gs<|A3 J c (fun _ c=>?_)<|fun _ c=>?_
 refine Ao fun gt gu=>?_
 obtain ⟨gv,gw,c⟩:=Np c
 have bo:∀(ad:Akg×Akg×Int×Akg×Akh×Akj)(al:Akh)(a2:Ap)(x:Ac)(ai:Ap)(aq:Af)(_:gv ad al=some r)(_:Bl (wE g) aq)(_:Sp (wE g) aq [A5 g (AP [A6 AX 76 p j f,Ab As n m k]),A6 AX 76 a2 j ad,Ab A4 ai x al]),∀ a,St 93 [(0,.pointer (some ⟨j,0,none⟩)),(8,x)] a→gt a aq:=by
  intro ad al a2 x ai aq c c8 bp
  subst gw
  refine gu<|Al fun _ gx=>wp 1 J<|bB c fun ar gy c=>A7 J call114 (G4 aq al x ai (bp.sel [2] J).base0 _ gy) J ?_
  rintro _ c9 ⟨rfl,gz,da⟩
  refine ⟨_,rfl,?_⟩
  have g0:=bp.mutB [2] J (M:=[Ab A4 ai x al]) J (M':=[Ab A4 ai x ar]) J c8 c8.size gz da
  have db:Sp (wE g) c9 [Ab A4 ai x ar,A5 g (AP [A6 AX 76 p j f,Ab As n m k]),A6 AX 76 a2 j ad]:=bp.mut [2] [0,1] J (M:=[Ab A4 ai x al]) J (M':=[Ab A4 ai x ar]) J da
  refine Ai<|gx<|Ao fun _ g1=>Al fun _ g2=>wp 1 J<|bB c fun k9 g3 c=>Bn J call116 g0 db (OX c9 ar x (db.own_ro (i:=0) J) _ g3) J fun la _ dc dd=>An 1 J<|g2<|A3 J c (fun _ c=>?_)<|fun _ c=>?_
  refine Am 1 J ?_
  refine Aw<|rt hQ J J<|by cases c; exact ⟨a2,rfl,dc,dd.sel [1,2] J⟩
  refine Au<|g1 ?_
  refine Al fun _ g4=>wp 2 J<|B4 J J<|Bp Wx J ?_
  obtain ⟨g5,lb,g6,lc,g7,ld,g8,g9,ha,le,bq⟩:=HM (dd.sel [2,0,1] J)
  refine BG (i:=0) (vs:=[x]) (cs':=[g5,g6,iv ad.2.2.1,g7,x,ha]) Tx J J (Ch (bq.own_ro (i:=6) J).one) J dc bq J J ⟨(bq.own_ro (i:=6) J).one,trivial⟩ J fun hc _ hd he=>Ai<|g4<|Am 1 J<|Aw ?_
  obtain ⟨hf,hg⟩:∃ F,Sp (wE g) hc [A6 AX 76 F j (ad.1,ad.2.1,ad.2.2.1,ad.2.2.2.1,ar,ad.2.2.2.2.2),Ab A4 g9 g8 ad.2.2.2.2.1,A5 g (AP [A6 AX 76 p j f,Ab As n m k])]:=⟨_,DF (he.sel [0,1,2,3,6,5,4,7] J)⟩
  refine rt hQ J J<|by cases c; exact ⟨hf,rfl,hd,hg.sel [2,0] J⟩
 obtain ⟨lf,lg,lh,li,lj,lk,ll,lm,ln,lo,hh⟩:=HM (hS.sel [1,0,2] J)
 refine AQ B1 [] hB hh fun ae _ a3 af=>?_
 have o:=KeepX.refl ae []
 refine Ay 1 J d o<|Ad 2 J d o<|B0 J J<|Ad 3 J d o<|C7 Wx J<|Ad 4 J d o<|CN 0 Tx J af J (by simp)<|Ay 6 J d o<|bB c fun y hi c=>Ad 7 J d o<|CK (e:=As) (i:=7) underlying36 J J J af J hi ?_
 rintro lp _ rfl hj lq
 refine Ad 8 J d o<|BR A9 J (fun w hw=>hj.keepS (fun b q=>(hw.blk b (((af.get (i:=7) J).2.1 b q).2) (by simp))) (fun _ h=>h)) J<|Ay 9 J d o<|bB c fun z hk c=>Ad 10 J d o<|CK (e:=As) (i:=7) underlying36 J J J af J hk ?_
 rintro lr _ rfl hl ls
 refine Ad 11 J d o<|BR A9 J (fun w hw=>hl.keepS (fun b q=>(hw.blk b (((af.get (i:=7) J).2.1 b q).2) (by simp))) (fun _ h=>h)) J<|Ay 12 J d o<|bB c fun aa hm c=>Ad 13 J d o<|CK (e:=As) (i:=7) underlying36 J J J af J hm ?_
 rintro lt _ rfl hn lu
 refine Ad 14 J d o<|BR A9 J (fun w hw=>hn.keepS (fun b q=>(hw.blk b (((af.get (i:=7) J).2.1 b q).2) (by simp))) (fun _ h=>h)) J<|Ay 15 J d o<|bB c fun ab ho c=>Ad 16 J d o<|CK (e:=As) (i:=7) underlying36 J J J af J ho ?_
 rintro lv _ rfl hp lw
 refine Ad 17 J d o<|BR A9 J (fun w hw=>hp.keepS (fun b q=>(hw.blk b (((af.get (i:=7) J).2.1 b q).2) (by simp))) (fun _ h=>h)) J<|Ad 18 J d o<|IU (zs:=[iv 0,iv 0,iv 0,iv 0]) (out:=[iv y,iv z,iv aa,iv ab]) (vs:=[iv y,iv z,iv aa,iv ab]) (css:=[[iv y],[iv z],[iv aa],[iv ab]]) BJ Ac3 J J J J J<|CA (is:=[0,19]) (by kernel_rfl) J<|Bj.2 ⟨⟨_,rfl,?_⟩,Bj.2 ⟨⟨_,rfl,?_⟩,fun _ h=>by cases h⟩⟩
 refine AZ (vs:=[]) (l:=[]) C2 underlying72 J J J J J J (Bk ae) (Sep.nil _ _) fun lx hq de a4 _ df=>?_
 have br:=tm a3 a4
 have bs:=af.join a4 df a3.size
 have a5:∀ b ∈ hq,ae.heap.size≤b:=fun b hb=>Az (Nat.le_refl ae.heap.size) ((df.1 _ (List.mem_cons_self ..)).2.1 b hb).1
 have bt:=o.ext a4
 have dg:=Az (Nat.le_refl ae.heap.size) a4.size
 refine Ai<|Ar bt<|CA (is:=[5,19]) (by kernel_rfl) J<|Bj.2 ⟨⟨_,rfl,?_⟩,Bj.2 ⟨⟨_,rfl,?_⟩,fun _ h=>by cases h⟩⟩
 refine bB c fun ly hr c=>?_
 refine AE (i:=0) (S:=(·<de.heap.size)) C2 underlying72 J J J br bs J (bs.own_ro (i:=5) J) hr fun lz hs ht bu dh hu=>?_
 have di:=bt.wr' bu.1 bu.2.1 (fun b hlt hb=>absurd hlt (AM.2 (a5 b hb)))
 have hv:∀ b ∈ hs,ae.heap.size≤b:=fun b hb=>(bu.2.2 b hb).elim (a5 b) fun h=>Az dg h
 refine Ai<|Ar di<|A1 19 J<|AZ (vs:=[.agg #[iv y,iv z,iv aa,iv ab]]) (l:=[(y,z,aa,ab)]) C2 underlying72 J J J J J J (Bk ht) (Sep.nil _ _) fun hx hy hz bv _ h1=>?_
 have h2:=tm dh bv
 have dj:=hu.join bv h1 dh.size
 have dk:=di.ext bv
 refine Ai<|Ar dk<|A1 20 J<|bB c fun dl h3 c=>AE (i:=1) (S:=(·<hz.heap.size)) C2 underlying72 J J J h2 dj J (dj.own_ro (i:=0) J) h3 fun dm dn h4 dp h5 h6=>?_
 have dq:=dk.wr' dp.1 dp.2.1 (fun b hlt hb=>absurd hlt (AM.2 (hv b hb)))
 refine Ai<|Ar dq<|Ad 21 J d dq<|AD J J<|Bc ?_
 obtain ⟨h7,h8⟩:∃ F,Sp (wE g) h4 [A6 AX 76 F j f,Ab A4 hy hx [(y,z,aa,ab)],Ab A4 dn dm dl,A5 g (AP [A6 AX 76 p j f,Ab As n m k]),Ab As n m k]:=⟨_,DF (h6.sel [2,3,4,5,6,7,0,1,8,9] J)⟩
 exact jx (bo f dl h7 dm dn _ c h5 (h8.sel [3,0,2] J)) J
 refine AZ (vs:=[.agg #[iv y,iv z,iv aa,iv ab]]) (l:=[(y,z,aa,ab)]) C2 underlying72 J J J J J J (Bk de) (Sep.nil _ _) fun h9 ia ib a6 _ ic=>?_
 have ie:=tm br a6
 have dr:=bs.join a6 ic br.size
 have ds:=bt.ext a6
 have ig:=Az dg a6.size
 refine Ai<|Ar ds<|A1 5 J<|bB c fun l0 ih c=>AE (i:=1) (S:=(·<ib.heap.size)) C2 underlying72 J J J ie dr J (dr.own_ro (i:=6) J) ih fun l1 ii ij bw ik dt=>?_
 have du:=ds.wr' bw.1 bw.2.1 (fun b hlt hb=>absurd hlt (AM.2 (a5 b hb)))
 have il:∀ b ∈ ii,ae.heap.size≤b:=fun b hb=>(bw.2.2 b hb).elim (a5 b) fun h=>Az ig h
 refine Ai<|Ar du<|A1 20 J<|bB c fun dv im c=>AE (i:=1) (S:=(·<ij.heap.size)) C2 underlying72 J J J ik dt J (dt.own_ro (i:=0) J) im fun dw dx io dy ip iq=>?_
 have dz:=du.wr' dy.1 dy.2.1 (fun b hlt hb=>absurd hlt (AM.2 (il b hb)))
 refine Ai<|Ar dz<|Ad 21 J d dz<|AD J J<|Bc ?_
 obtain ⟨ir,it⟩:∃ F,Sp (wE g) io [A6 AX 76 F j f,Ab A4 ia h9 [(y,z,aa,ab)],Ab A4 dx dw dv,A5 g (AP [A6 AX 76 p j f,Ab As n m k]),Ab As n m k]:=⟨_,DF (iq.sel [2,3,4,5,6,7,0,1,8,9] J)⟩
 exact jx (bo f dv ir dw dx _ c ip (it.sel [3,0,2] J)) J
 refine AZ (vs:=[.agg #[iv y,iv z,iv aa,iv ab]]) (l:=[(y,z,aa,ab)]) C2 underlying72 J J J J J J (Bk ae) (Sep.nil _ _) fun iu iw ix a7 _ iy=>?_
 have d0:=tm a3 a7
 have iz:=af.join a7 iy a3.size
 have d1:=o.ext a7
 have d2:=Az (Nat.le_refl ae.heap.size) a7.size
 refine Ai<|Ar d1<|A1 0 J<|AZ (vs:=[]) (l:=[]) C2 underlying72 J J J J J J (Bk ix) (Sep.nil _ _) fun l2 i0 i1 a8 _ d3=>?_
 have i2:=tm d0 a8
 have d4:=iz.join a8 d3 d0.size
 have d5:∀ b ∈ i0,ae.heap.size≤b:=fun b hb=>Az d2 ((d3.1 _ (List.mem_cons_self ..)).2.1 b hb).1
 have d6:=d1.ext a8
 have i3:=Az d2 a8.size
 refine Ai<|Ar d6<|A1 5 J<|bB c fun l3 i4 c=>AE (i:=0) (S:=(·<i1.heap.size)) C2 underlying72 J J J i2 d4 J (d4.own_ro (i:=6) J) i4 fun l4 i5 i6 bx i7 d7=>?_
 have d8:=d6.wr' bx.1 bx.2.1 (fun b hlt hb=>absurd hlt (AM.2 (d5 b hb)))
 have i8:∀ b ∈ i5,ae.heap.size≤b:=fun b hb=>(bx.2.2 b hb).elim (d5 b) fun h=>Az i3 h
 refine Ai<|Ar d8<|A1 20 J<|bB c fun d9 i9 c=>AE (i:=0) (S:=(·<i6.heap.size)) C2 underlying72 J J J i7 d7 J (d7.own_ro (i:=1) J) i9 fun ea eb ja ec jb jc=>?_
 have ed:=d8.wr' ec.1 ec.2.1 (fun b hlt hb=>absurd hlt (AM.2 (i8 b hb)))
 refine Ai<|Ar ed<|Ad 21 J d ed<|AD J J<|Bc ?_
 obtain ⟨jd,je⟩:∃ F,Sp (wE g) ja [A6 AX 76 F j f,Ab A4 eb ea d9,Ab A4 iw iu [(y,z,aa,ab)],A5 g (AP [A6 AX 76 p j f,Ab As n m k]),Ab As n m k]:=⟨_,DF (jc.sel [2,3,4,5,6,7,0,1,8,9] J)⟩
 exact jx (bo f d9 jd ea eb _ c jb (je.sel [3,0,1] J)) J
 refine Au<|ej ?_
 refine Ao fun _ jf=>?_
 obtain ⟨l5,l6,l7,l8,l9,ma,mb,mc,jg,md,jh⟩:=HM (hS.sel [1,0,2] J)
 refine AQ B1 [] hB jh fun ee _ ji ah=>?_
 have s:=KeepX.refl ee []
 refine Ay 0 J d s<|Ad 1 J d s<|B0 J J<|Ad 2 J d s<|C7 T7 J<|Ad 3 J d s<|CN 0 Qh J ah J (by simp)<|Ay 4 J d s<|bB c fun a9 jj c=>Ad 5 J d s<|CK (e:=As) (i:=7) underlying36 J J J ah J jj ?_
 rintro me _ rfl jk mf
 refine Ad 6 J d s<|BR A9 J (fun w hw=>jk.keepS (fun b q=>(hw.blk b (((ah.get (i:=7) J).2.1 b q).2) (by simp))) (fun _ h=>h)) J<|Ay 7 J d s<|bB c fun ba jl c=>Ad 8 J d s<|CK (e:=As) (i:=7) underlying36 J J J ah J jl ?_
 rintro mg _ rfl jm mh
 refine Ad 9 J d s<|BR A9 J (fun w hw=>jm.keepS (fun b q=>(hw.blk b (((ah.get (i:=7) J).2.1 b q).2) (by simp))) (fun _ h=>h)) J<|Ay 10 J d s<|bB c fun bb jn c=>Ad 11 J d s<|CK (e:=As) (i:=7) underlying36 J J J ah J jn ?_
 rintro mi _ rfl jo mj
 refine Ad 12 J d s<|BR A9 J (fun w hw=>jo.keepS (fun b q=>(hw.blk b (((ah.get (i:=7) J).2.1 b q).2) (by simp))) (fun _ h=>h)) J<|Ad 13 J d s<|IU (zs:=[iv 0,iv 0,iv 0]) (out:=[iv a9,iv ba,iv bb]) (vs:=[iv a9,iv ba,iv bb]) (css:=[[iv a9],[iv ba],[iv bb]]) LR XW J J J J J<|A1 14 J<|bB c fun au jp c=>Ds J call117 ji ah (TV ee f.2.2.2.2.2 jg (ah.own_ro (i:=5) J) (a9,ba,bb) _ jp) J fun bz jq jr js _ ef jt=>?_
 have am:=s.ext js
 refine Ai<|Ar am<|Ay 15 J d am<|Ad 16 J d am<|Ba J J J<|Ad 17 J d am<|Ba J J J<|Ad 18 J d am<|AD J J<|Ad 19 J d am<|AD J J<|Bc<|jf<|Ao fun ju jv=>?_
 obtain ⟨jw,eg⟩:∃ F,Sp (wE g) jr [A6 AX 76 F j f,Ab Cg jq bz au.1,A5 g (AP [A6 AX 76 p j f,Ab As n m k]),Ab As n m k]:=⟨_,DF (jt.sel [1,2,3,4,5,6,0,7,8] J)⟩
 obtain ⟨jy,jz,c⟩:=Cb c
 have eh:∀(b1:Akg×Akg×Int×Akg×Akh×Akj)(b2:Ap)(av:Af)(_:jy b1=some r)(_:Bl (wE g) av)(_:Sp (wE g) av [A5 g (AP [A6 AX 76 p j f,Ab As n m k]),A6 AX 76 b2 j b1]),∀ a,St 93 [(10,.bool au.2)] a→ju a av:=by
  intro b1 b2 av c j0 j1
  subst jz
  refine jv<|Al fun _ j2=>wp 1 J<|bB c fun mk j3 c=>Bn J call118 j0 j1 (Rx av au.2 _ j3) J fun ml _ j4 j5=>An 1 J<|j2<|Aw<|rt hQ J J<|by cases c; exact ⟨b2,rfl,j4,j5.sel [0,1] J⟩
 refine Am 1 J<|A3 J c (fun _ c=>?_)<|fun _ c=>?_
 refine Aq ?_
 refine wp 2 J<|B4 J J<|Bp T7 J ?_
 obtain ⟨j6,mm,j7,mn,j8,mo,j9,mp,ka,kb,b3⟩:=HM (eg.sel [0,1,2,3] J)
 refine BG (i:=0) (vs:=[bz]) (cs':=[j6,j7,iv f.2.2.1,j8,j9,bz]) Qh J J (Ch (b3.own_ro (i:=6) J).one) J ef b3 J J ⟨(b3.own_ro (i:=6) J).one,trivial⟩ J fun kc _ kd ke=>Ai ?_
 obtain ⟨kf,kg⟩:∃ F,Sp (wE g) kc [A6 AX 76 F j (f.1,f.2.1,f.2.2.1,f.2.2.2.1,f.2.2.2.2.1,au.1),Ab Cg kb ka f.2.2.2.2.2,A5 g (AP [A6 AX 76 p j f,Ab As n m k]),Ab As n m k]:=⟨_,DF (ke.sel [0,1,2,3,4,6,5,7,8] J)⟩
 exact jx (eh ((f.1,f.2.1,f.2.2.1,f.2.2.2.1,f.2.2.2.2.1,au.1)) kf _ c kd (kg.sel [2,0] J)) J
 refine Au ?_
 exact jx (eh f jw _ c ef (eg.sel [2,0] J)) J
theorem PY(g:Af)(h:Akg)(l:Ac)(t:RO At g l h)(i:Akg)(m:Ac)(u:RO At g m i)(n:Int)(r:Bool)(b:Ix h i n=some r) :
  A2 169 [l,m,iv n] g fun e w'=>e=.returned (.bool r)∧Bl g w':=by
 refine cm func169 ntmps169 J fun Q x hP v y=>?_
 unfold Ix at b
 refine Am 1 J<|Ao fun z aa=>?_
 obtain ⟨k7,ac,b⟩:=Cb b
 have j:∀(o:Bool)(k:Af)(_:k7 o=some r)(_:Bl g k)(_:Sp g k []),∀ a,St 24 [(6,.bool o)] a→z a k:=by
  intro o k b ad ap
  subst ac
  refine aa<|Aw<|rt x J J<|by cases b; exact ⟨rfl,ad⟩
 refine Aq<|wp 1 J<|bB b fun u9 af b=>Bn J call43 v y (GA g h l (t.ro v) _ af) J fun ag _ p w=>wp 1 J ?_
 rcases bE u9 with d|d
 replace b:=Bw d b
 refine wn J d<|wp 1 J<|wn J d<|bB b fun ah ai b=>Bn J call43 p w (GA ag i m (u.ro p) _ ai) J fun aj _ q s=>A8 J J d J<|wp 1 J ?_
 rcases bE ah with c|c
 replace b:=Bw c b
 refine wn J c<|wp 1 J<|wn J c<|BO t underlying26 J<|wn J c<|wp 1 J<|wn J c<|BO u underlying26 J<|wn J c<|wp 1 J<|A8 J J c J<|wp 1 J ?_
 rcases bE ((List.length h:Int)==(List.length i:Int)) with f|f
 replace b:=Bw f b
 refine wn J f<|wp 1 J<|wn J f<|bB b fun ak al b=>Bn J call60 q s (C1 aj n 1 64 _ al) J fun aq _ am an=>A8 J J f J<|An 1 J ?_
 exact jx (j ak _ b am (an.sel [] J)) J
 replace b:=BI f b
 refine wo J f<|wo J f<|Ak J J f J<|An 1 J ?_
 exact jx (j false _ b q (s.sel [] J)) J
 replace b:=BI c b
 refine wo J c<|wo J c<|wo J c<|wo J c<|wo J c<|Ak J J c J<|wp 1 J<|wo J J<|wo J J<|Ak J J J J<|An 1 J ?_
 exact jx (j false _ b q (s.sel [] J)) J
 replace b:=BI d b
 refine wo J d<|wo J d<|Ak J J d J<|wp 1 J<|wo J J<|wo J J<|wo J J<|wo J J<|wo J J<|Ak J J J J<|wp 1 J<|wo J J<|wo J J<|Ak J J J J<|An 1 J ?_
 exact jx (j false _ b p (w.sel [] J)) J
theorem HK(d:Af)(b c:Int×Int)(r:Int)(f:E8 b c=some r) :
  A2 183 [.agg #[iv b.1,iv b.2],.agg #[iv c.1,iv c.2]] d fun e w'=>e=.returned (iv r)∧Bl d w':=by
 refine cm func183 ntmps183 J fun Q g o h i=>?_
 unfold E8 at f
 refine Al fun _ j=>CV J h i fun p q _ k l=>CV J k l fun s t _ m a=>An 1 J<|j<|Al fun _ n=>Bp CY J<|AU 1 A9 J a J J<|Bp CY J<|AU 0 A9 J a J J<|wp 1 J<|Bp CY J<|AU 1 A9 J a J J<|Bp CY J<|AU 0 A9 J a J J<|wp 2 J<|Bp CX J<|AU 1 A9 J a J J<|Bp CX J<|AU 0 A9 J a J J<|wp 1 J<|Bp CX J<|AU 1 A9 J a J J<|Bp CX J<|AU 0 A9 J a J J<|An 4 J<|n<|Aw<|rt g J J<|by cases f; exact ⟨rfl,m⟩
theorem UL(c:Af)(g:Akg)(t:Ac)(ae:RO At c t g)(d:Akg)(n:Ac)(af:RO At c n d)(r:Akl)(b:JK g d=some r) :
  A2 172 [t,n] c fun e w'=>∃(q0:Ac)(G0:Ap),e=.returned q0∧Bl c w'∧Sp c w' [Ab Ct G0 q0 r]:=by
 refine cm func172 ntmps172 J fun Q hQ hP hB hS=>?_
 unfold JK at b
 refine Am 1 J<|Al fun _ au=>VY (e:=Ct) underlying155 J hB hS fun v3 F4 w5 _ ax ay=>An 1 J<|au<|Ao fun _ az=>Al fun _ a0=>wp 1 J<|BO ae underlying26 J<|An 1 J<|a0<|A0<|AN (fun m a x=>∃(h:Akl)(f:Int)(j:Ac)(u:Ap),St 38 [(1,n),(5,j),(12,t),(13,iv (List.length g:Int)),(14,iv f)] a∧Bl c x∧Sp c x [Ab Ct u j h]∧Eg g d m h f=some r) FU ?_ ?_
 exact fun a ha=>⟨[],0,v3,F4,ha.sb J,ax,ay.sel [0] J,b⟩
 rintro o a x ⟨h,f,j,u,ha,y,ah,b⟩ ci a1
 refine BC ?_ ha
 cases o with
 | zero=>exact Be b
 | succ o =>
  obtain ⟨ai,aj⟩:∃ k,k=Eg g d o:=⟨_,rfl⟩
  rw [Eg,← aj] at b
  refine Am 1 J<|Ao fun _ a2=>A3 J b (fun _ b=>?_)<|fun _ b=>?_
  refine Au<|a2 ?_
  refine Ao fun _ a3=>A0<|Al fun _ a4=>bB b fun p a5 b=>BT (e:=At) underlying26 J J J ae a5 ?_
  rintro cj _ rfl a6
  refine BZ Bt J (a6.ro y) J<|EE Bt J y ah fun ak ck _ a7 a8=>GC 0 Bt J J a7 a8 J J J fun cl _ a9 ba=>Ai<|a4<|Al fun _ bb=>AZ (vs:=[]) (l:=[]) Cl underlying36 J J J J J J a9 ba fun bc bd cn _ be bf=>An 1 J<|bb<|Ao fun _ bg=>Al fun _ bh=>wp 1 J<|BO af underlying26 J<|An 1 J<|bh<|A0<|AN (fun m a z=>∃(v:List Int)(w:Int)(q:Ac)(aa:Ap),St 38 [(1,n),(5,j),(7,.pointer (some ⟨ak,0,none⟩)),(8,q),(12,t),(13,iv (List.length g:Int)),(14,iv f),(19,n),(20,iv (List.length d:Int)),(21,iv w)] a∧Bl c z∧Sp c z [Ab Ct u j h,Av ak 79 [iv p.1,iv p.2],Ab As aa q v]∧EN d p h ai f m v w=some r) FU ?_ ?_
  exact fun a ha=>⟨[],0,bc,bd,ha.sb J,be,bf.sel [2,1,0] J,b⟩
  rintro s a z ⟨v,w,q,aa,ha,ab,ac,b⟩ co bi
  refine BC ?_ ha
  cases s with
  | zero=>exact Be b
  | succ s =>
   obtain ⟨cp,al⟩:∃ k,k=EN d p h ai f s:=⟨_,rfl⟩
   rw [EN,← al] at b
   refine Am 1 J<|Ao fun _ bj=>A3 J b (fun _ b=>?_)<|fun _ b=>?_
   refine Au<|bj ?_
   refine Ao fun _ bk=>A0<|Al fun _ bl=>bB b fun bm bn b=>BT (e:=At) underlying26 J J J af bn ?_
   rintro cq _ rfl bo
   refine BZ Bt J (bo.ro ab) J<|EE Bt J ab ac fun cr cs _ bp bq=>GC 0 Bt J J bp bq J J J fun br _ bs ad=>Ai<|bl<|Aq<|wp 1 J<|AU 2 Bt J ad J J<|AU 0 Bt J ad J J<|bB b fun am bt b=>Bn J call183 bs ad (HK br p bm _ bt) J fun ct _ bu bv=>AZ (vs:=[iv am]) (l:=[am]) Cl underlying36 J J J J J J bu bv fun cu cv bw _ bx an=>bB b fun bz b0 b=>AE (i:=4) (S:=(·<bw.heap.size)) Cl underlying36 J J J bx an J (an.own_ro (i:=0) J) b0 fun b1 b2 cw _ b3 b4=>An 1 J<|bk<|Aq<|An 2 J ?_
   rw [al] at b
   exact fun a ha=>bi a _ s (AB s) ⟨bz,Ah (w+1),b1,b2,ha.sb J,b3,b4.sel [2,3,4] J,b⟩
   refine Bb<|bg ?_
   refine Aq<|wp 2 J ?_
   have b5:=ac.sel [2,0,1] J
   have b6:=b5.head (r':=RP Ct aa [q] v) (rfl) fun _ h0=>⟨_,rfl,h0⟩
   refine Pn (e:=Ct) (vs:=[q]) underlying155 J J (Ch (ac.own_ro (i:=2) J).one) J ab b6 fun cx cy cz _ _ b8 b9=>bB b fun ca cb b=>Mq (e:=Ct) underlying155 J J J b8 (b9.sel [1,0,2] J) cb fun cc cd c0 _ ce cf=>An 1 J<|a3<|Aq<|An 2 J ?_
   rw [aj] at b
   exact fun a ha=>a1 a _ o (AB o) ⟨ca,Ah (f+1),cc,cd,ha.sb J,ce,cf.sel [0] J,b⟩
  refine Bb<|az ?_
  refine Am 2 J<|Aw<|rt hQ J J<|by cases b; exact ⟨j,u,rfl,y,ah.sel [0] J⟩
theorem Tp(a:Af)(b r:Int)(c:Mm b=some r) :
  A2 255 [.int .u64 b] a fun e w'=>e=.returned (iv r)∧Bl a w':=by
 refine cm func255 ntmps255 J fun Q d n f _=>?_
 unfold Mm at c
 refine Am 1 J<|Al fun _ g=>wp 1 J<|GB J J J J<|Je J J J<|wp 1 J<|Je J J J<|An 2 J<|g<|Al fun _ h=>wp 1 J<|GB J J J J<|Je J J J<|wp 1 J<|Je J J J<|An 2 J<|h<|Al fun _ i=>wp 1 J<|GB J J J J<|wp 2 J<|Je J J J<|An 1 J<|i<|Al fun _ j=>wp 2 J<|GB J J J J<|An 2 J<|j<|Al fun _ k=>wp 2 J<|GB J J J J<|An 2 J<|k<|Al fun _ l=>wp 2 J<|GB J J J J<|An 2 J<|l<|Al fun _ m=>wp 1 J<|DR underlying89 underlying3 J J<|Je J J J<|An 1 J<|m<|Aw<|rt d J J<|by cases c; exact ⟨rfl,f⟩
theorem US(b:Af)(c r:Int)(a:Iz c=some r) :
  A2 236 [.int .u64 c] b fun e w'=>e=.returned (iv r)∧Bl b w':=by
 refine cm func236 ntmps236 J fun Q d l f _=>?_
 unfold Iz at a
 refine Am 1 J<|Ao fun _ g=>Af0 J J<|Au<|g<|Al fun _ h=>wp 1 J<|bB a fun m i a=>A7 J call255 (Tp b c _ i) J ?_
 rintro _ n ⟨rfl,j⟩
 refine ⟨_,rfl,?_⟩
 have k:=tm f j
 refine An 1 J<|h<|Aw<|rt d J J<|by cases a; exact ⟨rfl,k⟩
theorem UO(p:Af)(q:Akl)(x:Ac)(av:RO Ct p x q)(r:List Int)(c:JM q=some r) :
  A2 213 [x] p fun e w'=>∃(q0:Ac)(G0:Ap),e=.returned q0∧Bl p w'∧Sp p w' [Ab As G0 q0 r]:=by
 refine cm func213 ntmps213 J fun Q hQ f hB hS=>?_
 unfold JM at c
 refine Am 1 J<|Al fun _ bh=>wp 1 J<|BO av underlying155 J<|An 1 J<|bh<|Al fun _ bi=>wp 1 J ?_
 have h4:=HZ c
 replace c:=Bw h4 c
 refine KR h4 J J J<|bB c fun u5 bk c=>Pm (e:=As) underlying36 J J bk hB hS fun v6 F7 w8 _ bn bo=>An 1 J<|bi<|Ao fun _ bp=>Al fun _ bq=>wp 1 J<|KR h4 J J J<|An 2 J<|bq<|A0<|AN (fun m a ad=>∃(ae:List Int)(g:Int)(y:Ac)(af:Ap),St 60 [(0,x),(3,iv (List.length q:Int)),(4,y),(5,iv g)] a∧Bl p ad∧Sp p ad [Ab As af y ae]∧EQ q m ae g=some r) FU ?_ ?_
 exact fun a ha=>⟨u5,Ah ((LL .i64 1 (List.length q:Int))-2),v6,F7,ha.sb J,bn,bo.sel [0] J,c⟩
 rintro z a ad ⟨ae,g,y,af,ha,ax,ay,c⟩ c5 br
 refine BC ?_ ha
 cases z with
 | zero=>exact Be c
 | succ z =>
  obtain ⟨az,a0⟩:∃ k,k=EQ q z:=⟨_,rfl⟩
  rw [EQ,← a0] at c
  refine Ao fun _ bs=>Am 2 J<|A3 J c (fun _ c=>?_)<|fun _ c=>?_
  refine Au<|bs ?_
  refine Ao fun _ bt=>A0<|Al fun _ bu=>wp 1 J<|DR underlying3 underlying117 J J<|bB c fun ag bv c=>Bn J call236 ax ay (US ad (Bi g) _ bv) J fun c6 _ bw a1=>An 1 J<|bu<|Al fun _ bx=>wp 2 J<|bB c fun c7 a2 c=>Co (e:=As) (i:=0) underlying36 J J J a1 J a2 ?_
  rintro c8 _ rfl c9 bz
  refine Cf (i:=0) (o:=0) (vs:=[iv 13194139533312]) (u':=13194139533312) Cl A9 J J J J bz a2 bw a1 J J ⟨rfl,trivial⟩ J fun da _ b0 b1=>Ai<|bx<|Am 1 J<|A0<|AN (fun m a an=>∃(t:List Int)(aa:Int)(u:Ac)(s:Ap),St 60 [(0,x),(3,iv (List.length q:Int)),(4,u),(5,iv g),(6,iv ag),(7,iv aa)] a∧Bl p an∧Sp p an [Ab As s u t]∧Ei q g ag az m t aa=some r) FU ?_ ?_
  exact fun a ha=>⟨BL ae g 13194139533312,0,y,af,ha.sb J,b0,b1.sel [0] J,c⟩
  rintro ab a an ⟨t,aa,u,s,ha,ao,ap,c⟩ db b2
  refine BC ?_ ha
  cases ab with
  | zero=>exact Be c
  | succ ab =>
   obtain ⟨dc,a3⟩:∃ k,k=Ei q g ag az ab:=⟨_,rfl⟩
   rw [Ei,← a3] at c
   refine Ao fun _ b3=>Am 3 J<|A3 J c (fun _ c=>?_)<|fun _ c=>?_
   refine Au<|b3 ?_
   refine Ao fun b4 b5=>?_
   obtain ⟨b6,b7,c⟩:=Cb c
   have ac:∀(ah:List Int)(ai:Ac)(aq:Ap)(aj:Af)(_:b6 ah=some r)(_:Bl p aj)(_:Sp p aj [Ab As aq ai ah]),∀ a,St 60 [(0,x),(3,iv (List.length q:Int)),(4,ai),(5,iv g),(6,iv ag),(7,iv aa)] a→b4 a aj:=by
    intro ah ai aq aj c b8 b9
    subst b7
    refine b5<|Aq<|An 3 J ?_
    rw [a3] at c
    exact fun a ha=>b2 a _ ab (AB ab) ⟨ah,Ah (aa+1),ai,aq,ha.sb J,b8,b9.sel [0] J,c⟩
   refine A0<|Al fun _ ca=>wp 2 J ?_
   have ak:=HZ c
   replace c:=Bw ak c
   refine GB ak J J J<|Je J J J<|An 1 J<|ca<|A3 J c (fun _ c=>?_)<|fun _ c=>?_
   refine AQ B1 s ao ap fun cb _ v j=>?_
   have d:=KeepX.refl cb s
   refine Ay 0 J f d<|Ay 1 J f d<|Ay 2 J f d<|Ay 3 J f d<|bB c fun l cc c=>Ad 4 J f d<|Bx (e:=As) (i:=0) underlying36 J J J j J cc ?_
   rintro dd _ rfl al de
   refine Ay 6 J f d<|Ay 7 J f d<|bB c fun df cd c=>Ad 8 J f d<|B7 (e:=Ct) underlying155 J J J av cd ?_
   rintro dg _ ⟨dh,rfl,ce⟩ cf
   refine Ad 9 J f d<|BR FA J (cf.kx v (fun b hb=>(((j.get (i:=0) J).2.1 b hb).1))) J<|Ay 10 J f d<|bB c fun n cg c=>Ad 11 J f d<|B7 (e:=As) underlying36 J J J ce cg ?_
   rintro di _ rfl ch
   refine Ad 12 J f d<|BR A9 J (ch.kx v (fun b hb=>(((j.get (i:=0) J).2.1 b hb).1))) J<|Ay 13 J f d<|Ay 14 J f d<|Ay 15 J f d<|CA (is:=[5,16]) (by kernel_rfl) J<|Bj.2 ⟨⟨_,rfl,?_⟩,Bj.2 ⟨⟨_,rfl,?_⟩,fun _ h=>by cases h⟩⟩
   refine BZ A9 J al J ?_
   refine Ai<|Ar d<|A1 16 J<|KR ak J J J<|Ai<|Ar d<|A1 17 J<|Ts J J J<|Ai<|Ar d<|bB c fun ar ci c=>Ad 18 J f d<|Bx (e:=As) (i:=0) underlying36 J J J j J ci ?_
   rintro dj _ rfl cj dk
   refine A1 19 J<|BZ A9 J cj J<|Ai<|Ar d<|Ad 20 J f d<|Fj J J J<|Ad 21 J f d<|Vp J J J<|bB c fun dl a4 c=>Ad 22 J f d<|Bx (e:=As) (i:=0) underlying36 J J J j J a4 ?_
   rintro dm _ rfl dn ck
   refine A1 23 J<|Cf (i:=0) (o:=0) (vs:=[iv (Fq l (Ah (n+ar)))]) (u':=(Fq l (Ah (n+ar)))) Cl A9 J J J J ck a4 v j J J ⟨rfl,trivial⟩ J fun dp a5 cl cn=>?_
   have co:=d.wr' a5.1 a5.2.1 (fun _ _ h=>h)
   refine Ai<|Ar co<|Bc ?_
   exact jx (ac (BL t g (Fq l (Ah (n+ar)))) u s _ c cl (cn.sel [0] J)) J
   refine KR ak J J J ?_
   refine Ai<|Ar d<|CA (is:=[5,17]) (by kernel_rfl) J<|Bj.2 ⟨⟨_,rfl,?_⟩,Bj.2 ⟨⟨_,rfl,?_⟩,fun _ h=>by cases h⟩⟩
   refine BZ A9 J al J ?_
   refine Ai<|Ar d<|A1 17 J<|Ts J J J<|Ai<|Ar d<|bB c fun au cp c=>Ad 18 J f d<|Bx (e:=As) (i:=0) underlying36 J J J j J cp ?_
   rintro dq _ rfl cq dr
   refine A1 19 J<|BZ A9 J cq J<|Ai<|Ar d<|Ad 20 J f d<|Fj J J J<|Ad 21 J f d<|Vp J J J<|bB c fun ds a6 c=>Ad 22 J f d<|Bx (e:=As) (i:=0) underlying36 J J J j J a6 ?_
   rintro dt _ rfl du cr
   refine A1 23 J<|Cf (i:=0) (o:=0) (vs:=[iv (Fq l (Ah (n+au)))]) (u':=(Fq l (Ah (n+au)))) Cl A9 J J J J cr a6 v j J J ⟨rfl,trivial⟩ J fun dv a7 cs ct=>?_
   have cu:=d.wr' a7.1 a7.2.1 (fun _ _ h=>h)
   refine Ai<|Ar cu<|Bc ?_
   exact jx (ac (BL t g (Fq l (Ah (n+au)))) u s _ c cs (ct.sel [0] J)) J
   refine Ts J J J ?_
   refine Ai<|Ar d<|bB c fun w cv c=>Ad 18 J f d<|Bx (e:=As) (i:=0) underlying36 J J J j J cv ?_
   rintro dw _ rfl a8 dx
   refine CA (is:=[5,19]) (by kernel_rfl) J<|Bj.2 ⟨⟨_,rfl,?_⟩,Bj.2 ⟨⟨_,rfl,?_⟩,fun _ h=>by cases h⟩⟩
   refine BZ A9 J al J ?_
   refine Ai<|Ar d<|A1 19 J<|BZ A9 J a8 J<|Ai<|Ar d<|Ad 20 J f d<|Fj J J J<|Ad 21 J f d<|Vp J J J<|bB c fun dy a9 c=>Ad 22 J f d<|Bx (e:=As) (i:=0) underlying36 J J J j J a9 ?_
   rintro dz _ rfl d0 cw
   refine A1 23 J<|Cf (i:=0) (o:=0) (vs:=[iv (Fq l (Ah (n+w)))]) (u':=(Fq l (Ah (n+w)))) Cl A9 J J J J cw a9 v j J J ⟨rfl,trivial⟩ J fun d1 ba cx cy=>?_
   have cz:=d.wr' ba.1 ba.2.1 (fun _ _ h=>h)
   refine Ai<|Ar cz<|Bc ?_
   exact jx (ac (BL t g (Fq l (Ah (n+w)))) u s _ c cx (cy.sel [0] J)) J
   refine BZ A9 J a8 J ?_
   refine Ai<|Ar d<|Ad 20 J f d<|Fj J J J<|A1 5 J<|BZ A9 J al J<|Ai<|Ar d<|Ad 21 J f d<|Vp J J J<|bB c fun d2 bb c=>Ad 22 J f d<|Bx (e:=As) (i:=0) underlying36 J J J j J bb ?_
   rintro d3 _ rfl d4 c0
   refine A1 23 J<|Cf (i:=0) (o:=0) (vs:=[iv (Fq l (Ah (n+w)))]) (u':=(Fq l (Ah (n+w)))) Cl A9 J J J J c0 bb v j J J ⟨rfl,trivial⟩ J fun d5 bc c1 c2=>?_
   have c3:=d.wr' bc.1 bc.2.1 (fun _ _ h=>h)
   refine Ai<|Ar c3<|Bc ?_
   exact jx (ac (BL t g (Fq l (Ah (n+w)))) u s _ c c1 (c2.sel [0] J)) J
   refine Au ?_
   exact jx (ac t u s _ c ao (ap.sel [0] J)) J
   refine Bb<|bt ?_
   refine Aq<|An 3 J ?_
   rw [a0] at c
   exact fun a ha=>br a _ z (AB z) ⟨t,Ah (g-1),u,s,ha.sb J,ao,ap.sel [0] J,c⟩
  refine Bb<|bp ?_
  refine Am 2 J<|Aw<|rt hQ J J<|by cases c; exact ⟨y,af,rfl,ax,ay.sel [0] J⟩
theorem RT(g:Af)(h:Akl)(u:Ac)(y:RO Ct g u h)(r:List Int)(b:HE h=some r) :
  A2 171 [u] g fun e w'=>∃(q0:Ac)(G0:Ap),e=.returned q0∧Bl g w'∧Sp g w' [Ab As G0 q0 r]:=by
 refine cm func171 ntmps171 J fun Q hQ f hB hS=>?_
 unfold HE at b
 refine Am 1 J<|Al fun _ a6=>wp 1 J<|bB b fun q a7 b=>Ds J call213 hB hS (UO g h u (y.ro hB) _ a7) J fun s z w6 _ _ a8 a9=>AZ (vs:=[]) (l:=[]) Cl underlying36 J J J J J J a8 a9 fun ba bb ck _ bc bd=>An 3 J<|a6<|Ao fun _ be=>Al fun _ bf=>wp 1 J<|BO y underlying155 J<|An 1 J<|bf<|A0<|AN (fun m a ah=>∃(n:Int)(t:List Int)(j:Int)(p:Ac)(v:Ap),St 59 [(0,u),(3,s),(4,iv n),(5,p),(12,iv (List.length h:Int)),(13,iv j)] a∧Bl g ah∧Sp g ah [Ab As z s q,Ab As v p t]∧DJ h q m n t j=some r) FU ?_ ?_
 exact fun a ha=>⟨0,[],0,ba,bb,ha.sb J,bc,bd.sel [1,0] J,b⟩
 rintro w a ah ⟨n,t,j,p,v,ha,ap,aq,b⟩ cl bg
 refine BC ?_ ha
 cases w with
 | zero=>exact Be b
 | succ w =>
  obtain ⟨cn,ar⟩:∃ k,k=DJ h q w:=⟨_,rfl⟩
  rw [DJ,← ar] at b
  refine Am 1 J<|Ao fun _ bh=>A3 J b (fun _ b=>?_)<|fun _ b=>?_
  refine Au<|bh ?_
  refine Ao fun bi bj=>?_
  obtain ⟨ai,bk,b⟩:=Np b
  have au:∀(aa:Int)(ab:List Int)(ac:Ac)(aj:Ap)(ad:Af)(_:ai aa ab=some r)(_:Bl g ad)(_:Sp g ad [Ab As z s q,Ab As aj ac ab]),∀ a,St 59 [(0,u),(3,s),(4,iv aa),(5,ac),(12,iv (List.length h:Int)),(13,iv j)] a→bi a ad:=by
   intro aa ab ac aj ad b bl bm
   subst bk
   refine bj<|Aq<|An 2 J ?_
   rw [ar] at b
   exact fun a ha=>bg a _ w (AB w) ⟨aa,ab,Ah (j+1),ac,aj,ha.sb J,bl,bm.sel [0,1] J,b⟩
  refine A0<|Am 2 J<|Al fun _ bn=>wp 1 J<|BO y underlying155 J<|An 1 J<|bn<|A0<|AN (fun m a ak=>∃(o:Int),St 59 [(0,u),(3,s),(4,iv n),(5,p),(6,iv j),(12,iv (List.length h:Int)),(13,iv j),(17,iv (List.length h:Int)),(18,iv o)] a∧Bl g ak∧Sp g ak [Ab As z s q,Ab As v p t]∧DI h t ai n j q m o=some r) FU ?_ ?_
  exact fun a ha=>⟨0,ha.sb J,ap,aq.sel [0,1] J,b⟩
  rintro x a ak ⟨o,ha,av,aw,b⟩ co bo
  refine BC ?_ ha
  cases x with
  | zero=>exact Be b
  | succ x =>
   obtain ⟨cp,ax⟩:∃ k,k=DI h t ai n j q x:=⟨_,rfl⟩
   rw [DI,← ax] at b
   refine Am 1 J<|Ao fun _ bp=>A3 J b (fun _ b=>?_)<|fun _ b=>?_
   refine Au<|bp ?_
   refine Ao fun _ bq=>A0<|Am 2 J<|Ao fun br bs=>?_
   obtain ⟨bt,bu,b⟩:=Cb b
   have ay:∀(al:Bool)(ae:Af)(_:bt al=some r)(_:Bl g ae)(_:Sp g ae [Ab As z s q,Ab As v p t]),∀ a,St 59 [(0,u),(3,s),(4,iv n),(5,p),(6,iv j),(7,iv o),(12,iv (List.length h:Int)),(13,iv j),(17,iv (List.length h:Int)),(18,iv o),(47,.bool al)] a→br a ae:=by
    intro al ae b az a0
    subst bu
    refine bs<|A3 J b (fun _ b=>?_)<|fun _ b=>?_
    refine Al fun _ bv=>?_
    refine wp 2 J<|AZ (vs:=[iv o]) (l:=[o]) Cl underlying36 J J J J J J az a0 fun cq cr bw _ bx a1=>bB b fun bz b0 b=>AE (i:=2) (S:=(·<bw.heap.size)) Cl underlying36 J J J bx a1 J (a1.own_ro (i:=0) J) b0 fun b1 b2 cs _ b3 b4=>An 1 J<|bv<|Al fun _ b5=>wp 2 J ?_
    have a2:=HZ b
    replace b:=Bw a2 b
    refine KR a2 J J J<|Ts J J J<|An 1 J<|b5<|Bb ?_
    exact jx (au (Vt .i64 n (LL .i64 1 o)) bz b1 b2 _ b b3 (b4.sel [1,2] J)) J
    refine Au<|bq ?_
    refine Aq<|An 2 J ?_
    rw [ax] at b
    exact fun a ha=>bo a _ x (AB x) ⟨Ah (o+1),ha.sb J,az,a0.sel [0,1] J,b⟩
   refine AQ B1 [] av aw fun b6 _ af ag=>?_
   have c:=KeepX.refl b6 []
   refine Ay 0 J f c<|Ay 1 J f c<|A1 2 J ?_
   have am:=HZ b
   replace b:=Bw am b
   refine GB am J J J<|Ai<|Ar c<|A1 3 J<|Je J J J<|Ai<|Ar c<|Ad 4 J f c<|Rb J J J<|Ay 5 J f c ?_
   rcases bE ((B8 .i64 (Bu .i64 n o) 1)==0) with d|d
   replace b:=Bw d b
   refine BQ 6 J f d c<|Dq J J<|BQ 7 J f d c<|Dq J J<|bB b fun ct b7 b=>BQ 8 J f d c<|B7 (e:=Ct) underlying155 J J J y b7 ?_
   rintro cu _ ⟨cv,rfl,b8⟩ b9
   refine BQ 9 J f d c<|BR FA J (b9.kx af (by simp)) J<|BQ 10 J f d c<|Dq J J<|bB b fun ca cb b=>BQ 11 J f d c<|B7 (e:=As) underlying36 J J J b8 cb ?_
   rintro cw _ rfl cc
   refine BQ 12 J f d c<|BR A9 J (cc.kx af (by simp)) J<|BQ 13 J f d c<|Dq J J<|BQ 14 J f d c<|Dq J J<|BQ 15 J f d c<|Dq J J<|BQ 21 J f d c<|Dq J J<|BQ 22 J f d c<|Dq J J<|bB b fun cd ce b=>BQ 23 J f d c<|Bx (e:=As) (i:=0) underlying36 J J J ag J ce ?_
   rintro cx _ rfl cf cy
   refine BQ 24 J f d c<|BR A9 J (cf.kx0) J<|A1 16 J<|wn J d<|KR am J J J<|Ai<|Ar c<|A1 17 J<|wn J d<|Ts J J J<|Ai<|Ar c<|bB b fun cg ch b=>BQ 18 J f d c<|Bx (e:=As) (i:=0) underlying36 J J J ag J ch ?_
   rintro cz _ rfl ci c0
   refine BQ 19 J f d c<|BR A9 J (ci.kx0) J<|BQ 20 J f d c<|Fj J J J<|BQ 25 J f d c<|Rb J J J<|Ad 26 J f c<|EK J J d J<|Bc ?_
   exact jx (ay ((Ah (ca+cg))==cd) _ b af (ag.sel [0,1] J)) J
   replace b:=BI d b
   refine Bh 6 J f d c<|Bh 7 J f d c<|Bh 8 J f d c<|Bh 9 J f d c<|Bh 10 J f d c<|Bh 11 J f d c<|Bh 12 J f d c<|Bh 13 J f d c<|Bh 14 J f d c<|Bh 15 J f d c<|Bh 16 J f d c<|Bh 17 J f d c<|Bh 18 J f d c<|Bh 19 J f d c<|Bh 20 J f d c<|Bh 21 J f d c<|Bh 22 J f d c<|Bh 23 J f d c<|Bh 24 J f d c<|Bh 25 J f d c<|Ad 26 J f c<|GI J J d J<|Bc ?_
   exact jx (ay false _ b af (ag.sel [0,1] J)) J
   refine Bb ?_
   exact jx (au n t p v _ b av (aw.sel [0,1] J)) J
  refine Bb<|be ?_
  refine Am 2 J<|Aw<|rt hQ J J<|by cases b; exact ⟨p,v,rfl,ap,aq.sel [1] J⟩
theorem NJ(a:Af)(c:List Int)(d:Ac)(h:RO As a d c)(r:List Int)(b:Gg c=some r) :
  A2 212 [d] a fun e w'=>∃(f:Ac)(j:Ap),e=.returned f∧Bl a w'∧Sp a w' [Ab As j f r]:=by
 refine cm func212 ntmps212 J fun Q k x m n=>?_
 unfold Gg at b
 refine Am 1 J<|Al fun _ o=>AZ (vs:=[]) (l:=[]) Cl underlying36 J J J J J J m n fun y z p _ g q=>wp 1 J<|bB b fun u9 s b=>AE (i:=0) (S:=(·<p.heap.size)) Cl underlying36 J J J g q J (h.ro g) s fun t u ab _ v w=>An 1 J<|o<|Aw<|rt k J J<|by cases b; exact ⟨t,u,rfl,v,w.sel [0] J⟩
theorem Ly(h:Af)(m:Akg)(n:Ac)(y:RO At h n m)(o:Akg)(p:Ac)(z:RO At h p o)(a:Int)(j:List Int)(k:Ac)(aa:RO As h k j)(r:Akg×Akg×Int×List Int)(b:Fw m o a j=some r) :
  A2 170 [n,p,iv a,k] h fun e w'=>∃(q:Ac)(G0:Ap)(s:Ac)(G1:Ap)(t:Ac)(G2:Ap),e=.returned (.agg #[q,s,iv r.2.2.1,t])∧Bl h w'∧Sp h w' [Ab At G0 q r.1,Ab At G1 s r.2.1,Ab As G2 t r.2.2.2]:=by
 refine cm func170 ntmps170 J fun Q hQ hP hB hS=>?_
 unfold Fw at b
 refine Al fun _ ah=>EE Bs J hB hS fun b2 w3 _ ai aj=>Ai<|ah<|Al fun _ ak=>AZ (vs:=[]) (l:=[]) CR underlying26 J J J J J J ai aj fun v8 F9 al _ u am=>wp 1 J<|bB b fun a8 an b=>AE (i:=0) (S:=(·<al.heap.size)) CR underlying26 J J J u am J (y.ro u) an fun c ao a9 _ ap aq=>AZ (vs:=[]) (l:=[]) CR underlying26 J J J J J J ap aq fun ba bb ar _ v au=>wp 1 J<|bB b fun bc av b=>AE (i:=0) (S:=(·<ar.heap.size)) CR underlying26 J J J v au J (z.ro v) av fun d aw ax _ w ay=>wp 2 J<|bB b fun bd az b=>Ds J call212 w ay (NJ ax j k (aa.ro w) _ az) J fun f a0 be _ _ a1 g=>DS (zs:=[.slice none 0 0,.slice none 0 0,iv 0,.slice none 0 0]) (out:=[c,d,iv a,f]) (vs:=[c,d,iv a,f]) (css:=[[c],[d],[iv a],[f]]) Bs Rc J J (by simp only [List.map_cons,List.map_nil,Ch ((g.own_ro (i:=2) J).one),Ch ((g.own_ro (i:=1) J).one),Ch ((g.own_ro (i:=0) J).one)] <;> rfl) J J<|BG (i:=3) (vs:=[c,d,iv a,f]) (cs':=[c,d,iv a,f]) Bs J J J J a1 g J J ⟨(g.own_ro (i:=2) J).one,(g.own_ro (i:=1) J).one,rfl,(g.own_ro (i:=0) J).one,trivial⟩ J fun bf _ a2 x=>Ai<|ak<|Aw ?_
 obtain rfl:=Option.some.inj b
 exact JU (vs:=[.agg #[c,d,iv a,f]]) hQ J ⟨HL (i:=3) Bs J x J J J,trivial⟩ ⟨c,ao,d,aw,f,a0,rfl,a2,x.sel [2,1,0] J⟩
theorem MM(b:Af)(c:Akg)(d:Ac)(p:RO At b d c)(f:Akg)(g:Ac)(q:RO At b g f)(h:Int)(r:(Akg×Akg×Int×List Int)×Bool)(a:Ha c f h=some r) :
  A2 119 [d,g,iv h] b fun e w'=>∃(u:Ac)(G0:Ap)(v:Ac)(G1:Ap)(w:Ac)(G2:Ap),e=.returned (.tuple #[.agg #[u,v,iv r.1.2.2.1,w],.bool r.2])∧Bl b w'∧Sp b w' [Ab At G0 u r.1.1,Ab At G1 v r.1.2.1,Ab As G2 w r.1.2.2.2]:=by
 refine cm func119 ntmps119 J fun Q x hP hB hS=>?_
 unfold Ha at a
 refine Al fun _ aj=>EE Bs J hB hS fun b2 w3 _ s al=>An 1 J<|aj<|Ao fun _ am=>Al fun _ an=>wp 3 J<|bB a fun u9 ao a=>Bn J call169 s al (PY w3 c d (p.ro s) f g (q.ro s) h _ ao) J fun ap _ j y=>An 1 J<|an<|A3 J a (fun _ a=>?_)<|fun _ a=>?_
 refine Al fun _ aq=>?_
 refine DS (zs:=[.slice none 0 0,.slice none 0 0,iv 0,.slice none 0 0]) (out:=[.slice none 0 0,.slice none 0 0,iv 0,.slice none 0 0]) (vs:=[]) (css:=[]) Bs Rc J J J J J<|GC 0 Bs J J j y J J J fun bh _ ar z=>An 1 J<|aq<|Aw ?_
 have au:=z.push0 (r:=Ab At [] (.slice none 0 0) []) J fun _=>.inl ⟨rfl,rfl,rfl⟩
 have av:=au.push0 (r:=Ab At [] (.slice none 0 0) []) J fun _=>.inl ⟨rfl,rfl,rfl⟩
 have aw:=av.push0 (r:=Ab As [] (.slice none 0 0) []) J fun _=>.inl ⟨rfl,rfl,rfl⟩
 obtain rfl:=Option.some.inj a
 exact JU (vs:=[.agg #[.slice none 0 0,.slice none 0 0,iv 0,.slice none 0 0],.bool false]) x J ⟨HL (i:=0) Bs J z J J J,Kr J,trivial⟩ ⟨.slice none 0 0,[],.slice none 0 0,[],.slice none 0 0,[],rfl,ar,aw.sel [2,1,0] J⟩
 refine Au<|am ?_
 refine Al fun _ ax=>wp 5 J<|bB a fun ay az a=>Ds J call172 j y (UL ap c d (p.ro j) f g (q.ro j) _ az) J fun a0 bi a1 _ _ a2 aa=>bB a fun a3 a4 a=>Ds J call171 a2 aa (RT a1 ay a0 (aa.own_ro (i:=0) J) _ a4) J fun a5 bj a6 _ _ k ab=>bB a fun t a7 a=>A7 J call170 (Ly a6 c d (p.ro k) f g (q.ro k) h a3 a5 (ab.own_ro (i:=0) J) _ a7) J ?_
 rintro _ bk ⟨l,a8,m,a9,n,ba,rfl,ac,bb⟩
 refine ⟨_,rfl,?_⟩
 have bc:=tm k ac
 have o:=ab.join ac bb k.size
 refine BG (i:=5) (vs:=[l,m,iv t.2.2.1,n]) (cs':=[l,m,iv t.2.2.1,n]) Bs J J J J bc o J J ⟨(o.own_ro (i:=0) J).one,(o.own_ro (i:=1) J).one,rfl,(o.own_ro (i:=2) J).one,trivial⟩ J fun bl _ bd ad=>An 1 J<|ax<|Aw ?_
 obtain rfl:=Option.some.inj a
 exact JU (vs:=[.agg #[l,m,iv t.2.2.1,n],.bool true]) x J ⟨HL (i:=5) Bs J ad J J J,Kr J,trivial⟩ ⟨l,a8,m,a9,n,ba,rfl,bd,ad.sel [0,1,2] J⟩
theorem TT(d:Af)(g:List Int)(h:Ac)(q:RO As d h g)(f:Int)(r:Bool)(b:Jn g f=some r) :
  A2 214 [h,iv f] d fun e w'=>e=.returned (.bool r)∧Bl d w':=by
 refine cm func214 ntmps214 J fun Q u hP hB hS=>?_
 unfold Jn at b
 refine Am 1 J<|Am 1 J<|Ao fun _ ae=>Al fun _ af=>wp 1 J<|BO q underlying36 J<|An 1 J<|af<|A0<|AN (fun m a n=>∃(i j:Int),St 35 [(0,h),(1,iv f),(5,iv i),(8,h),(9,iv (List.length g:Int)),(10,iv j)] a∧Bl d n∧Sp d n []∧EA g f m i j=some r) FU ?_ ?_
 exact fun a ha=>⟨0,0,ha.sb J,hB,hS.sel [] J,b⟩
 rintro l a n ⟨i,j,ha,s,ag,b⟩ az ah
 refine BC ?_ ha
 cases l with
 | zero=>exact Be b
 | succ l =>
  obtain ⟨a0,v⟩:∃ k,k=EA g f l:=⟨_,rfl⟩
  rw [EA,← v] at b
  refine Am 1 J<|Ao fun _ ai=>A3 J b (fun _ b=>?_)<|fun _ b=>?_
  refine Au<|ai ?_
  refine Ao fun _ aj=>A0<|Al fun _ ak=>bB b fun o al b=>BT (e:=As) underlying36 J J J q al ?_
  rintro a1 _ rfl am
  refine BZ A9 J (am.ro s) J<|An 1 J<|ak<|Ao fun _ an=>Ao fun ao ap=>?_
  obtain ⟨aq,ar,b⟩:=Cb b
  have w:∀(t:Bool)(p:Af)(_:aq t=some r)(_:Bl d p)(_:Sp d p []),∀ a,St 35 [(0,h),(1,iv f),(5,iv i),(7,iv o),(8,h),(9,iv (List.length g:Int)),(10,iv j),(25,.bool t)] a→ao a p:=by
   intro t p b x au
   subst ar
   refine ap<|A3 J b (fun _ b=>?_)<|fun _ b=>?_
   refine Am 1 J ?_
   refine Aw<|rt u J J<|by cases b; exact ⟨rfl,x⟩
   refine Au<|an ?_
   refine Aq<|wp 2 J ?_
   have y:=HZ b
   replace b:=Bw y b
   refine KR y J J J<|Ts J J J<|An 1 J<|aj<|Aq<|An 2 J ?_
   rw [v] at b
   exact fun a ha=>ah a _ l (AB l) ⟨Vt .i64 i (LL .i64 1 o),Ah (j+1),ha.sb J,x,au.sel [] J,b⟩
  refine Aq<|wp 3 J<|bB b fun av aw b=>Bn J call60 s ag (C1 n o 0 (Ah (f-1)) _ aw) J fun a2 _ z aa=>wp 2 J ?_
  rcases bE (!av) with c|c
  replace b:=Bw c b
  refine wo J c<|wo J c<|wo J c<|wo J c<|wo J c<|A8 J J c J<|Ai ?_
  exact jx (w true _ b z (aa.sel [] J)) J
  replace b:=BI c b
  refine wn J c<|wp 1 J<|wn J c<|wp 1 J<|wn J c ?_
  have ab:=HZ b
  replace b:=Bw ab b
  refine GB ab J J J<|wn J c<|Je J J J<|wn J c<|wp 1 J<|Ak J J c J<|Ai ?_
  exact jx (w ((B8 .i64 (Bu .i64 i o) 1)==1) _ b z (aa.sel [] J)) J
  refine Bb<|ae ?_
  refine Al fun _ ax=>wp 1 J<|BO q underlying36 J<|An 3 J<|ax<|Aw<|rt u J J<|by cases b; exact ⟨rfl,s⟩
theorem LP(i:Af)(f:Akg×Akg×Int×List Int)(n:Ac)(o:RO At i n f.1)(p:Ac)(x:RO At i p f.2.1)(q:Ac)(aa:RO As i q f.2.2.2)(r:Bool)(b:Gc f=some r) :
  A2 173 [.agg #[n,p,iv f.2.2.1,q]] i fun e w'=>e=.returned (.bool r)∧Bl i w':=by
 refine cm func173 ntmps173 J fun Q hQ hP hB hS=>?_
 unfold Gc at b
 refine Al fun _ ae=>CV J hB hS fun b2 w3 _ y z=>An 1 J<|ae<|Ao fun K7 ah=>?_
 obtain ⟨ai,aj,b⟩:=Cb b
 have k:∀(s:Bool)(l:Af)(_:ai s=some r)(_:Bl i l)(_:Sp i l []),∀ a,St 33 [(2,.bool s)] a→K7 a l:=by
  intro s l b ak a2
  subst aj
  refine ah<|Aw<|rt hQ J J<|by cases b; exact ⟨rfl,ak⟩
 refine Aq<|Bp EX J<|AU 0 Cs J z J J<|bB b fun al am b=>Bn J call43 y z (GA w3 f.1 n (o.ro y) _ am) J fun an _ t u=>wp 1 J ?_
 rcases bE al with g|g
 replace b:=Bw g b
 refine wn J g<|Bp Mf J<|wn J g<|AU 0 Cs J u J J<|wn J g<|bB b fun ao ap b=>Bn J call43 t u (GA an f.2.1 p (x.ro t) _ ap) J fun aq _ v j=>A8 J J g J<|wp 1 J ?_
 rcases bE ao with c|c
 replace b:=Bw c b
 refine wn J c<|Bp EX J<|wn J c<|AU 0 Cs J j J J<|wn J c<|BO o underlying26 J<|wn J c<|Bp Mf J<|wn J c<|AU 0 Cs J j J J<|wn J c<|BO x underlying26 J<|wn J c<|wp 1 J<|A8 J J c J<|wp 1 J ?_
 rcases bE ((List.length f.1:Int)==(List.length f.2.1:Int)) with h|h
 replace b:=Bw h b
 refine wn J h<|Bp Me J<|wn J h<|AU 0 A9 J j J J<|wn J h<|bB b fun ar au b=>Bn J call60 v j (C1 aq f.2.2.1 1 64 _ au) J fun av _ w m=>A8 J J h J<|wp 1 J ?_
 rcases bE ar with d|d
 replace b:=Bw d b
 refine wn J d<|Bp Hf J<|wn J d<|AU 0 FA J m J J<|wn J d<|Bp EX J<|wn J d<|AU 0 Cs J m J J<|wn J d<|BO o underlying26 J<|wn J d<|bB b fun aw ax b=>Bn J call214 w m (TT av f.2.2.2 q (aa.ro w) (List.length f.1:Int) _ ax) J fun a3 _ ay az=>A8 J J d J<|An 1 J ?_
 exact jx (k aw _ b ay (az.sel [] J)) J
 replace b:=BI d b
 refine wo J d<|wo J d<|wo J d<|wo J d<|wo J d<|wo J d<|Ak J J d J<|An 1 J ?_
 exact jx (k false _ b w (m.sel [] J)) J
 replace b:=BI h b
 refine wo J h<|wo J h<|wo J h<|Ak J J h J<|wp 1 J<|wo J J<|wo J J<|wo J J<|wo J J<|wo J J<|wo J J<|Ak J J J J<|An 1 J ?_
 exact jx (k false _ b v (j.sel [] J)) J
 replace b:=BI c b
 refine wo J c<|wo J c<|wo J c<|wo J c<|wo J c<|wo J c<|wo J c<|Ak J J c J<|wp 1 J<|wo J J<|wo J J<|wo J J<|Ak J J J J<|wp 1 J<|wo J J<|wo J J<|wo J J<|wo J J<|wo J J<|wo J J<|Ak J J J J<|An 1 J ?_
 exact jx (k false _ b v (j.sel [] J)) J
 replace b:=BI g b
 refine wo J g<|wo J g<|wo J g<|Ak J J g J<|wp 1 J<|wo J J<|wo J J<|wo J J<|wo J J<|wo J J<|wo J J<|wo J J<|Ak J J J J<|wp 1 J<|wo J J<|wo J J<|wo J J<|Ak J J J J<|wp 1 J<|wo J J<|wo J J<|wo J J<|wo J J<|wo J J<|wo J J<|Ak J J J J<|An 1 J ?_
 exact jx (k false _ b t (u.sel [] J)) J
theorem UM(g:Af)(f:Akg×Akg×Int×List Int)(n:Ac)(aa:RO At g n f.1)(o:Ac)(ab:RO At g o f.2.1)(i:Ac)(v:RO As g i f.2.2.2)(r:Int)(b:JL f=some r) :
  A2 174 [.agg #[n,o,iv f.2.2.1,i]] g fun e w'=>e=.returned (iv r)∧Bl g w':=by
 refine cm func174 ntmps174 J fun Q hQ c hB hS=>?_
 unfold JL at b
 refine Al fun _ af=>CV J hB hS fun w w3 _ ag x=>An 1 J<|af<|Am 1 J<|Ao fun _ ah=>Al fun _ ai=>Bp Hf J<|AU 0 FA J x J J<|BO v underlying36 J<|An 1 J<|ai<|A0<|AN (fun m a p=>∃(j l:Int),St 29 [(1,.pointer (some ⟨w,0,none⟩)),(3,iv j),(7,i),(8,iv (List.length f.2.2.2:Int)),(9,iv l)] a∧Bl g p∧Sp g p [Av w 128 [n,o,iv f.2.2.1,i]]∧EO f m j l=some r) FU ?_ ?_
 exact fun a ha=>⟨0,0,ha.sb J,ag,x.sel [0] J,b⟩
 rintro h a p ⟨j,l,ha,q,aj,b⟩ a4 ak
 refine BC ?_ ha
 cases h with
 | zero=>exact Be b
 | succ h =>
  obtain ⟨a5,y⟩:∃ k,k=EO f h:=⟨_,rfl⟩
  rw [EO,← y] at b
  refine Am 1 J<|Ao fun _ al=>A3 J b (fun _ b=>?_)<|fun _ b=>?_
  refine Au<|al ?_
  refine Ao fun _ am=>A0<|Al fun _ an=>wp 1 J<|bB b fun a6 ao b=>BT (e:=As) underlying36 J J J v ao ?_
  rintro a7 _ rfl ap
  refine BZ A9 J (ap.ro q) J<|An 2 J<|an<|AQ B1 [] q aj fun z _ s t=>?_
  have d:=KeepX.refl z []
  refine Ay 0 J c d<|Ad 1 J c d<|C7 EX J<|Ad 2 J c d<|CN 0 Cs J t J (by simp)<|Ay 3 J c d<|bB b fun aq ar b=>Ad 4 J c d<|B7 (e:=At) underlying26 J J J aa ar ?_
  rintro a8 _ rfl au
  refine Ad 5 J c d<|BR Bt J (au.kx s (by simp)) J<|Ad 6 J c d<|C7 Mf J<|Ad 7 J c d<|CN 0 Cs J t J (by simp)<|Ay 8 J c d<|bB b fun av aw b=>Ad 9 J c d<|B7 (e:=At) underlying26 J J J ab aw ?_
  rintro a9 _ rfl ax
  refine Ad 10 J c d<|BR Bt J (ax.kx s (by simp)) J<|A1 11 J<|bB b fun ay az b=>Bn J call183 s t (HK z aq av _ az) J fun ba a0 a1 a2=>?_
  have u:=d.ext a0
  refine Ai<|Ar u<|Ad 12 J c u<|Fj J J J<|Ad 13 J c u<|AD J J<|Bc<|am<|Aq<|An 2 J ?_
  rw [y] at b
  exact fun a ha=>ak a _ h (AB h) ⟨Ah (j+ay),Ah (l+1),ha.sb J,a1,a2.sel [0] J,b⟩
  refine Bb<|ah ?_
  refine Am 2 J<|Aw<|rt hQ J J<|by cases b; exact ⟨rfl,q⟩
theorem UP(c:Af)(b:Akg×Akg×Int×List Int)(f:Ac)(j:RO At c f b.1)(g:Ac)(k:RO At c g b.2.1)(h:Ac)(l:RO As c h b.2.2.2)(r:Int×Bool)(a:Iy b=some r) :
  A2 121 [.agg #[f,g,iv b.2.2.1,h]] c fun e w'=>e=.returned (.tuple #[iv r.1,.bool r.2])∧Bl c w':=by
 refine cm func121 ntmps121 J fun Q m hP o p=>?_
 unfold Iy at a
 refine Al fun _ q=>CV J o p fun b2 s _ i n=>An 2 J<|q<|Ao fun _ t=>Al fun _ u=>AU 0 Bs J n J J<|bB a fun u9 v a=>Bn J call173 i n (LP s b f (j.ro i) g (k.ro i) h (l.ro i) _ v) J fun w _ d x=>An 1 J<|u<|A3 J a (fun _ a=>?_)<|fun _ a=>?_
 refine Am 2 J ?_
 refine Aw<|rt m J J<|by cases a; exact ⟨rfl,d⟩
 refine Au<|t ?_
 refine Al fun _ y=>AU 0 Bs J x J J<|bB a fun af z a=>A7 J call174 (UM w b f (j.ro d) g (k.ro d) h (l.ro d) _ z) J ?_
 rintro _ ag ⟨rfl,aa⟩
 refine ⟨_,rfl,?_⟩
 have ab:=tm d aa
 refine An 2 J<|y<|Aw<|rt m J J<|by cases a; exact ⟨rfl,ab⟩
theorem KG(b:Af)(h:Tab b)(c:Int)(f:Bool)(r:List Ag)(a:Gf c f=some r) :
  A2 120 [iv c,.bool f] b fun e w'=>e=.returned (.string (AL r))∧Bl b w':=by
 refine cm func120 ntmps120 J fun Q g n d _=>?_
 unfold Gf at a
 refine Am 1 J<|Ao fun _ i=>Am 1 J<|A3 J a (fun _ a=>?_)<|fun _ a=>?_
 refine Al fun _ j=>?_
 refine wp 1 J<|bB a fun o k a=>A7 J call130 (EZ b (h.st d) c _ k) J ?_
 rintro _ p ⟨rfl,l⟩
 refine ⟨_,rfl,?_⟩
 have m:=tm d l
 refine An 1 J<|j<|Aw<|rt g J J<|by cases a; exact ⟨rfl,m⟩
 refine Au<|i ?_
 refine Am 1 J<|Aw<|rt g J J<|by cases a; exact ⟨rfl,d⟩
theorem I6(c:Af)(d:Akg)(j:Ac)(y:RO At c j d)(g:Akg)(n:Ac)(ac:RO At c n g)(f:Int)(r:(Akg×Akg×Int×List Int)×Bool)(b:FG d g f=some r) :
  A2 123 [j,n,iv f] c fun e w'=>∃(q0:Ac)(G0:Ap)(q1:Ac)(G1:Ap)(q2:Ac)(G2:Ap),e=.returned (.tuple #[.agg #[q0,q1,iv r.1.2.2.1,q2],.bool r.2])∧Bl c w'∧Sp c w' [Ab At G0 q0 r.1.1,Ab At G1 q1 r.1.2.1,Ab As G2 q2 r.1.2.2.2]:=by
 refine cm func123 ntmps123 J fun Q hQ hP hB hS=>?_
 unfold FG at b
 refine Al fun _ ax=>EE Bs J hB hS fun b2 w3 _ z az=>An 1 J<|ax<|Ao fun _ a0=>Al fun _ a1=>wp 3 J<|bB b fun u9 a2 b=>Bn J call169 z az (PY w3 d j (y.ro z) g n (ac.ro z) f _ a2) J fun b1 _ ai aj=>An 1 J<|a1<|A3 J b (fun _ b=>?_)<|fun _ b=>?_
 refine Al fun _ a3=>?_
 refine DS (zs:=[.slice none 0 0,.slice none 0 0,iv 0,.slice none 0 0]) (out:=[.slice none 0 0,.slice none 0 0,iv 0,.slice none 0 0]) (vs:=[]) (css:=[]) Bs Rc J J J J J<|GC 0 Bs J J ai aj J J J fun b3 _ a4 ak=>An 1 J<|a3<|Aw ?_
 have a5:=ak.push0 (r:=Ab At [] (.slice none 0 0) []) J fun _=>.inl ⟨rfl,rfl,rfl⟩
 have a6:=a5.push0 (r:=Ab At [] (.slice none 0 0) []) J fun _=>.inl ⟨rfl,rfl,rfl⟩
 have a7:=a6.push0 (r:=Ab As [] (.slice none 0 0) []) J fun _=>.inl ⟨rfl,rfl,rfl⟩
 obtain rfl:=Option.some.inj b
 exact JU (vs:=[.agg #[.slice none 0 0,.slice none 0 0,iv 0,.slice none 0 0],.bool false]) hQ J ⟨HL (i:=0) Bs J ak J J J,Kr J,trivial⟩ ⟨.slice none 0 0,[],.slice none 0 0,[],.slice none 0 0,[],rfl,a4,a7.sel [2,1,0] J⟩
 refine Au<|a0 ?_
 refine Al fun _ a8=>AZ (vs:=[]) (l:=[]) Cl underlying36 J J J J J J ai aj fun a9 ba b4 _ bb bc=>An 1 J<|a8<|Ao fun _ bd=>Al fun _ be=>wp 1 J<|BO y underlying26 J<|An 1 J<|be<|A0<|AN (fun m a q=>∃(s:List Int)(h:Int)(t:Ac)(al:Ap),St 32 [(0,j),(1,n),(2,iv f),(6,.pointer (some ⟨b2,0,none⟩)),(8,t),(18,iv (List.length d:Int)),(19,iv h)] a∧Bl c q∧Sp c q [Av b2 128 [.slice none 0 0,.slice none 0 0,iv 0,.slice none 0 0],Ab As al t s]∧Dv d g f m s h=some r) FU ?_ ?_
 exact fun a ha=>⟨[],0,a9,ba,ha.sb J,bb,bc.sel [1,0] J,b⟩
 rintro o a q ⟨s,h,t,al,ha,p,aa,b⟩ b5 bf
 refine BC ?_ ha
 cases o with
 | zero=>exact Be b
 | succ o =>
  obtain ⟨b6,am⟩:∃ k,k=Dv d g f o:=⟨_,rfl⟩
  rw [Dv,← am] at b
  refine Am 1 J<|Ao fun _ bg=>A3 J b (fun _ b=>?_)<|fun _ b=>?_
  refine Au<|bg ?_
  refine Ao fun _ bh=>A0<|Am 2 J<|Aq<|wp 2 J<|AZ (vs:=[iv h]) (l:=[h]) Cl underlying36 J J J J J J p aa fun b7 b8 bi _ bj an=>bB b fun bk bl b=>AE (i:=2) (S:=(·<bi.heap.size)) Cl underlying36 J J J bj an J (an.own_ro (i:=0) J) bl fun bm bn b9 _ bo bp=>An 1 J<|bh<|Aq<|An 2 J ?_
  rw [am] at b
  exact fun a ha=>bf a _ o (AB o) ⟨bk,Ah (h+1),bm,bn,ha.sb J,bo,bp.sel [1,2] J,b⟩
  refine Bb<|bd ?_
  refine Al fun _ bq=>wp 4 J<|bB b fun ab br b=>A7 J call170 (Ly q d j (y.ro p) g n (ac.ro p) f s t (aa.own_ro (i:=1) J) _ br) J ?_
  rintro _ ca ⟨u,bs,v,bt,w,bu,rfl,ao,bv⟩
  refine ⟨_,rfl,?_⟩
  have bw:=tm p ao
  have x:=aa.join ao bv p.size
  refine BG (i:=3) (vs:=[u,v,iv ab.2.2.1,w]) (cs':=[u,v,iv ab.2.2.1,w]) Bs J J J J bw x J J ⟨(x.own_ro (i:=0) J).one,(x.own_ro (i:=1) J).one,rfl,(x.own_ro (i:=2) J).one,trivial⟩ J fun cb _ bx ap=>An 1 J<|bq<|Aw ?_
  obtain rfl:=Option.some.inj b
  exact JU (vs:=[.agg #[u,v,iv ab.2.2.1,w],.bool true]) hQ J ⟨HL (i:=3) Bs J ap J J J,Kr J,trivial⟩ ⟨u,bs,v,bt,w,bu,rfl,bx,ap.sel [0,1,2] J⟩
theorem Ry(b:Af)(c:Int)(r:Bool)(a:JB c=some r) :
  A2 178 [iv c] b fun e w'=>e=.returned (.bool r)∧Bl b w':=by
 refine cm func178 ntmps178 J fun Q d k f _=>?_
 unfold JB at a
 refine Am 1 J<|Al fun _ g=>wp 1 J<|bB a fun l h a=>A7 J call60 (C1 b c 0 80 _ h) J ?_
 rintro _ m ⟨rfl,i⟩
 refine ⟨_,rfl,?_⟩
 have j:=tm f i
 refine An 1 J<|g<|Aw<|rt d J J<|by cases a; exact ⟨rfl,j⟩
theorem Oo(q:Af)(g:Akg×Akg×Int×List Int)(z:Ac)(ap:RO At q z g.1)(aa:Ac)(aq:RO At q aa g.2.1)(v:Ac)(af:RO As q v g.2.2.2)(r:List Aki)(c:Iw g=some r) :
  A2 219 [.agg #[z,aa,iv g.2.2.1,v]] q fun e w'=>∃(q0:Ac)(G0:Ap),e=.returned q0∧Bl q w'∧Sp q w' [Ab CF G0 q0 r]:=by
 refine cm func219 ntmps219 J fun Q hQ d hB hS=>?_
 unfold Iw at c
 refine Al fun _ ax=>CV J hB hS fun s w3 _ ay az=>An 1 J<|ax<|Al fun _ a0=>AZ (vs:=[]) (l:=[]) SV underlying184 J J J J J J ay az fun v8 F9 bq _ a3 ah=>An 1 J<|a0<|Ao fun _ a4=>Al fun _ a5=>Bp Hf J<|AU 1 FA J ah J J<|BO af underlying36 J<|An 1 J<|a5<|A0<|AN (fun m a ab=>∃(ac:List Aki)(w:Int)(x:Ac)(t:Ap),St 33 [(1,.pointer (some ⟨s,0,none⟩)),(3,x),(8,v),(9,iv (List.length g.2.2.2:Int)),(10,iv w)] a∧Bl q ab∧Sp q ab [Av s 128 [z,aa,iv g.2.2.1,v],Ab CF t x ac]∧FX g m ac w=some r) FU ?_ ?_
 exact fun a ha=>⟨[],0,v8,F9,ha.sb J,a3,ah.sel [1,0] J,c⟩
 rintro u a ab ⟨ac,w,x,t,ha,ad,ai,c⟩ br a6
 refine BC ?_ ha
 cases u with
 | zero=>exact Be c
 | succ u =>
  obtain ⟨bs,aj⟩:∃ k,k=FX g u:=⟨_,rfl⟩
  rw [FX,← aj] at c
  refine Am 1 J<|Ao fun _ a7=>A3 J c (fun _ c=>?_)<|fun _ c=>?_
  refine Au<|a7 ?_
  refine Ao fun _ a8=>A0<|Al fun _ a9=>wp 1 J<|bB c fun bt ba c=>BT (e:=As) underlying36 J J J af ba ?_
  rintro bu _ rfl bb
  refine BZ A9 J (bb.ro ad) J<|An 2 J<|a9<|AQ B1 t ad ai fun ak _ y n=>?_
  have f:=KeepX.refl ak t
  refine Ay 0 J d f<|Ad 1 J d f<|C7 EX J<|Ad 2 J d f<|CN 0 Cs J n J (n.disj (i:=0) (j:=1) J J J s (by simp [Av]))<|Ay 3 J d f<|bB c fun o bc c=>Ad 4 J d f<|B7 (e:=At) underlying26 J J J ap bc ?_
  rintro bv _ rfl bd
  refine Ad 5 J d f<|BR Bt J (bd.kx y (fun b hb=>(((n.get (i:=1) J).2.1 b hb).1))) J<|Ad 6 J d f<|C7 Mf J<|Ad 7 J d f<|CN 0 Cs J n J (n.disj (i:=0) (j:=1) J J J s (by simp [Av]))<|Ay 8 J d f<|bB c fun p be c=>Ad 9 J d f<|B7 (e:=At) underlying26 J J J aq be ?_
  rintro bw _ rfl bf
  refine Ad 10 J d f<|BR Bt J (bf.kx y (fun b hb=>(((n.get (i:=1) J).2.1 b hb).1))) J<|Ad 11 J d f<|C7 Me J<|Ad 12 J d f<|CN 0 A9 J n J (n.disj (i:=0) (j:=1) J J J s (by simp [Av]))<|Ad 13 J d f<|IU (zs:=[iv 0,iv 0,iv 0,iv 0,iv 0]) (out:=[iv o.1,iv o.2,iv p.1,iv p.2,iv g.2.2.1]) (vs:=[.agg #[iv o.1,iv o.2],.agg #[iv p.1,iv p.2],iv g.2.2.1]) (css:=[[iv o.1,iv o.2],[iv p.1,iv p.2],[iv g.2.2.1]]) C8 Ac2 J J J J J<|A1 14 J<|AZ (vs:=[.agg #[iv o.1,iv o.2,iv p.1,iv p.2,iv g.2.2.1]]) (l:=[(o,p,g.2.2.1)]) SV underlying184 J J J J J J (Bk ak) (Sep.nil _ _) fun bx bz bg ae _ bh=>?_
  have bi:=tm y ae
  have al:=n.join ae bh y.size
  have am:=f.ext ae
  refine Ai<|Ar am<|A1 15 J<|bB c fun bj bk c=>AE (i:=2) (S:=(·<bg.heap.size)) SV underlying184 J J J bi al J (al.own_ro (i:=0) J) bk fun bl bm b0 an bn bo=>?_
  have ao:=am.wr' an.1 an.2.1 (fun _ _ h=>h)
  refine Ai<|Ar ao<|Ad 16 J d ao<|AD J J<|Bc<|a8<|Aq<|An 2 J ?_
  rw [aj] at c
  exact fun a ha=>a6 a _ u (AB u) ⟨bj,Ah (w+1),bl,bm,ha.sb J,bn,bo.sel [1,2] J,c⟩
  refine Bb<|a4 ?_
  refine Am 2 J<|Aw<|rt hQ J J<|by cases c; exact ⟨x,t,rfl,ad,ai.sel [1] J⟩
theorem Xb(o:Af)(a b:Aki)(r:(Int×Int)×(Int×Int)×Int×Int)(p:M0 a b=some r) :
  A2 272 [.agg #[iv a.1.1,iv a.1.2,iv a.2.1.1,iv a.2.1.2,iv a.2.2],.agg #[iv b.1.1,iv b.1.2,iv b.2.1.1,iv b.2.1.2,iv b.2.2]] o fun e w'=>e=.returned (.tuple #[.agg #[iv r.1.1,iv r.1.2],.agg #[iv r.2.1.1,iv r.2.1.2],iv r.2.2.1,iv r.2.2.2])∧Bl o w':=by
 refine cm func272 ntmps272 J fun Q x d y z=>?_
 unfold M0 at p
 refine Al fun _ aa=>CV J y z fun b2 w3 _ ab ac=>CV J ab ac fun b7 w8 _ ad ae=>EE Bt J ad ae fun q a3 _ af ag=>EE Bt J af ag fun s a4 _ ah m=>An 2 J<|aa<|Al fun _ ai=>Bp Gm J<|Bp CY J<|AU 3 A9 J m J J<|Bp Gm J<|Bp CY J<|AU 2 A9 J m J J<|wp 1 J<|Bp Gm J<|Bp CX J<|AU 3 A9 J m J J<|Bp Gm J<|Bp CX J<|AU 2 A9 J m J J<|wp 1 J<|DS (zs:=[iv 0,iv 0]) (out:=[iv (Ah (a.1.1-b.1.1)),iv (Ah (a.1.2-b.1.2))]) (vs:=[iv (Ah (a.1.1-b.1.1)),iv (Ah (a.1.2-b.1.2))]) (css:=[[iv (Ah (a.1.1-b.1.1))],[iv (Ah (a.1.2-b.1.2))]]) Bt MQ J J J J J<|EE Bt J ah m fun l a5 _ aj ak=>GC 0 Bt J J aj ak J J J fun a6 _ al k=>Ai<|ai<|Al fun _ am=>Bp He J<|Bp CY J<|AU 4 A9 J k J J<|Bp He J<|Bp CY J<|AU 3 A9 J k J J<|wp 1 J<|Bp CY J<|AU 0 A9 J k J J<|wp 1 J<|Bp He J<|Bp CX J<|AU 4 A9 J k J J<|Bp He J<|Bp CX J<|AU 3 A9 J k J J<|wp 1 J<|Bp CX J<|AU 0 A9 J k J J<|wp 1 J<|DS (zs:=[iv 0,iv 0]) (out:=[iv (Ah ((Ah (a.2.1.1-b.2.1.1))-(Ah (a.1.1-b.1.1)))),iv (Ah ((Ah (a.2.1.2-b.2.1.2))-(Ah (a.1.2-b.1.2))))]) (vs:=[iv (Ah ((Ah (a.2.1.1-b.2.1.1))-(Ah (a.1.1-b.1.1)))),iv (Ah ((Ah (a.2.1.2-b.2.1.2))-(Ah (a.1.2-b.1.2))))]) (css:=[[iv (Ah ((Ah (a.2.1.1-b.2.1.1))-(Ah (a.1.1-b.1.1))))],[iv (Ah ((Ah (a.2.1.2-b.2.1.2))-(Ah (a.1.2-b.1.2))))]]) Bt MQ J J J J J<|EE Bt J al k fun g a7 _ an ao=>GC 0 Bt J J an ao J J J fun a8 _ ap aq=>Ai<|am<|Ao fun _ ar=>AQ B1 ([s]++[q]) ap aq fun au _ av c=>?_
 have f:=KeepX.refl au ([s]++[q])
 refine Ad 0 J d f<|CN 1 Bt J c J (fun hb=>(AV.1 hb).elim (c.disj (i:=1) (j:=2) J J J l (by simp [Av])) (c.disj (i:=1) (j:=3) J J J l (by simp [Av])))<|Ad 1 J d f<|CN 0 Bt J c J (fun hb=>(AV.1 hb).elim (c.disj (i:=0) (j:=2) J J J g (by simp [Av])) (c.disj (i:=0) (j:=3) J J J g (by simp [Av])))<|Ad 2 J d f<|C7 CY J<|Ad 3 J d f<|CN 1 A9 J c J (fun hb=>(AV.1 hb).elim (c.disj (i:=1) (j:=2) J J J l (by simp [Av])) (c.disj (i:=1) (j:=3) J J J l (by simp [Av])))<|Ad 4 J d f<|C7 CY J<|Ad 5 J d f<|CN 0 A9 J c J (fun hb=>(AV.1 hb).elim (c.disj (i:=0) (j:=2) J J J g (by simp [Av])) (c.disj (i:=0) (j:=3) J J J g (by simp [Av])))<|Ad 6 J d f<|Ks J J J<|Ad 7 J d f<|C7 CX J<|Ad 8 J d f<|CN 1 A9 J c J (fun hb=>(AV.1 hb).elim (c.disj (i:=1) (j:=2) J J J l (by simp [Av])) (c.disj (i:=1) (j:=3) J J J l (by simp [Av])))<|Ad 9 J d f<|C7 CX J<|Ad 10 J d f<|CN 0 A9 J c J (fun hb=>(AV.1 hb).elim (c.disj (i:=0) (j:=2) J J J g (by simp [Av])) (c.disj (i:=0) (j:=3) J J J g (by simp [Av])))<|Ad 11 J d f<|Ks J J J<|Ad 12 J d f<|Fj J J J<|Ad 13 J d f<|C7 CY J<|Ad 14 J d f<|CN 0 A9 J c J (fun hb=>(AV.1 hb).elim (c.disj (i:=0) (j:=2) J J J g (by simp [Av])) (c.disj (i:=0) (j:=3) J J J g (by simp [Av])))<|Ad 15 J d f<|C7 CY J<|Ad 16 J d f<|CN 0 A9 J c J (fun hb=>(AV.1 hb).elim (c.disj (i:=0) (j:=2) J J J g (by simp [Av])) (c.disj (i:=0) (j:=3) J J J g (by simp [Av])))<|Ad 17 J d f<|Ks J J J<|Ad 18 J d f<|C7 CX J<|Ad 19 J d f ?_
 refine CN 0 A9 J c J (fun hb=>(AV.1 hb).elim (c.disj (i:=0) (j:=2) J J J g (by simp [Av])) (c.disj (i:=0) (j:=3) J J J g (by simp [Av])))<|Ad 20 J d f<|C7 CX J<|Ad 21 J d f<|CN 0 A9 J c J (fun hb=>(AV.1 hb).elim (c.disj (i:=0) (j:=2) J J J g (by simp [Av])) (c.disj (i:=0) (j:=3) J J J g (by simp [Av])))<|Ad 22 J d f<|Ks J J J<|Ad 23 J d f<|Fj J J J<|A1 24 J<|GC 3 Bt J J av c J J J fun a9 t aw ax=>?_
 have u:=f.wr' t.1 t.2.1 (fun _ _ h=>Bm _ h)
 refine Ai<|Ar u<|A1 25 J<|GC 2 Bt J J aw ax J J J fun ba v ay w=>?_
 have n:=u.wr' v.1 v.2.1 (fun _ _ h=>Ax _ (h))
 refine Ai<|Ar n<|Ad 26 J d n<|AD J J<|Ad 27 J d n<|AD J J<|Bc<|ar<|Aw ?_
 obtain rfl:=Option.some.inj p
 exact JU (vs:=[.agg #[iv (Ah (a.1.1-b.1.1)),iv (Ah (a.1.2-b.1.2))],.agg #[iv (Ah ((Ah (a.2.1.1-b.2.1.1))-(Ah (a.1.1-b.1.1)))),iv (Ah ((Ah (a.2.1.2-b.2.1.2))-(Ah (a.1.2-b.1.2))))],iv (Ah ((Ah ((Ah (a.1.1-b.1.1))*(Ah ((Ah (a.2.1.1-b.2.1.1))-(Ah (a.1.1-b.1.1))))))+(Ah ((Ah (a.1.2-b.1.2))*(Ah ((Ah (a.2.1.2-b.2.1.2))-(Ah (a.1.2-b.1.2)))))))),iv (Ah ((Ah ((Ah ((Ah (a.2.1.1-b.2.1.1))-(Ah (a.1.1-b.1.1))))*(Ah ((Ah (a.2.1.1-b.2.1.1))-(Ah (a.1.1-b.1.1))))))+(Ah ((Ah ((Ah (a.2.1.2-b.2.1.2))-(Ah (a.1.2-b.1.2))))*(Ah ((Ah (a.2.1.2-b.2.1.2))-(Ah (a.1.2-b.1.2))))))))]) x J ⟨HL (i:=3) Bt J w J J J,HL (i:=2) Bt J w J J J,Kr J,Kr J,trivial⟩ ⟨rfl,ay⟩
theorem Z5(h:Af)(i j r:Int)(b:NI i j=some r) :
  A2 274 [iv i,iv j] h fun e w'=>e=.returned (iv r)∧Bl h w':=by
 refine cm func274 ntmps274 J fun Q s c t u=>?_
 unfold NI at b
 refine Am 1 J<|Al fun _ v=>wp 3 J<|QS J J J<|wp 3 J<|QS J J J<|An 2 J<|v<|Ao fun _ w=>A0<|AN (fun m a o=>∃(l d:Int),St 20 [(0,iv l),(1,iv d)] a∧Bl h o∧Sp h o []∧HF m l d=some r) FU ?_ ?_
 exact fun a ha=>⟨Gj i (Ah (0-i)),Gj j (Ah (0-j)),ha.sb J,t,u.sel [] J,b⟩
 rintro g a o ⟨l,d,ha,p,x,b⟩ ad y
 refine BC ?_ ha
 cases g with
 | zero=>exact Be b
 | succ g =>
  obtain ⟨ae,q⟩:∃ k,k=HF g:=⟨_,rfl⟩
  rw [HF,← q] at b
  refine Ao fun _ z=>Am 2 J<|A3 J b (fun _ b=>?_)<|fun _ b=>?_
  refine Au<|z ?_
  refine A0<|AQ B1 [] p x fun aa _ ab ac=>?_
  have f:=KeepX.refl aa []
  refine Ay 0 J c f<|Ay 1 J c f<|Ay 2 J c f ?_
  have n:d≠0:=fun n=>Be (Bw n b)
  replace b:=Md n b
  refine Ad 3 J c f<|Vo J J J n<|Ad 4 J c f<|AD J J<|Ad 5 J c f<|AD J J<|Bc ?_
  rw [q] at b
  exact fun a ha=>y a _ g (AB g) ⟨d,Int.tmod l d,ha.sb J,ab,ac.sel [] J,b⟩
  refine Bb<|w ?_
  refine Am 2 J<|Aw<|rt s J J<|by cases b; exact ⟨rfl,p⟩
theorem Mo(g:Af)(h i:Int)(r:Int×Int)(a:Gy h i=some r) :
  A2 261 [iv h,iv i] g fun e w'=>e=.returned (.tuple #[iv r.1,iv r.2])∧Bl g w':=by
 refine cm func261 ntmps261 J fun Q k b l m=>?_
 unfold Gy at a
 refine Am 2 J<|Al fun _ n=>wp 2 J<|bB a fun j o a=>Bn J call274 l m (Z5 g h i _ o) J fun v _ p q=>An 1 J<|n<|Ao fun _ s=>AQ B1 [] p q fun t _ u _=>?_
 have c:=KeepX.refl t []
 refine Ay 0 J b c<|Ay 1 J b c ?_
 have d:j≠0:=fun d=>Be (Bw d a)
 replace a:=Md d a
 refine Ad 2 J b c<|Nx J J J d<|Ay 3 J b c<|Ay 4 J b c ?_
 have f:j≠0:=fun f=>Be (Bw f a)
 replace a:=Md f a
 refine Ad 5 J b c<|Nx J J J f<|Ad 6 J b c<|AD J J<|Ad 7 J b c<|AD J J<|Bc<|s<|Aw<|rt k J J<|by cases a; exact ⟨rfl,u⟩
theorem TR(j:Af)(d f:Aki)(r:Int×Int)(a:Jm d f=some r) :
  A2 256 [.agg #[iv d.1.1,iv d.1.2,iv d.2.1.1,iv d.2.1.2,iv d.2.2],.agg #[iv f.1.1,iv f.1.2,iv f.2.1.1,iv f.2.1.2,iv f.2.2]] j fun e w'=>e=.returned (.tuple #[iv r.1,iv r.2])∧Bl j w':=by
 refine cm func256 ntmps256 J fun Q g hP l m=>?_
 unfold Jm at a
 refine Al fun _ n=>CV J l m fun b2 w3 _ o p=>CV J o p fun b7 q _ s h=>An 2 J<|n<|Al fun _ t=>AU 1 C8 J h J J<|AU 0 C8 J h J J<|bB a fun c u a=>Bn J call272 s h (Xb q d f _ u) J fun au _ v w=>wp 5 J<|EE Bt J v w fun av aw _ x y=>EE Bt J x y fun ax ay _ z aa=>GC 1 Bt J J z aa J J J fun az _ ab ac=>GC 0 Bt J J ab ac J J J fun k _ i b=>An 2 J<|t<|Ao fun _ ad=>A0<|Am 3 J<|A3 J a (fun _ a=>?_)<|fun _ a=>?_
 refine Al fun _ ae=>?_
 refine Bp CY J<|AU 1 A9 J b J J<|Bp CY J<|AU 1 A9 J b J J<|wp 1 J<|Bp CX J<|AU 1 A9 J b J J<|Bp CX J<|AU 1 A9 J b J J<|An 4 J<|ae<|Aw<|rt g J J<|by cases a; exact ⟨rfl,i⟩
 refine Am 5 J ?_
 refine A3 J a (fun _ a=>?_)<|fun _ a=>?_
 refine Al fun _ af=>?_
 refine Bp He J<|AU 3 Bt J b J J<|Bp He J<|AU 2 Bt J b J J<|bB a fun a0 ag a=>A7 J call183 (HK k d.2.1 f.2.1 _ ag) J ?_
 rintro _ a1 ⟨rfl,ah⟩
 refine ⟨_,rfl,?_⟩
 have ai:=tm i ah
 refine An 2 J<|af<|Aw<|rt g J J<|by cases a; exact ⟨rfl,ai⟩
 refine Au<|ad ?_
 refine Al fun _ aj=>Bp CY J<|AU 1 A9 J b J J<|Bp CX J<|AU 0 A9 J b J J<|wp 1 J<|Bp CX J<|AU 1 A9 J b J J<|Bp CY J<|AU 0 A9 J b J J<|An 3 J<|aj<|Al fun _ ak=>wp 4 J<|bB a fun a2 al a=>A7 J call261 (Mo k (Ah ((Ah ((Ah (c.1.1*c.2.1.2))-(Ah (c.1.2*c.2.1.1))))*(Ah ((Ah (c.1.1*c.2.1.2))-(Ah (c.1.2*c.2.1.1)))))) c.2.2.2 _ al) J ?_
 rintro _ a3 ⟨rfl,am⟩
 refine ⟨_,rfl,?_⟩
 have an:=tm i am
 refine An 4 J<|ak<|Aw<|rt g J J<|by cases a; exact ⟨rfl,an⟩
theorem UK(d:Af)(a b:Aki)(f:Int)(r:Bool)(c:JJ a b f=some r) :
  A2 237 [.agg #[iv a.1.1,iv a.1.2,iv a.2.1.1,iv a.2.1.2,iv a.2.2],.agg #[iv b.1.1,iv b.1.2,iv b.2.1.1,iv b.2.1.2,iv b.2.2],iv f] d fun e w'=>e=.returned (.bool r)∧Bl d w':=by
 refine cm func237 ntmps237 J fun Q h u i j=>?_
 unfold JJ at c
 refine Al fun _ k=>CV J i j fun v w _ l m=>CV J l m fun x n _ o g=>An 1 J<|k<|Al fun _ p=>AU 1 C8 J g J J<|AU 0 C8 J g J J<|bB c fun y q c=>A7 J call256 (TR n a b _ q) J ?_
 rintro _ z ⟨rfl,s⟩
 refine ⟨_,rfl,?_⟩
 have t:=tm o s
 refine An 5 J<|p<|Am 8 J<|Aw<|rt h J J<|by cases c; exact ⟨rfl,t⟩
theorem RU(d:Af)(n:Akg×Akg×Int×List Int)(ac:Ac)(a3:RO At d ac n.1)(ad:Ac)(a4:RO At d ad n.2.1)(ae:Ac)(a5:RO As d ae n.2.2.2)(f:Int)(r:Akl)(b:HH n f=some r) :
  A2 215 [.agg #[ac,ad,iv n.2.2.1,ae],iv f] d fun e w'=>∃(q0:Ac)(G0:Ap),e=.returned q0∧Bl d w'∧Sp d w' [Ab Ct G0 q0 r]:=by
 refine cm func215 ntmps215 J fun Q hQ g hB hS=>?_
 unfold HH at b
 refine Al fun _ ba=>CV J hB hS fun b2 w3 _ v am=>An 1 J<|ba<|Al fun _ bc=>AU 0 Bs J am J J<|bB b fun u8 bd b=>Ds J call219 v am (Oo w3 n ac (a3.ro v) ad (a4.ro v) ae (a5.ro v) _ bd) J fun o af co _ _ be bf=>VY (e:=Ct) underlying155 J be bf fun bg bh cp _ bi an=>An 2 J<|bc<|Ao fun _ bj=>Al fun _ bk=>wp 1 J<|BO (an.own_ro (i:=1) J) underlying184 J<|An 1 J<|bk<|A0<|AN (fun m a ag=>∃(w:Akl)(c:Int)(p:Ac)(x:Ap),St 44 [(1,iv f),(5,o),(6,p),(13,iv (List.length u8:Int)),(14,iv c)] a∧Bl d ag∧Sp d ag [Ab CF af o u8,Ab Ct x p w]∧DL u8 f m w c=some r) FU ?_ ?_
 exact fun a ha=>⟨[],0,bg,bh,ha.sb J,bi,an.sel [1,0] J,b⟩
 rintro q a ag ⟨w,c,p,x,ha,ao,ap,b⟩ cq bl
 refine BC ?_ ha
 cases q with
 | zero=>exact Be b
 | succ q =>
  obtain ⟨aq,ar⟩:∃ k,k=DL u8 f q:=⟨_,rfl⟩
  rw [DL,← ar] at b
  refine Am 1 J<|Ao fun _ bm=>A3 J b (fun _ b=>?_)<|fun _ b=>?_
  refine Au<|bm ?_
  refine Ao fun _ bn=>A0<|Am 2 J<|Am 3 J<|A0<|AN (fun m a ah=>∃(s:Akl)(j:Int)(t:Ac)(y:Ap),St 44 [(1,iv f),(5,o),(6,t),(7,iv c),(8,iv j),(13,iv (List.length u8:Int)),(14,iv c)] a∧Bl d ah∧Sp d ah [Ab CF af o u8,Ab Ct y t s]∧DK u8 c f aq m s j=some r) FU ?_ ?_
  exact fun a ha=>⟨w,Ah (c+1),p,x,ha.sb J,ao,ap.sel [0,1] J,b⟩
  rintro u a ah ⟨s,j,t,y,ha,au,ai,b⟩ cr bo
  refine BC ?_ ha
  cases u with
  | zero=>exact Be b
  | succ u =>
   obtain ⟨cs,av⟩:∃ k,k=DK u8 c f aq u:=⟨_,rfl⟩
   rw [DK,← av] at b
   refine Ao fun _ bp=>Al fun _ bq=>wp 2 J<|BO (ai.own_ro (i:=0) J) underlying184 J<|An 1 J<|bq<|A3 J b (fun _ b=>?_)<|fun _ b=>?_
   refine Au<|bp ?_
   refine Ao fun br bs=>?_
   obtain ⟨bt,bu,b⟩:=Cb b
   have aw:∀(z:Akl)(aa:Ac)(aj:Ap)(ab:Af)(_:bt z=some r)(_:Bl d ab)(_:Sp d ab [Ab CF af o u8,Ab Ct aj aa z]),∀ a,St 44 [(1,iv f),(5,o),(6,aa),(7,iv c),(8,iv j),(13,iv (List.length u8:Int)),(14,iv c)] a→br a ab:=by
    intro z aa aj ab b bv bw
    subst bu
    refine bs<|Aq<|An 3 J ?_
    rw [av] at b
    exact fun a ha=>bo a _ u (AB u) ⟨z,Ah (j+1),aa,aj,ha.sb J,bv,bw.sel [0,1] J,b⟩
   refine A0<|Ao fun _ bx=>AQ B1 [] au ai fun ax _ bz ak=>?_
   have h:=KeepX.refl ax []
   refine Ay 0 J g h<|Ay 1 J g h<|bB b fun b0 b1 b=>Ad 2 J g h<|Bx (e:=CF) (i:=0) underlying184 J J J ak J b1 ?_
   rintro ct _ rfl b3 cu
   refine Ad 3 J g h<|BR C8 J (b3.kx0) J<|Ay 4 J g h<|Ay 5 J g h<|bB b fun b4 b5 b=>Ad 6 J g h<|Bx (e:=CF) (i:=0) underlying184 J J J ak J b5 ?_
   rintro cv _ rfl b6 cw
   refine Ad 7 J g h<|BR C8 J (b6.kx0) J<|Ay 8 J g h<|A1 9 J<|bB b fun cx b7 b=>Bn J call237 bz ak (UK ax b0 b4 f _ b7) J fun cy b8 ay az=>?_
   have a0:=h.ext b8
   refine Ai<|Ar a0<|Ad 10 J g a0<|LZ J J<|Bc<|bx<|A3 J b (fun _ b=>?_)<|fun _ b=>?_
   refine Aq ?_
   refine wp 3 J<|AZ (vs:=[iv c,iv j]) (l:=[c,j]) Cl underlying36 J J J J J J ay az fun a1 b9 cz _ ca a2=>?_
   have cb:=a2.sel [0,1,2] J
   have cc:=cb.head (r':=RP Ct b9 [a1] [c,j]) (rfl) fun _ h0=>⟨_,rfl,h0⟩
   refine Pn (e:=Ct) (vs:=[a1]) underlying155 J J (Ch (a2.own_ro (i:=0) J).one) J ca cc fun c0 c1 c2 _ _ ce cf=>bB b fun cg ch b=>Mq (e:=Ct) underlying155 J J J ce (cf.sel [2,0,1] J) ch fun ci cj c3 _ ck cl=>An 1 J ?_
   exact jx (aw cg ci cj _ b ck (cl.sel [1,0] J)) J
   refine Au ?_
   exact jx (aw s t y _ b ay (az.sel [0,1] J)) J
   refine Bb<|bn ?_
   refine Aq<|An 2 J ?_
   rw [ar] at b
   exact fun a ha=>bl a _ q (AB q) ⟨s,Ah (c+1),t,y,ha.sb J,au,ai.sel [0,1] J,b⟩
  refine Bb<|bj ?_
  refine Am 2 J<|Aw<|rt hQ J J<|by cases b; exact ⟨p,x,rfl,ao,ap.sel [1] J⟩
theorem RW(d:Af)(f:Akg×Akg×Int×List Int)(g:Ac)(p:RO At d g f.1)(h:Ac)(q:RO At d h f.2.1)(i:Ac)(s:RO As d i f.2.2.2)(j:Int)(r:Akl×Bool)(b:HI f j=some r) :
  A2 175 [.agg #[g,h,iv f.2.2.1,i],iv j] d fun e w'=>∃(t:Ac)(G0:Ap),e=.returned (.tuple #[t,.bool r.2])∧Bl d w'∧Sp d w' [Ab Ct G0 t r.1]:=by
 refine cm func175 ntmps175 J fun Q u hP hB hS=>?_
 unfold HI at b
 refine Al fun _ ad=>CV J hB hS fun v w3 _ m w=>An 2 J<|ad<|Ao fun _ af=>Ao fun K8 ah=>?_
 obtain ⟨ai,aj,b⟩:=Cb b
 have x:∀(n:Bool)(k:Af)(_:ai n=some r)(_:Bl d k)(_:Sp d k [Av v 128 [g,h,iv f.2.2.1,i]]),∀ a,St 17 [(1,iv j),(2,.pointer (some ⟨v,0,none⟩)),(13,.bool n)] a→K8 a k:=by
  intro n k b l o
  subst aj
  refine ah<|A3 J b (fun _ b=>?_)<|fun _ b=>?_
  refine Am 2 J ?_
  refine Aw ?_
  have ak:=o.push0 (r:=Ab Ct [] (.slice none 0 0) []) J fun _=>.inl ⟨rfl,rfl,rfl⟩
  refine rt u J J<|by cases b; exact ⟨.slice none 0 0,[],rfl,l,ak.sel [0] J⟩
  refine Au<|af ?_
  refine Al fun _ al=>AU 0 Bs J o J J<|wp 1 J<|bB b fun a1 am b=>Ds J call215 l o (RU k f g (p.ro l) h (q.ro l) i (s.ro l) j _ am) J fun an ao a2 _ _ ap aq=>An 2 J<|al<|Aw<|rt u J J<|by cases b; exact ⟨an,ao,rfl,ap,aq.sel [0] J⟩
 refine Aq<|AU 0 Bs J w J J<|bB b fun ar au b=>Bn J call173 m w (LP w3 f g (p.ro m) h (q.ro m) i (s.ro m) _ au) J fun av _ y z=>wp 2 J ?_
 rcases bE (!ar) with c|c
 replace b:=Bw c b
 refine wo J c<|wo J c<|wo J c<|A8 J J c J<|Ai ?_
 exact jx (x true _ b y (z.sel [0] J)) J
 replace b:=BI c b
 refine wn J c<|wp 1 J<|wn J c<|bB b fun aw ax b=>Bn J call178 y z (Ry av j _ ax) J fun a3 _ ay az=>wn J c<|wp 1 J<|Ak J J c J<|Ai ?_
 exact jx (x (!aw) _ b ay (az.sel [0] J)) J
theorem Pi(f:Af)(s:Tab f)(j:Akg×Akg×Int×Akg×Akh×Akj)(p0:Addr)(af:Ac)(bx:RO At f af j.1)(ag:Ac)(bz:RO At f ag j.2.1)(b0:Ac)(gm:RO BN f b0 j.2.2.2.1)(b1:Ac)(gn:RO A4 f b1 j.2.2.2.2.1)(b2:Ac)(go:RO Cg f b2 j.2.2.2.2.2)(a4:EAt (·<f.heap.size) f p0 [af,ag,iv j.2.2.1,b0,b1,b2])(x1:Int)(r:List Ag)(c:H1 j x1=some r) :
  A2 122 [.pointer (some p0),iv x1] f fun e w'=>e=.returned (.string (AL r))∧Bl f w':=by
 refine cm func122 ntmps122 J fun Q hQ d hB hS=>?_
 unfold H1 at c
 refine Am 1 J<|Ao fun K2 dh=>?_
 obtain ⟨di,dj,c⟩:=jE4 c
 have b3:∀(l7 aj:Akg)(ak:Int)(al:List Int)(v8:Ac)(F9:Ap)(an:Ac)(b5:Ap)(ao:Ac)(b7:Ap)(b6:Nat)(y:Af)(_:di l7 aj ak al=some r)(_:Bl f y)(_:Sp f y [Ab At F9 v8 l7,Ab At b5 an aj,Ab As b7 ao al,Av b6 128 [v8,an,iv ak,ao]]),∀ a,St 62 [(1,iv x1),(5,.pointer (some ⟨b6,0,none⟩))] a→K2 a y:=by
  intro l7 aj ak al v8 F9 an b5 ao b7 b6 y c dk z
  subst dj
  refine dh<|Al fun _ dl=>AU 3 Bs J z J J<|wp 1 J<|bB c fun t dm c=>Ds J call175 dk z (RW y (l7,aj,ak,al) v8 (z.own_ro (i:=0) J) an (z.own_ro (i:=1) J) ao (z.own_ro (i:=2) J) x1 _ dm) J fun ap b8 gp _ _ a7 b9=>An 5 J<|dl<|Ao fun _ dn=>Am 2 J<|A3 J c (fun _ c=>?_)<|fun _ c=>?_
  refine Am 1 J ?_
  refine Aw<|rt hQ J J<|by cases c; exact ⟨rfl,a7⟩
  refine Au<|dn ?_
  refine Ao fun _ dp=>Al fun _ dq=>wp 1 J<|BO (b9.own_ro (i:=0) J) underlying155 J<|An 1 J<|dq<|A3 J c (fun _ c=>?_)<|fun _ c=>?_
  refine Am 1 J ?_
  refine Aw<|rt hQ J J<|by cases c; exact ⟨rfl,a7⟩
  refine Au<|dp ?_
  refine Al fun _ dr=>AZ (vs:=[]) (l:=[]) Gl underlying61 J J J J J J a7 b9 fun ds dt gq _ du ca=>An 1 J<|dr<|Ao fun _ dv=>Al fun _ dw=>wp 1 J<|BO (ca.own_ro (i:=1) J) underlying155 J<|An 1 J<|dw<|A0<|AN (fun m a aq=>∃(ar:List (List Ag))(aa:Int)(au:Ac)(ab:Ap),St 62 [(9,au),(40,ap),(41,iv (List.length t.1:Int)),(42,iv aa)] a∧Bl f aq∧Sp f aq [Ab BK ab au ar,Ab Ct b8 ap t.1]∧CS t m ar aa=some r) FU ?_ ?_
  exact fun a ha=>⟨[],0,ds,dt,ha.sb J,du,ca.sel [0,1] J,c⟩
  rintro ac a aq ⟨ar,aa,au,ab,ha,cb,a8,c⟩ gr dx
  refine BC ?_ ha
  cases ac with
  | zero=>exact Be c
  | succ ac =>
   obtain ⟨gs,cc⟩:∃ k,k=CS t ac:=⟨_,rfl⟩
   rw [CS,← cc] at c
   refine Am 1 J<|Ao fun _ dy=>A3 J c (fun _ c=>?_)<|fun _ c=>?_
   refine Au<|dy ?_
   refine Ao fun dz d0=>?_
   obtain ⟨d1,d2,c⟩:=Cb c
   have a9:∀(av:List (List Ag))(aw:Ac)(ba:Ap)(ax:Af)(_:d1 av=some r)(_:Bl f ax)(_:Sp f ax [Ab BK ba aw av,Ab Ct b8 ap t.1]),∀ a,St 62 [(9,aw),(40,ap),(41,iv (List.length t.1:Int)),(42,iv aa)] a→dz a ax:=by
    intro av aw ba ax c d3 d4
    subst d2
    refine d0<|Aq<|An 2 J ?_
    rw [cc] at c
    exact fun a ha=>dx a _ ac (AB ac) ⟨av,Ah (aa+1),aw,ba,ha.sb J,d3,d4.sel [0,1] J,c⟩
   refine A0<|Al fun _ d5=>bB c fun gt d6 c=>Co (e:=Ct) (i:=1) underlying155 J J J a8 J d6 ?_
   rintro gu _ ⟨gv,rfl,ay⟩ d7 gw
   refine BZ FA J d7 J<|An 1 J<|d5<|AQ B1 ab cb a8 fun u d8 v bb=>?_
   have ay:=ay.ro d8
   have n:=KeepX.refl u ab
   refine Ay 0 J d n<|Ay 1 J d n<|bB c fun bc d9 c=>Ad 2 J d n<|B7 (e:=As) underlying36 J J J ay d9 ?_
   rintro gx _ rfl cd
   refine Ay 6 J d n<|bB c fun bd ea c=>Ad 7 J d n<|B7 (e:=As) underlying36 J J J ay ea ?_
   rintro gy _ rfl be
   refine CA (is:=[3,8]) (by kernel_rfl) J<|Bj.2 ⟨⟨_,rfl,?_⟩,Bj.2 ⟨⟨_,rfl,?_⟩,fun _ h=>by cases h⟩⟩
   refine BZ A9 J cd J ?_
   refine Ai<|Ar n<|CA (is:=[4,8]) (by kernel_rfl) J<|Bj.2 ⟨⟨_,rfl,?_⟩,Bj.2 ⟨⟨_,rfl,?_⟩,fun _ h=>by cases h⟩⟩
   refine bB c fun gz eb c=>?_
   refine Bn J call130 v bb (EZ u (s.st v) bc _ eb) J fun ce cf cg ec=>?_
   have az:=n.ext cf
   have ed:Below u.heap.size u ce:=cf
   refine Ai<|Ar az<|bB c fun g0 ee c=>Ad 5 J d az<|FH J J J ee<|A1 8 J<|BZ A9 J (be.ro ed) J<|Ai<|Ar az<|A1 9 J<|bB c fun g1 ef c=>Bn J call130 cg ec (EZ ce (s.st cg) bd _ ef) J fun eg eh ch ei=>?_
   have bf:=az.ext eh
   refine Ai<|Ar bf<|bB c fun ci ej c=>Ad 10 J d bf<|FH J J J ej<|A1 11 J<|AZ (vs:=[.string (AL ci)]) (l:=[ci]) Gl underlying61 J J J J J J (Bk eg) (Sep.nil _ _) fun g2 g3 ek bg _ el=>?_
   have em:=tm ch bg
   have cj:=ei.join bg el ch.size
   have ck:=bf.ext bg
   refine Ai<|Ar ck<|A1 12 J<|bB c fun en eo c=>AE (i:=1) (S:=(·<ek.heap.size)) Gl underlying61 J J J em cj J (cj.own_ro (i:=0) J) eo fun ep eq g4 cl er es=>?_
   have cn:=ck.wr' cl.1 cl.2.1 (fun _ _ h=>h)
   refine Ai<|Ar cn<|Ad 13 J d cn<|AD J J<|Bc ?_
   exact jx (a9 en ep eq _ c er (es.sel [1,2] J)) J
   refine BZ A9 J be J ?_
   refine Ai<|Ar n<|A1 4 J<|bB c fun g5 et c=>Bn J call130 v bb (EZ u (s.st v) bc _ et) J fun eu ev co ew=>?_
   have bh:=n.ext ev
   refine Ai<|Ar bh<|bB c fun g6 ex c=>Ad 5 J d bh<|FH J J J ex<|A1 9 J<|bB c fun g7 ey c=>Bn J call130 co ew (EZ eu (s.st co) bd _ ey) J fun ez e0 cp e1=>?_
   have bi:=bh.ext e0
   refine Ai<|Ar bi<|bB c fun cq e2 c=>Ad 10 J d bi<|FH J J J e2<|A1 11 J<|AZ (vs:=[.string (AL cq)]) (l:=[cq]) Gl underlying61 J J J J J J (Bk ez) (Sep.nil _ _) fun g8 g9 e3 bj _ e4=>?_
   have e5:=tm cp bj
   have cr:=e1.join bj e4 cp.size
   have cs:=bi.ext bj
   refine Ai<|Ar cs<|A1 12 J<|bB c fun e6 e7 c=>AE (i:=1) (S:=(·<e3.heap.size)) Gl underlying61 J J J e5 cr J (cr.own_ro (i:=0) J) e7 fun e8 e9 hc ct fa fb=>?_
   have cu:=cs.wr' ct.1 ct.2.1 (fun _ _ h=>h)
   refine Ai<|Ar cu<|Ad 13 J d cu<|AD J J<|Bc ?_
   exact jx (a9 e6 e8 e9 _ c fa (fb.sel [1,2] J)) J
   refine BZ A9 J be J ?_
   refine Ai<|Ar n<|A1 3 J<|BZ A9 J cd J<|Ai<|Ar n<|A1 4 J<|bB c fun hd fc c=>Bn J call130 v bb (EZ u (s.st v) bc _ fc) J fun fd fe cv ff=>?_
   have bk:=n.ext fe
   refine Ai<|Ar bk<|bB c fun he fg c=>Ad 5 J d bk<|FH J J J fg<|A1 9 J<|bB c fun hf fh c=>Bn J call130 cv ff (EZ fd (s.st cv) bd _ fh) J fun fi fj cw fk=>?_
   have bl:=bk.ext fj
   refine Ai<|Ar bl<|bB c fun cx fl c=>Ad 10 J d bl<|FH J J J fl<|A1 11 J<|AZ (vs:=[.string (AL cx)]) (l:=[cx]) Gl underlying61 J J J J J J (Bk fi) (Sep.nil _ _) fun hg hh fm bm _ fn=>?_
   have fo:=tm cw bm
   have cy:=fk.join bm fn cw.size
   have cz:=bl.ext bm
   refine Ai<|Ar cz<|A1 12 J<|bB c fun fp fq c=>AE (i:=1) (S:=(·<fm.heap.size)) Gl underlying61 J J J fo cy J (cy.own_ro (i:=0) J) fq fun fr fs hi c0 ft fu=>?_
   have c1:=cz.wr' c0.1 c0.2.1 (fun _ _ h=>h)
   refine Ai<|Ar c1<|Ad 13 J d c1<|AD J J<|Bc ?_
   exact jx (a9 fp fr fs _ c ft (fu.sel [1,2] J)) J
   refine Bb<|dv ?_
   refine Al fun _ fv=>wp 1 J<|bB c fun hj fw c=>A7 J call176 (Rp aq ar au ab (a8.ok (i:=0) J) [32] _ fw) J ?_
   rintro _ hk ⟨rfl,fx⟩
   refine ⟨_,rfl,?_⟩
   have fy:=tm cb fx
   refine An 1 J<|fv<|Aw<|rt hQ J J<|by cases c; exact ⟨rfl,fy⟩
 refine AQ B1 [] hB hS fun q _ p c2=>?_
 have g:=KeepX.refl q []
 refine Ay 0 J d g<|Ad 1 J d g<|B0 J J<|Ad 2 J d g<|CI (o:=1) TA J J<|Ad 3 J d g<|BR Cs J (EAt.addk (a4.kx p (by simp)) 1) J<|Ay 4 J d g<|Ad 5 J d g<|B0 J J<|Ad 6 J d g<|CI (o:=0) Io J J<|Ad 7 J d g<|BR Cs J (EAt.addk (a4.kx p (by simp)) 0) J<|Ay 8 J d g<|Ad 9 J d g<|B0 J J<|Ad 10 J d g<|CI (o:=2) T9 J J<|Ad 11 J d g<|BR A9 J (EAt.addk (a4.kx p (by simp)) 2) J<|CA (is:=[12,16]) (by kernel_rfl) J<|Bj.2 ⟨⟨_,rfl,?_⟩,Bj.2 ⟨⟨_,rfl,?_⟩,fun _ h=>by cases h⟩⟩
 refine bB c fun w fz c=>?_
 refine A7 J call123 (I6 q j.2.1 ag (bz.ro p) j.1 af (bx.ro p) j.2.2.1 _ fz) J ?_
 rintro _ f0 ⟨bn,f1,bo,f2,bp,f3,rfl,a0,f4⟩
 refine ⟨_,rfl,?_⟩
 have c3:=tm p a0
 have f5:=c2.join a0 f4 p.size
 have ad:=g.ext a0
 have f6:=Az (Nat.le_refl q.heap.size) a0.size
 refine Ai<|Ar ad<|Ay 13 J d ad<|Ad 14 J d ad<|Ba J J J<|Ad 15 J d ad<|Ba J J J<|A1 16 J<|EE Bs J (Bk f0) (Sep.nil _ _) fun c4 hl bq _ c5=>?_
 have f7:=tm c3 bq
 have a1:=f5.join bq c5 c3.size
 have f8:∀ b ∈ [c4],q.heap.size≤b:=fun b hb=>Az f6 ((c5.1 _ (List.mem_cons_self ..)).2.1 b hb).1
 have c6:=ad.ext bq
 refine Ai<|Ar c6<|A1 17 J<|BG (i:=0) (vs:=[bn,bo,iv w.1.2.2.1,bp]) (cs':=[bn,bo,iv w.1.2.2.1,bp]) Bs J J J J f7 a1 J J ⟨(a1.own_ro (i:=1) J).one,(a1.own_ro (i:=2) J).one,rfl,(a1.own_ro (i:=3) J).one,trivial⟩ J fun hm c7 f9 ga=>?_
 have c8:=c6.wr' c7.1 c7.2.1 (fun b hlt hb=>absurd hlt (AM.2 (f8 b hb)))
 refine Ai<|Ar c8<|Ad 18 J d c8<|AD J J<|Bc ?_
 exact jx (b3 (w.1.1) (w.1.2.1) (w.1.2.2.1) (w.1.2.2.2) bn f1 bo f2 bp f3 c4 _ c f9 (ga.sel [1,2,3,0] J)) J
 refine EE Bs J (Bk q) (Sep.nil _ _) fun c9 gb br _ da=>?_
 have a2:=tm p br
 have gc:=c2.join br da p.size
 have gd:∀ b ∈ [c9],q.heap.size≤b:=fun b hb=>Az (Nat.le_refl q.heap.size) ((da.1 _ (List.mem_cons_self ..)).2.1 b hb).1
 have db:=g.ext br
 refine Ai<|Ar db<|A1 12 J<|bB c fun x ge c=>A7 J call123 (I6 gb j.2.1 ag (bz.ro a2) j.1 af (bx.ro a2) j.2.2.1 _ ge) J ?_
 rintro _ hn ⟨bs,gf,bt,gg,bu,gh,rfl,bv,gi⟩
 refine ⟨_,rfl,?_⟩
 have gj:=tm a2 bv
 have a3:=gc.join bv gi a2.size
 have ae:=db.ext bv
 refine Ai<|Ar ae<|Ay 13 J d ae<|Ad 14 J d ae<|Ba J J J<|Ad 15 J d ae<|Ba J J J<|A1 17 J<|BG (i:=3) (vs:=[bs,bt,iv x.1.2.2.1,bu]) (cs':=[bs,bt,iv x.1.2.2.1,bu]) Bs J J J J gj a3 J J ⟨(a3.own_ro (i:=0) J).one,(a3.own_ro (i:=1) J).one,rfl,(a3.own_ro (i:=2) J).one,trivial⟩ J fun ho dc gk gl=>?_
 have dd:=ae.wr' dc.1 dc.2.1 (fun b hlt hb=>absurd hlt (AM.2 (gd b hb)))
 refine Ai<|Ar dd<|Ad 18 J d dd<|AD J J<|Bc ?_
 exact jx (b3 (x.1.1) (x.1.2.1) (x.1.2.2.1) (x.1.2.2.2) bs gf bt gg bu gh c9 _ c gk (gl.sel [0,1,2,3] J)) J
theorem TS(g:Af)(f:Akg×Akg×Int×List Int)(k:Ac)(q:RO At g k f.1)(l:Ac)(t:RO At g l f.2.1)(m:Ac)(u:RO As g m f.2.2.2)(r:Bool)(b:KP f=some r) :
  A2 177 [.agg #[k,l,iv f.2.2.1,m]] g fun e w'=>e=.returned (.bool r)∧Bl g w':=by
 refine cm func177 ntmps177 J fun Q v hP w x=>?_
 unfold KP at b
 refine Al fun _ y=>CV J w x fun b2 z _ i s=>An 1 J<|y<|Ao fun K7 ab=>?_
 obtain ⟨ac,ad,b⟩:=Cb b
 have n:∀(o:Bool)(j:Af)(_:ac o=some r)(_:Bl g j)(_:Sp g j []),∀ a,St 16 [(2,.bool o)] a→K7 a j:=by
  intro o j b ae aj
  subst ad
  refine ab<|Aw<|rt v J J<|by cases b; exact ⟨rfl,ae⟩
 refine Aq<|AU 0 Bs J s J J<|bB b fun af ag b=>Bn J call173 i s (LP z f k (q.ro i) l (t.ro i) m (u.ro i) _ ag) J fun ak _ p h=>wp 1 J ?_
 rcases bE af with d|d
 replace b:=Bw d b
 refine wn J d<|Bp Me J<|wn J d<|AU 0 A9 J h J J<|wn J d<|wp 1 J<|A8 J J d J<|wp 1 J ?_
 rcases bE (decide (f.2.2.1≤16)) with c|c
 replace b:=Bw c b
 refine wn J c<|Bp EX J<|wn J c<|AU 0 Cs J h J J<|wn J c<|BO q underlying26 J<|wn J c<|wp 1 J<|A8 J J c J<|An 1 J ?_
 exact jx (n (decide ((List.length f.1:Int)≤6)) _ b p (h.sel [] J)) J
 replace b:=BI c b
 refine wo J c<|wo J c<|wo J c<|wo J c<|Ak J J c J<|An 1 J ?_
 exact jx (n false _ b p (h.sel [] J)) J
 replace b:=BI d b
 refine wo J d<|wo J d<|wo J d<|Ak J J d J<|wp 1 J<|wo J J<|wo J J<|wo J J<|wo J J<|Ak J J J J<|An 1 J ?_
 exact jx (n false _ b p (h.sel [] J)) J
theorem On(f:Af)(d:Aki)(g:Int)(r:Int×Int)(h:G8 d g=some r) :
  A2 258 [.agg #[iv d.1.1,iv d.1.2,iv d.2.1.1,iv d.2.1.2,iv d.2.2],iv g] f fun e w'=>e=.returned (.tuple #[iv r.1,iv r.2])∧Bl f w':=by
 refine cm func258 ntmps258 J fun Q i a j k=>?_
 unfold G8 at h
 refine Al fun _ l=>CV J j k fun s t _ m n=>An 2 J<|l<|Ao fun _ o=>AQ B1 [] m n fun p _ q c=>?_
 have b:=KeepX.refl p []
 refine Ad 0 J a b<|C7 Gm J<|Ad 1 J a b<|C7 CY J<|Ad 2 J a b<|CN 0 A9 J c J (by simp)<|Ad 3 J a b<|C7 IV J<|Ad 4 J a b<|CN 0 A9 J c J (by simp)<|Ad 5 J a b<|Ks J J J<|Ay 6 J a b<|Ad 7 J a b<|C7 He J<|Ad 8 J a b<|C7 CY J<|Ad 9 J a b<|CN 0 A9 J c J (by simp)<|Ad 10 J a b<|C7 Gm J<|Ad 11 J a b<|C7 CY J<|Ad 12 J a b<|CN 0 A9 J c J (by simp)<|Ad 13 J a b<|H6 J J J<|Ad 14 J a b<|Ks J J J<|Ad 15 J a b<|Fj J J J<|Ad 16 J a b<|C7 Gm J<|Ad 17 J a b<|C7 CX J<|Ad 18 J a b<|CN 0 A9 J c J (by simp)<|Ad 19 J a b<|C7 IV J<|Ad 20 J a b<|CN 0 A9 J c J (by simp)<|Ad 21 J a b<|Ks J J J<|Ay 22 J a b<|Ad 23 J a b<|C7 He J<|Ad 24 J a b<|C7 CX J<|Ad 25 J a b<|CN 0 A9 J c J (by simp)<|Ad 26 J a b<|C7 Gm J<|Ad 27 J a b<|C7 CX J<|Ad 28 J a b<|CN 0 A9 J c J (by simp)<|Ad 29 J a b<|H6 J J J<|Ad 30 J a b<|Ks J J J<|Ad 31 J a b<|Fj J J J<|Ad 32 J a b<|AD J J<|Ad 33 J a b<|AD J J<|Bc<|o<|Aw<|rt i J J<|by cases h; exact ⟨rfl,q⟩
theorem NU(f:Af)(a:Aki)(c d:Int)(r:Int×Int)(b:GR a c d=some r) :
  A2 259 [.agg #[iv a.1.1,iv a.1.2,iv a.2.1.1,iv a.2.1.2,iv a.2.2],iv c,iv d] f fun e w'=>e=.returned (.tuple #[iv r.1,iv r.2])∧Bl f w':=by
 refine cm func259 ntmps259 J fun Q h s i j=>?_
 unfold GR at b
 refine Al fun _ k=>CV J i j fun t l _ m g=>An 2 J<|k<|Al fun _ n=>AU 0 C8 J g J J<|wp 3 J<|QS J J J<|Bp IV J<|AU 0 A9 J g J J<|UU J J J<|bB b fun u8 o b=>A7 J call258 (On l a (Fq (Gj (Ah (d-c)) 0) a.2.2) _ o) J ?_
 rintro _ u ⟨rfl,p⟩
 refine ⟨_,rfl,?_⟩
 have q:=tm m p
 refine An 4 J<|n<|Aw<|rt h J J<|by cases b; exact ⟨rfl,q⟩
theorem Tq(a:Af)(b c:Int)(r:Int×Int)(d:Lk b c=some r) :
  A2 273 [.int .u64 b,.int .u64 c] a fun e w'=>e=.returned (.tuple #[.int .u64 r.1,.int .u64 r.2])∧Bl a w':=by
 refine cm func273 ntmps273 J fun Q f p g _=>?_
 unfold Lk at d
 refine Am 2 J<|Al fun _ h=>wp 1 J<|Je J J J<|An 1 J<|h<|Al fun _ i=>wp 1 J<|GB J J J J<|An 1 J<|i<|Al fun _ j=>wp 1 J<|Je J J J<|An 1 J<|j<|Al fun _ k=>wp 1 J<|GB J J J J<|An 1 J<|k<|Am 4 J<|Al fun _ l=>wp 4 J<|GB J J J J<|An 2 J<|l<|Al fun _ m=>wp 1 J<|Je J J J<|An 1 J<|m<|Al fun _ n=>wp 1 J<|GB J J J J<|An 1 J<|n<|Am 6 J<|Al fun _ o=>wp 6 J<|GB J J J J<|An 2 J<|o<|Am 4 J<|Aw<|rt f J J<|by cases d; exact ⟨rfl,g⟩
theorem Ss(f:Af)(h i j k:Int)(r:Bool)(b:Gb h i j k=some r) :
  A2 260 [iv h,iv i,iv j,iv k] f fun e w'=>e=.returned (.bool r)∧Bl f w':=by
 refine cm func260 ntmps260 J fun Q s hP t u=>?_
 unfold Gb at b
 refine Am 1 J<|Al fun _ v=>wp 1 J<|DR underlying3 underlying89 J J<|wp 1 J<|DR underlying3 underlying89 J J<|bB b fun l w b=>Bn J call273 t u (Tq f (Bi h) (Bi k) _ w) J fun x _ y z=>An 5 J<|v<|Al fun _ aa=>wp 1 J<|DR underlying3 underlying89 J J<|wp 1 J<|DR underlying3 underlying89 J J<|bB b fun m ab b=>Bn J call273 y z (Tq x (Bi j) (Bi i) _ ab) J fun ai _ n o=>An 5 J<|aa<|Ao fun ac ad=>?_
 obtain ⟨ae,af,b⟩:=Cb b
 have p:∀(q:Bool)(g:Af)(_:ae q=some r)(_:Bl f g)(_:Sp f g []),∀ a,St 42 [(8,.bool q)] a→ac a g:=by
  intro q g b ag aj
  subst af
  refine ad<|Aw<|rt s J J<|by cases b; exact ⟨rfl,ag⟩
 refine Aq<|wp 4 J ?_
 rcases bE (decide (l.1<m.1)) with c|c
 replace b:=Bw c b
 refine wo J c<|wo J c<|wo J c<|wo J c<|D5 J J J<|D5 J J J<|D5 J J J<|wo J c<|A8 J J c J<|An 1 J ?_
 exact jx (p true _ b n (o.sel [] J)) J
 replace b:=BI c b
 refine wn J c<|wp 1 J<|wn J c<|wp 1 J<|wn J c<|wp 1 J<|wn J c<|wp 1 J ?_
 rcases bE (l.1==m.1) with d|d
 replace b:=Bw d b
 refine wn J d<|wp 1 J<|wn J d<|wp 1 J<|wn J d<|wp 1 J<|wn J c<|A8 J J d J<|Ak J J c J<|An 1 J ?_
 exact jx (p (decide (l.2<m.2)) _ b n (o.sel [] J)) J
 replace b:=BI d b
 refine wo J d<|wo J d<|wo J d<|wn J c<|Ak J J d J<|Ak J J c J<|An 1 J ?_
 exact jx (p false _ b n (o.sel [] J)) J
theorem Su(l:Af)(f g:Aki)(n o:Int)(r:Int×Int)(b:GT f g n o=some r) :
  A2 239 [.agg #[iv f.1.1,iv f.1.2,iv f.2.1.1,iv f.2.1.2,iv f.2.2],.agg #[iv g.1.1,iv g.1.2,iv g.2.1.1,iv g.2.1.2,iv g.2.2],iv n,iv o] l fun e w'=>e=.returned (.tuple #[iv r.1,iv r.2])∧Bl l w':=by
 refine cm func239 ntmps239 J fun Q hQ hP hB hS=>?_
 unfold GT at b
 refine Al fun _ a3=>CV J hB hS fun q w3 _ a4 a5=>CV J a4 a5 fun s w8 _ a7 ai=>An 2 J<|a3<|Al fun _ a8=>AU 1 C8 J ai J J<|bB b fun v a9 b=>Bn J call258 a7 ai (On w8 f 0 _ a9) J fun ba _ bb aj=>An 5 J<|a8<|Al fun _ bc=>AU 0 C8 J aj J J<|bB b fun w bd b=>Bn J call258 bb aj (On ba g 0 _ bd) J fun cn _ be bf=>An 5 J<|bc<|Am 8 J<|Am 9 J<|Ao fun _ bg=>Am 1 J<|A0<|AN (fun m a x=>∃(h i t u p:Int),St 161 [(2,iv n),(3,iv o),(4,.pointer (some ⟨q,0,none⟩)),(5,.pointer (some ⟨s,0,none⟩)),(14,iv h),(15,iv i),(16,iv t),(17,iv u),(18,iv p)] a∧Bl l x∧Sp l x [Av q 187 [iv f.1.1,iv f.1.2,iv f.2.1.1,iv f.2.1.2,iv f.2.2],Av s 187 [iv g.1.1,iv g.1.2,iv g.2.1.1,iv g.2.1.2,iv g.2.2]]∧CC f n o g m h i t u p=some r) FU ?_ ?_
 exact fun a ha=>⟨Ah (v.1-w.1),Ah (v.2-w.2),Ah ((Ah ((Ah (v.1-w.1))*(Ah (v.1-w.1))))+(Ah ((Ah (v.2-w.2))*(Ah (v.2-w.2))))),1,1,ha.sb J,be,bf.sel [1,0] J,b⟩
 rintro y a x ⟨h,i,t,u,p,ha,ak,ac,b⟩ co bh
 refine BC ?_ ha
 cases y with
 | zero=>exact Be b
 | succ y =>
  obtain ⟨cp,al⟩:∃ k,k=CC f n o g y:=⟨_,rfl⟩
  rw [CC,← al] at b
  refine Ao fun _ bi=>Al fun _ bj=>wp 1 J<|Bp IV J<|AU 0 A9 J ac J J<|wp 2 J<|QS J J J<|An 2 J<|bj<|A3 J b (fun _ b=>?_)<|fun _ b=>?_
  refine Au<|bi ?_
  refine Ao fun _ bk=>A0<|Al fun _ bl=>AU 0 C8 J ac J J<|wp 2 J<|bB b fun c bm b=>Bn J call259 ak ac (NU x f n p _ bm) J fun bn _ bo am=>An 5 J<|bl<|Al fun _ bp=>AU 1 C8 J am J J<|wp 2 J<|bB b fun d bq b=>Bn J call259 bo am (NU bn g o p _ bq) J fun cq _ an ao=>An 5 J<|bp<|Am 12 J<|Am 16 J<|Am 17 J<|Ao fun br bs=>?_
  obtain ⟨bt,bu,b⟩:=Np b
  have ap:∀(z aa:Int)(ab:Af)(_:bt z aa=some r)(_:Bl l ab)(_:Sp l ab [Av q 187 [iv f.1.1,iv f.1.2,iv f.2.1.1,iv f.2.1.2,iv f.2.2],Av s 187 [iv g.1.1,iv g.1.2,iv g.2.1.1,iv g.2.1.2,iv g.2.2]]),∀ a,St 161 [(2,iv n),(3,iv o),(4,.pointer (some ⟨q,0,none⟩)),(5,.pointer (some ⟨s,0,none⟩)),(10,iv c.1),(11,iv c.2),(12,iv d.1),(13,iv d.2),(16,iv t),(17,iv u),(18,iv p),(23,iv z),(24,iv aa)] a→br a ab:=by
   intro z aa ab b bv bw
   subst bu
   refine bs<|Ao fun bx bz=>?_
   obtain ⟨b0,b1,b⟩:=Np b
   have aq:∀(ad ae:Int)(af:Af)(_:b0 ad ae=some r)(_:Bl l af)(_:Sp l af [Av q 187 [iv f.1.1,iv f.1.2,iv f.2.1.1,iv f.2.1.2,iv f.2.2],Av s 187 [iv g.1.1,iv g.1.2,iv g.2.1.1,iv g.2.1.2,iv g.2.2]]),∀ a,St 161 [(2,iv n),(3,iv o),(4,.pointer (some ⟨q,0,none⟩)),(5,.pointer (some ⟨s,0,none⟩)),(10,iv c.1),(11,iv c.2),(12,iv d.1),(13,iv d.2),(16,iv ad),(17,iv ae),(18,iv p)] a→bx a af:=by
    intro ad ae af b b3 b4
    subst b1
    refine bz<|Aq<|An 8 J<|bk<|Aq<|An 3 J ?_
    rw [al] at b
    exact fun a ha=>bh a _ y (AB y) ⟨Ah (c.1-d.1),Ah (c.2-d.2),ad,ae,Ah (p+1),ha.sb J,b3,b4.sel [0,1] J,b⟩
   refine Al fun _ b5=>wp 4 J<|bB b fun cr b6 b=>Bn J call260 bv bw (Ss ab z aa t u _ b6) J fun cs _ ar au=>Ai<|b5<|A3 J b (fun _ b=>?_)<|fun _ b=>?_
   refine Aq ?_
   refine An 4 J ?_
   exact jx (aq z aa _ b ar (au.sel [0,1] J)) J
   refine Au ?_
   exact jx (aq t u _ b ar (au.sel [0,1] J)) J
  refine Ao fun b8 b9=>?_
  obtain ⟨ca,cb,b⟩:=Cb b
  have av:∀(ah:Bool)(ag:Af)(_:ca ah=some r)(_:Bl l ag)(_:Sp l ag [Av q 187 [iv f.1.1,iv f.1.2,iv f.2.1.1,iv f.2.1.2,iv f.2.2],Av s 187 [iv g.1.1,iv g.1.2,iv g.2.1.1,iv g.2.1.2,iv g.2.2]]),∀ a,St 161 [(2,iv n),(3,iv o),(4,.pointer (some ⟨q,0,none⟩)),(5,.pointer (some ⟨s,0,none⟩)),(10,iv c.1),(11,iv c.2),(12,iv d.1),(13,iv d.2),(14,iv h),(15,iv i),(16,iv t),(17,iv u),(18,iv p),(19,iv (Ah ((Ah (c.1-d.1))-h))),(20,iv (Ah ((Ah (c.2-d.2))-i))),(22,iv (Ah ((Ah ((Ah ((Ah (c.1-d.1))-h))*(Ah ((Ah (c.1-d.1))-h))))+(Ah ((Ah ((Ah (c.2-d.2))-i))*(Ah ((Ah (c.2-d.2))-i))))))),(23,iv (Ah ((Ah ((Ah (c.1-d.1))*(Ah (c.1-d.1))))+(Ah ((Ah (c.2-d.2))*(Ah (c.2-d.2))))))),(24,iv 1),(119,.bool ah)] a→b8 a ag:=by
   intro ah ag b aw ax
   subst cb
   refine b9<|A3 J b (fun _ b=>?_)<|fun _ b=>?_
   refine Am 8 J ?_
   refine Aq<|An 6 J ?_
   exact jx (ap (Ah ((Ah ((Ah (h*(Ah ((Ah (c.2-d.2))-i))))-(Ah (i*(Ah ((Ah (c.1-d.1))-h))))))*(Ah ((Ah (h*(Ah ((Ah (c.2-d.2))-i))))-(Ah (i*(Ah ((Ah (c.1-d.1))-h)))))))) (Ah ((Ah ((Ah ((Ah (c.1-d.1))-h))*(Ah ((Ah (c.1-d.1))-h))))+(Ah ((Ah ((Ah (c.2-d.2))-i))*(Ah ((Ah (c.2-d.2))-i)))))) _ b aw (ax.sel [0,1] J)) J
   refine Au ?_
   exact jx (ap (Ah ((Ah ((Ah (c.1-d.1))*(Ah (c.1-d.1))))+(Ah ((Ah (c.2-d.2))*(Ah (c.2-d.2)))))) 1 _ b aw (ax.sel [0,1] J)) J
  refine Aq<|wp 3 J ?_
  rcases bE (decide ((Ah ((Ah (h*(Ah ((Ah (c.1-d.1))-h))))+(Ah (i*(Ah ((Ah (c.2-d.2))-i))))))<0)) with j|j
  replace b:=Bw j b
  refine wn J j<|wp 1 J<|wn J j<|wp 1 J<|wn J j<|wp 1 J<|wn J j<|wp 1 J<|A8 J J j J<|Ai ?_
  exact jx (av (decide ((Ah (0-(Ah ((Ah (h*(Ah ((Ah (c.1-d.1))-h))))+(Ah (i*(Ah ((Ah (c.2-d.2))-i))))))))<(Ah ((Ah ((Ah ((Ah (c.1-d.1))-h))*(Ah ((Ah (c.1-d.1))-h))))+(Ah ((Ah ((Ah (c.2-d.2))-i))*(Ah ((Ah (c.2-d.2))-i)))))))) _ b an (ao.sel [0,1] J)) J
  replace b:=BI j b
  refine wo J j<|wo J j<|wo J j<|wo J j<|Ak J J j J<|Ai ?_
  exact jx (av false _ b an (ao.sel [0,1] J)) J
  refine Bb<|bg ?_
  refine Al fun _ cc=>wp 2 J<|bB b fun ay cd b=>Bn J call261 ak ac (Mo x t u _ cd) J fun ce _ cf az=>An 5 J<|cc<|Al fun _ cg=>wp 2 J<|Bp IV J<|AU 0 A9 J az J J<|wp 1 J<|Bp IV J<|AU 0 A9 J az J J<|wp 1 J<|bB b fun ct ch b=>A7 J call261 (Mo ce ay.1 (Ah ((Ah (ay.2*f.2.2))*f.2.2)) _ ch) J ?_
  rintro _ cu ⟨rfl,ci⟩
  refine ⟨_,rfl,?_⟩
  have cj:=tm cf ci
  refine An 4 J<|cg<|Aw<|rt hQ J J<|by cases b; exact ⟨rfl,cj⟩
theorem LO(g:Af)(a b:Aki)(d f h:Int)(r:Bool)(c:GU a b d f h=some r) :
  A2 220 [.agg #[iv a.1.1,iv a.1.2,iv a.2.1.1,iv a.2.1.2,iv a.2.2],.agg #[iv b.1.1,iv b.1.2,iv b.2.1.1,iv b.2.1.2,iv b.2.2],iv d,iv f,iv h] g fun e w'=>e=.returned (.bool r)∧Bl g w':=by
 refine cm func220 ntmps220 J fun Q j w k l=>?_
 unfold GU at c
 refine Al fun _ m=>CV J k l fun x y _ n o=>CV J n o fun z p _ q i=>An 1 J<|m<|Al fun _ s=>AU 1 C8 J i J J<|AU 0 C8 J i J J<|wp 2 J<|bB c fun aa t c=>A7 J call239 (Su p a b d f _ t) J ?_
 rintro _ ab ⟨rfl,u⟩
 refine ⟨_,rfl,?_⟩
 have v:=tm q u
 refine An 5 J<|s<|Am 8 J<|Aw<|rt j J J<|by cases c; exact ⟨rfl,v⟩
theorem Sv(g:Af)(n:Akg×Akg×Int×List Int)(ae:Ac)(a6:RO At g ae n.1)(af:Ac)(a7:RO At g af n.2.1)(ag:Ac)(a8:RO As g ag n.2.2.2)(o:List Int)(q:Ac)(ao:RO As g q o)(h:Int)(r:Akl)(b:Ih n o h=some r) :
  A2 217 [.agg #[ae,af,iv n.2.2.1,ag],q,iv h] g fun e w'=>∃(q0:Ac)(G0:Ap),e=.returned q0∧Bl g w'∧Sp g w' [Ab Ct G0 q0 r]:=by
 refine cm func217 ntmps217 J fun Q hQ d hB hS=>?_
 unfold Ih at b
 refine Al fun _ bd=>CV J hB hS fun b2 w3 _ x aq=>An 1 J<|bd<|Al fun _ bf=>AU 0 Bs J aq J J<|bB b fun u8 bg b=>Ds J call219 x aq (Oo w3 n ae (a6.ro x) af (a7.ro x) ag (a8.ro x) _ bg) J fun p ah cx _ _ bh bi=>VY (e:=Ct) underlying155 J bh bi fun bj bk cy _ bl ar=>An 2 J<|bf<|Ao fun _ bm=>Al fun _ bn=>wp 1 J<|BO (ar.own_ro (i:=1) J) underlying184 J<|An 1 J<|bn<|A0<|AN (fun m a ai=>∃(y:Akl)(f:Int)(s:Ac)(z:Ap),St 53 [(1,q),(2,iv h),(7,p),(8,s),(15,iv (List.length u8:Int)),(16,iv f)] a∧Bl g ai∧Sp g ai [Ab CF ah p u8,Ab Ct z s y]∧DZ u8 o h m y f=some r) FU ?_ ?_
 exact fun a ha=>⟨[],0,bj,bk,ha.sb J,bl,ar.sel [1,0] J,b⟩
 rintro t a ai ⟨y,f,s,z,ha,au,av,b⟩ cz bo
 refine BC ?_ ha
 cases t with
 | zero=>exact Be b
 | succ t =>
  obtain ⟨aw,ax⟩:∃ k,k=DZ u8 o h t:=⟨_,rfl⟩
  rw [DZ,← ax] at b
  refine Am 1 J<|Ao fun _ bp=>A3 J b (fun _ b=>?_)<|fun _ b=>?_
  refine Au<|bp ?_
  refine Ao fun _ bq=>A0<|Am 2 J<|Am 3 J<|A0<|AN (fun m a aj=>∃(u:Akl)(j:Int)(v:Ac)(aa:Ap),St 53 [(1,q),(2,iv h),(7,p),(8,v),(9,iv f),(10,iv j),(15,iv (List.length u8:Int)),(16,iv f)] a∧Bl g aj∧Sp g aj [Ab CF ah p u8,Ab Ct aa v u]∧DY u8 f o h aw m u j=some r) FU ?_ ?_
  exact fun a ha=>⟨y,Ah (f+1),s,z,ha.sb J,au,av.sel [0,1] J,b⟩
  rintro w a aj ⟨u,j,v,aa,ha,ay,ak,b⟩ c0 br
  refine BC ?_ ha
  cases w with
  | zero=>exact Be b
  | succ w =>
   obtain ⟨c1,az⟩:∃ k,k=DY u8 f o h aw w:=⟨_,rfl⟩
   rw [DY,← az] at b
   refine Ao fun _ bs=>Al fun _ bt=>wp 2 J<|BO (ak.own_ro (i:=0) J) underlying184 J<|An 1 J<|bt<|A3 J b (fun _ b=>?_)<|fun _ b=>?_
   refine Au<|bs ?_
   refine Ao fun bu bv=>?_
   obtain ⟨bw,bx,b⟩:=Cb b
   have a0:∀(ab:Akl)(ac:Ac)(al:Ap)(ad:Af)(_:bw ab=some r)(_:Bl g ad)(_:Sp g ad [Ab CF ah p u8,Ab Ct al ac ab]),∀ a,St 53 [(1,q),(2,iv h),(7,p),(8,ac),(9,iv f),(10,iv j),(15,iv (List.length u8:Int)),(16,iv f)] a→bu a ad:=by
    intro ab ac al ad b bz b0
    subst bx
    refine bv<|Aq<|An 3 J ?_
    rw [az] at b
    exact fun a ha=>br a _ w (AB w) ⟨ab,Ah (j+1),ac,al,ha.sb J,bz,b0.sel [0,1] J,b⟩
   refine A0<|Ao fun _ b1=>AQ B1 [] ay ak fun a1 _ am an=>?_
   have c:=KeepX.refl a1 []
   refine Ay 0 J d c<|Ay 1 J d c<|bB b fun b3 b4 b=>Ad 2 J d c<|Bx (e:=CF) (i:=0) underlying184 J J J an J b4 ?_
   rintro c2 _ rfl b5 c3
   refine Ad 3 J d c<|BR C8 J (b5.kx0) J<|Ay 4 J d c<|Ay 5 J d c<|bB b fun b6 b7 b=>Ad 6 J d c<|Bx (e:=CF) (i:=0) underlying184 J J J an J b7 ?_
   rintro c4 _ rfl b8 c5
   refine Ad 7 J d c<|BR C8 J (b8.kx0) J<|Ay 8 J d c<|Ay 9 J d c<|bB b fun b9 ca b=>Ad 10 J d c<|B7 (e:=As) underlying36 J J J ao ca ?_
   rintro c6 _ rfl cb
   refine Ad 11 J d c<|BR A9 J (cb.kx am (by simp)) J<|Ay 12 J d c<|Ay 13 J d c<|bB b fun cc cd b=>Ad 14 J d c<|B7 (e:=As) underlying36 J J J ao cd ?_
   rintro c7 _ rfl ce
   refine Ad 15 J d c<|BR A9 J (ce.kx am (by simp)) J<|Ay 16 J d c<|A1 17 J<|bB b fun c8 cf b=>Bn J call220 am an (LO a1 b3 b6 b9 cc h _ cf) J fun c9 cg a2 a3=>?_
   have ch:=c.ext cg
   refine Ai<|Ar ch<|Bc<|b1<|A3 J b (fun _ b=>?_)<|fun _ b=>?_
   refine Aq ?_
   refine wp 3 J<|AZ (vs:=[iv f,iv j]) (l:=[f,j]) Cl underlying36 J J J J J J a2 a3 fun a4 ci da _ cj a5=>?_
   have ck:=a5.sel [0,1,2] J
   have cl:=ck.head (r':=RP Ct ci [a4] [f,j]) (rfl) fun _ h0=>⟨_,rfl,h0⟩
   refine Pn (e:=Ct) (vs:=[a4]) underlying155 J J (Ch (a5.own_ro (i:=0) J).one) J cj cl fun db dc dd _ _ co cp=>bB b fun cq cr b=>Mq (e:=Ct) underlying155 J J J co (cp.sel [2,0,1] J) cr fun cs ct de _ cu cv=>An 1 J ?_
   exact jx (a0 cq cs ct _ b cu (cv.sel [1,0] J)) J
   refine Au ?_
   exact jx (a0 u v aa _ b a2 (a3.sel [0,1] J)) J
   refine Bb<|bq ?_
   refine Aq<|An 2 J ?_
   rw [ax] at b
   exact fun a ha=>bo a _ t (AB t) ⟨u,Ah (f+1),v,aa,ha.sb J,ay,ak.sel [0,1] J,b⟩
  refine Bb<|bm ?_
  refine Am 2 J<|Aw<|rt hQ J J<|by cases b; exact ⟨s,z,rfl,au,av.sel [1] J⟩
theorem NV(f:Af)(b:Akg×Akg×Int×List Int)(j:Ac)(q:RO At f j b.1)(k:Ac)(w:RO At f k b.2.1)(m:Ac)(x:RO As f m b.2.2.2)(n:Int)(r:Bool)(c:GS b n=some r) :
  A2 179 [.agg #[j,k,iv b.2.2.1,m],iv n] f fun e w'=>e=.returned (.bool r)∧Bl f w':=by
 refine cm func179 ntmps179 J fun Q y a z hS=>?_
 unfold GS at c
 refine Al fun _ ab=>CV J z hS fun b2 w3 _ ac ad=>An 1 J<|ab<|Ao fun _ ae=>AQ B1 [] ac ad fun s _ t o=>?_
 have d:=KeepX.refl s []
 refine Ad 0 J a d<|CN 0 Bs J o J (by simp)<|Ad 1 J a d<|C7 EX J<|Ad 2 J a d<|CN 0 Cs J o J (by simp)<|Ad 3 J a d<|LF (e:=At) (l:=b.1) underlying26 J J q<|Ay 5 J a d<|A1 4 J<|bB c fun af ag c=>Pm (e:=As) underlying36 J J ag (Bk s) (Sep.nil _ _) fun ah ar ai p _ aj=>?_
 have g:=tm t p
 have u:=o.join p aj t.size
 have v:=d.ext p
 refine Ai<|Ar v<|A1 6 J<|bB c fun ak al c=>Ds J call217 g u (Sv ai b j (q.ro g) k (w.ro g) m (x.ro g) af ah (u.own_ro (i:=0) J) n _ al) J fun au av aw am _ an ao=>?_
 have h:=v.ext am
 refine Ai<|Ar h<|Ad 7 J a h<|LF (e:=Ct) (l:=ak) underlying155 J J (ao.own_ro (i:=0) J)<|Ad 8 J a h<|Rb J J J<|Ad 9 J a h<|AD J J<|Bc<|ae<|Aw<|rt y J J<|by cases c; exact ⟨rfl,an⟩
theorem TP(m:Af)(l:Akg×Akg×Int×List Int)(af:Ac)(ba:RO At m af l.1)(ag:Ac)(bb:RO At m ag l.2.1)(ah:Ac)(bc:RO As m ah l.2.2.2)(x1 x2:Int)(r:Akg×Akg×Int×List Int)(d:Jk l x1 x2=some r) :
  A2 218 [.agg #[af,ag,iv l.2.2.1,ah],iv x1,iv x2] m fun e w'=>∃(q0:Ac)(G0:Ap)(q1:Ac)(G1:Ap)(q2:Ac)(G2:Ap),e=.returned (.agg #[q0,q1,iv r.2.2.1,q2])∧Bl m w'∧Sp m w' [Ab At G0 q0 r.1,Ab At G1 q1 r.2.1,Ab As G2 q2 r.2.2.2]:=by
 refine cm func218 ntmps218 J fun Q hQ f hB hS=>?_
 unfold Jk at d
 refine Al fun _ bj=>CV J hB hS fun b2 w3 _ bk bl=>EE Bs J bk bl fun b7 w8 _ w x=>Ai<|bj<|Al fun _ bn=>Bp EX J<|AU 1 Cs J x J J<|Bp Mf J<|AU 1 Cs J x J J<|Bp Me J<|AU 1 A9 J x J J<|Bp Hf J<|AU 1 FA J x J J<|bB d fun k bo d=>A7 J call170 (Ly w8 l.1 af (ba.ro w) l.2.1 ag (bb.ro w) l.2.2.1 l.2.2.2 ah (bc.ro w) _ bo) J ?_
 rintro _ co ⟨n,au,p,av,ac,q,rfl,aw,bp⟩
 refine ⟨_,rfl,?_⟩
 have bq:=tm w aw
 have br:=x.join aw bp w.size
 refine EE Bs J bq br fun t cp _ bs ad=>BG (i:=0) (vs:=[n,p,iv k.2.2.1,ac]) (cs':=[n,p,iv k.2.2.1,ac]) Bs J J J J bs ad J J ⟨(ad.own_ro (i:=1) J).one,(ad.own_ro (i:=2) J).one,rfl,(ad.own_ro (i:=3) J).one,trivial⟩ J fun cq _ bt bu=>Ai<|bn<|Ao fun bv bw=>?_
 obtain ⟨bx,bz,d⟩:=Cb d
 have ax:∀(ai:List Int)(s:Ac)(aj:Ap)(ae:Af)(_:bx ai=some r)(_:Bl m ae)(_:Sp m ae [Av b7 128 [.slice none 0 0,.slice none 0 0,iv 0,.slice none 0 0],Ab At au n k.1,Ab At av p k.2.1,Ab As aj s ai,Av t 128 [n,p,iv k.2.2.1,s]]),∀ a,St 36 [(6,.pointer (some ⟨b7,0,none⟩)),(7,.pointer (some ⟨t,0,none⟩))] a→bv a ae:=by
  intro ai s aj ae d b0 y
  subst bz
  refine bw<|Al fun _ b1=>AU 4 Bs J y J J<|BG (i:=0) (vs:=[n,p,iv k.2.2.1,s]) (cs':=[n,p,iv k.2.2.1,s]) Bs J J J J b0 y J J ⟨(y.own_ro (i:=1) J).one,(y.own_ro (i:=2) J).one,rfl,(y.own_ro (i:=3) J).one,trivial⟩ J fun cr _ b3 ay=>Ai<|b1<|Aw ?_
  obtain rfl:=Option.some.inj d
  exact JU (vs:=[.agg #[n,p,iv k.2.2.1,s]]) hQ J ⟨HL (i:=0) Bs J ay J J J,trivial⟩ ⟨n,au,p,av,s,aj,rfl,b3,ay.sel [1,2,3] J⟩
 refine AQ B1 q bt bu fun z _ az g=>?_
 have c:=KeepX.refl z q
 refine Ad 0 J f c<|C7 Hf J<|Ad 1 J f c<|CN 0 FA J g J (g.disj (i:=0) (j:=3) J J J t (by simp [Av]))<|Ay 2 J f c<|Ad 3 J f c<|C7 Hf J<|Ad 4 J f c<|CN 0 FA J g J (g.disj (i:=0) (j:=3) J J J t (by simp [Av]))<|Ay 5 J f c<|Ad 6 J f c<|C7 Hf J<|Ad 7 J f c<|CN 0 FA J g J (g.disj (i:=0) (j:=3) J J J t (by simp [Av]))<|Ay 8 J f c<|bB d fun u b4 d=>Ad 9 J f c<|Bx (e:=As) (i:=3) underlying36 J J J g J b4 ?_
 rintro cs _ rfl a0 ct
 refine Ad 11 J f c<|C7 Hf J<|Ad 12 J f c<|CN 0 FA J g J (g.disj (i:=0) (j:=3) J J J t (by simp [Av]))<|Ay 13 J f c<|bB d fun v b5 d=>Ad 14 J f c<|Bx (e:=As) (i:=3) underlying36 J J J g J b5 ?_
 rintro cu _ rfl a1 cv
 refine CA (is:=[10,15]) (by kernel_rfl) J<|Bj.2 ⟨⟨_,rfl,?_⟩,Bj.2 ⟨⟨_,rfl,?_⟩,fun _ h=>by cases h⟩⟩
 refine BZ A9 J a0 J ?_
 refine Ai<|Ar c<|A1 15 J<|BZ A9 J a1 J<|Ai<|Ar c<|bB d fun cw a2 d=>Ad 16 J f c<|Bx (e:=As) (i:=3) underlying36 J J J g J a2 ?_
 rintro cx _ rfl cy b6
 refine A1 17 J<|Cf (i:=3) (o:=0) (vs:=[iv u]) (u':=u) Cl A9 J J J J b6 a2 az g J J ⟨rfl,trivial⟩ J fun cz ak b8 a3=>?_
 have al:=c.wr' ak.1 ak.2.1 (fun _ _ h=>h)
 have b9:∀ b,b<z.heap.size→b ∈ q→b ∈ q:=fun b hlt hb=>(ak.2.2 b hb).elim ((fun _ _ h=>h) b hlt) (fun h=>absurd hlt (AM.2 (Az (Nat.le_refl z.heap.size) h)))
 refine Ai<|Ar al<|A1 18 J<|bB d fun c0 a4 d=>Co (e:=As) (i:=3) underlying36 J J J a3 J a4 ?_
 rintro c1 _ rfl c2 ca
 refine Ai<|Ar al<|A1 19 J<|Cf (i:=3) (o:=0) (vs:=[iv v]) (u':=v) Cl A9 J J J J ca a4 b8 a3 J J ⟨rfl,trivial⟩ J fun c3 a5 cb cc=>?_
 have cd:=al.wr' a5.1 a5.2.1 (b9)
 refine Ai<|Ar cd<|Bc ?_
 exact jx (ax (BL (BL k.2.2.2 x1 u) x2 v) ac q _ d cb (cc.sel [4,1,2,3,0] J)) J
 refine BZ A9 J a1 J ?_
 refine Ai<|Ar c<|A1 10 J<|BZ A9 J a0 J<|Ai<|Ar c<|bB d fun c4 a6 d=>Ad 16 J f c<|Bx (e:=As) (i:=3) underlying36 J J J g J a6 ?_
 rintro c5 _ rfl c6 ce
 refine A1 17 J<|Cf (i:=3) (o:=0) (vs:=[iv u]) (u':=u) Cl A9 J J J J ce a6 az g J J ⟨rfl,trivial⟩ J fun c7 am cf a7=>?_
 have an:=c.wr' am.1 am.2.1 (fun _ _ h=>h)
 have cg:∀ b,b<z.heap.size→b ∈ q→b ∈ q:=fun b hlt hb=>(am.2.2 b hb).elim ((fun _ _ h=>h) b hlt) (fun h=>absurd hlt (AM.2 (Az (Nat.le_refl z.heap.size) h)))
 refine Ai<|Ar an<|A1 18 J<|bB d fun c8 a8 d=>Co (e:=As) (i:=3) underlying36 J J J a7 J a8 ?_
 rintro c9 _ rfl da ch
 refine Ai<|Ar an<|A1 19 J<|Cf (i:=3) (o:=0) (vs:=[iv v]) (u':=v) Cl A9 J J J J ch a8 cf a7 J J ⟨rfl,trivial⟩ J fun db a9 ci cj=>?_
 have ck:=an.wr' a9.1 a9.2.1 (cg)
 refine Ai<|Ar ck<|Bc ?_
 exact jx (ax (BL (BL k.2.2.2 x1 u) x2 v) ac q _ d ci (cj.sel [4,1,2,3,0] J)) J
theorem TQ(f:Af)(c:Akg×Akg×Int×List Int)(j:Ac)(w:RO At f j c.1)(l:Ac)(ag:RO At f l c.2.1)(n:Ac)(ah:RO As f n c.2.2.2)(g:Int)(r:Int×Int×Bool)(b:Jl c g=some r) :
  A2 180 [.agg #[j,l,iv c.2.2.1,n],iv g] f fun e w'=>e=.returned (.tuple #[iv r.1,iv r.2.1,.bool r.2.2])∧Bl f w':=by
 refine cm func180 ntmps180 J fun Q y hP hB hS=>?_
 unfold Jl at b
 refine Al fun _ ak=>CV J hB hS fun s w3 _ al z=>An 3 J<|ak<|Ao fun _ am=>Al fun _ an=>Bp EX J<|AU 0 Cs J z J J<|BO w underlying26 J<|An 1 J<|an<|A0<|AN (fun m a x=>∃(d:Int),St 33 [(1,iv g),(2,.pointer (some ⟨s,0,none⟩)),(11,iv (List.length c.1:Int)),(12,iv d)] a∧Bl f x∧Sp f x [Av s 128 [j,l,iv c.2.2.1,n]]∧D3 c g m d=some r) FU ?_ ?_
 exact fun a ha=>⟨0,ha.sb J,al,z.sel [0] J,b⟩
 rintro o a x ⟨d,ha,aa,ao,b⟩ bb ap
 refine BC ?_ ha
 cases o with
 | zero=>exact Be b
 | succ o =>
  obtain ⟨ab,ac⟩:∃ k,k=D3 c g o:=⟨_,rfl⟩
  rw [D3,← ac] at b
  refine Am 1 J<|Ao fun _ aq=>A3 J b (fun _ b=>?_)<|fun _ b=>?_
  refine Au<|aq ?_
  refine Ao fun _ ar=>A0<|Am 2 J<|Am 3 J<|A0<|AN (fun m a t=>∃(p:Int),St 33 [(1,iv g),(2,.pointer (some ⟨s,0,none⟩)),(7,iv d),(8,iv p),(11,iv (List.length c.1:Int)),(12,iv d)] a∧Bl f t∧Sp f t [Av s 128 [j,l,iv c.2.2.1,n]]∧E9 c d g ab m p=some r) FU ?_ ?_
  exact fun a ha=>⟨Ah (d+1),ha.sb J,aa,ao.sel [0] J,b⟩
  rintro q a t ⟨p,ha,h,u,b⟩ bc au
  refine BC ?_ ha
  cases q with
  | zero=>exact Be b
  | succ q =>
   obtain ⟨bd,ad⟩:∃ k,k=E9 c d g ab q:=⟨_,rfl⟩
   rw [E9,← ad] at b
   refine Ao fun _ av=>Al fun _ aw=>wp 1 J<|Bp EX J<|AU 0 Cs J u J J<|BO w underlying26 J<|An 1 J<|aw<|A3 J b (fun _ b=>?_)<|fun _ b=>?_
   refine Au<|av ?_
   refine Ao fun _ ax=>A0<|Al fun _ ay=>AU 0 Bs J u J J<|wp 2 J<|bB b fun az a0 b=>A7 J call218 (TP t c j (w.ro h) l (ag.ro h) n (ah.ro h) d p _ a0) J ?_
   rintro _ a1 ⟨a2,be,a3,bf,a4,bg,rfl,ae,a5⟩
   refine ⟨_,rfl,?_⟩
   have a6:=tm h ae
   have v:=u.join ae a5 h.size
   refine wp 1 J<|bB b fun bh a7 b=>Bn J call179 a6 v (NV a1 az a2 (v.own_ro (i:=0) J) a3 (v.own_ro (i:=1) J) a4 (v.own_ro (i:=2) J) g _ a7) J fun bi _ af a8=>Ai<|ay<|A3 J b (fun _ b=>?_)<|fun _ b=>?_
   refine Am 5 J ?_
   refine Aw<|rt y J J<|by cases b; exact ⟨rfl,af⟩
   refine Au<|ax ?_
   refine Aq<|An 3 J ?_
   rw [ad] at b
   exact fun a ha=>au a _ q (AB q) ⟨Ah (p+1),ha.sb J,af,a8.sel [3] J,b⟩
   refine Bb<|ar ?_
   refine Aq<|An 2 J ?_
   rw [ac] at b
   exact fun a ha=>ap a _ o (AB o) ⟨Ah (d+1),ha.sb J,h,u.sel [0] J,b⟩
  refine Bb<|am ?_
  refine Am 3 J<|Aw<|rt y J J<|by cases b; exact ⟨rfl,aa⟩
theorem Pj:∀(m:Nat)(d:Af)(p:Akk)(f:Nat)(q:Ap)(c:List Int)(g:Ac)(n:Ap)(s:Int)(ar:Sep 0 d [A6 CQ 212 q f p,Ab As n g c])(r:Akk)(b:Cv m p c s=some r),
  A2 221 [.pointer (some ⟨f,0,none⟩),g,iv s] d fun e w'=>∃(H_0:Ap),e=.returned (.tuple #[])∧Below 0 (wE d) w'∧Sep 0 w' [A5 d (AP [A6 CQ 212 q f p,Ab As n g c]),A6 CQ 212 H_0 f r]:=by
 intro m
 induction m with
 | zero =>
  intro d p f q c g n s ar r b
  exact Be b
 | succ m ih =>
  intro d p f q c g n s ar r b
  replace b:Fz (Cv m) p c s=some r:=b
  obtain ⟨rec,hrec⟩:∃ k,k=Cv m:=⟨_,rfl⟩
  rw [← hrec] at b ih
  refine Jr func221 J ntmps221 J J fun Q hQn hQ hP=>?_
  have hB:Bl (wE d) d:=Dp d
  have hS:Sp (wE d) d [A5 d (AP [A6 CQ 212 q f p,Ab As n g c]),A6 CQ 212 q f p,Ab As n g c]:=ar.rest
  unfold Fz at b
  refine Al fun _ bt=>wp 1 J<|BO (hS.own_ro (i:=2) J) underlying36 J<|An 1 J<|bt<|Ao fun _ bu=>Ao fun K3 bw=>?_
  obtain ⟨bx,bz,b⟩:=Np b
  have ba:∀(v:Akk)(au:Bool)(av:Ap)(y:Af)(_:bx v au=some r)(_:Bl (wE d) y)(_:Sp (wE d) y [A5 d (AP [A6 CQ 212 q f p,Ab As n g c]),A6 CQ 212 av f v,Ab As n g c]),∀ a,St 80 [(0,.pointer (some ⟨f,0,none⟩)),(1,g),(2,iv s),(6,iv (List.length c:Int)),(25,.bool au)] a→K3 a y:=by
   intro v au av y b aw bb
   subst bz
   refine bw<|A3 J b (fun _ b=>?_)<|fun _ b=>?_
   refine Aw ?_
   obtain rfl:=Option.some.inj b
   exact JU (vs:=[]) hQ J trivial ⟨av,rfl,aw,bb.sel [0,1] J⟩
   refine Au<|bu ?_
   refine Ao fun _ b1=>Al fun _ b2=>wp 2 J<|B4 J J<|Bp Afh J ?_
   obtain ⟨b3,b4,ab,b5,ag⟩:=PE (bb.sel [1,0,2] J)
   refine ldq 0 (pre:=(JX v.1)) (k:=900) (o:=0) A9 J ag J (Uy ab) J J<|An 1 J<|b2<|A3 J b (fun _ b=>?_)<|fun _ b=>?_
   refine Al fun _ b6=>?_
   refine wp 3 J<|bB b fun b7 b8 b=>Ds J call212 aw ag (NJ y c g (ag.own_ro (i:=3) J) _ b8) J fun du dv dw _ _ b9 bc=>wp 1 J<|B4 J J<|Bp U9 J ?_
   have bd:=Ajt b
   replace b:=BI bd b
   refine stq 1 (pre:=(JX v.1)) (k:=900) (o:=1) FA J J ((bc.own_ro (i:=0) J).one) b9 bc J (Uy ab) J J fun dx _ ca cb=>B4 J J<|Bp U8 J<|stq 1 (pre:=(JX v.1)) (k:=900) (o:=2) A9 J J J ca cb J (Uy ab) J J fun cc _ cd ce=>Ai<|b6<|Aw ?_
   obtain ⟨cf,cg⟩:∃ F,Sp (wE d) cc [A6 CQ 212 F f (v.1,v.2.1,b7,s),Ab As b4 b3 v.2.2.1,A5 d (AP [A6 CQ 212 q f p,Ab As n g c]),Ab As n g c]:=⟨_,Lo ab (nnE bd) (ce.sel [1,0,2,3,4] J)⟩
   obtain rfl:=Option.some.inj b
   exact JU (vs:=[]) hQ J trivial ⟨cf,rfl,cd,cg.sel [2,0] J⟩
   refine Au<|b1 ?_
   refine Am 1 J<|A0 ?_
   obtain ⟨ch,ci⟩:∃ F,Sp (wE d) y [A6 CQ 212 F f v,A5 d (AP [A6 CQ 212 q f p,Ab As n g c]),Ab As n g c]:=⟨_,Lo ab b5 (ag.sel [0,1,2,3] J)⟩
   refine AN (fun m a ax=>∃(ah:Akk)(u:Int)(ai:Ap),St 80 [(0,.pointer (some ⟨f,0,none⟩)),(1,g),(2,iv s),(6,iv (List.length c:Int)),(7,iv u)] a∧Bl (wE d) ax∧Sp (wE d) ax [A5 d (AP [A6 CQ 212 q f p,Ab As n g c]),A6 CQ 212 ai f ah,Ab As n g c]∧C3 c rec s m ah u=some r) FU ?_ ?_
   exact fun a ha=>⟨v,0,ch,ha.sb J,aw,ci.sel [1,0,2] J,b⟩
   rintro ac a ax ⟨ah,u,ai,ha,be,ay,b⟩ dy cj
   refine BC ?_ ha
   cases ac with
   | zero=>exact Be b
   | succ ac =>
    obtain ⟨dz,bf⟩:∃ k,k=C3 c rec s ac:=⟨_,rfl⟩
    rw [C3,← bf] at b
    refine Ao fun _ ck=>Am 2 J<|A3 J b (fun _ b=>?_)<|fun _ b=>?_
    refine Au<|ck ?_
    refine Ao fun cl cm=>?_
    obtain ⟨az,cn,b⟩:=Cb b
    have bg:∀(aj:Akk)(a0:Ap)(ak:Af)(_:az aj=some r)(_:Bl (wE d) ak)(_:Sp (wE d) ak [A5 d (AP [A6 CQ 212 q f p,Ab As n g c]),A6 CQ 212 a0 f aj,Ab As n g c]),∀ a,St 80 [(0,.pointer (some ⟨f,0,none⟩)),(1,g),(2,iv s),(6,iv (List.length c:Int)),(7,iv u)] a→cl a ak:=by
     intro aj a0 ak b co cp
     subst cn
     refine cm<|Aq<|An 3 J ?_
     rw [bf] at b
     exact fun a ha=>cj a _ ac (AB ac) ⟨aj,Ah (u+1),a0,ha.sb J,co,cp.sel [0,1,2] J,b⟩
    refine A0<|Am 1 J<|Ao fun _ cq=>Al fun _ cr=>wp 1 J<|BO (ay.own_ro (i:=2) J) underlying36 J<|An 1 J<|cr<|A0<|AN (fun m a ad=>∃(w:Akk)(al:Bool)(z:Int)(x:Ap),St 80 [(0,.pointer (some ⟨f,0,none⟩)),(1,g),(2,iv s),(6,iv (List.length c:Int)),(7,iv u),(8,.bool al),(45,g),(46,iv (List.length c:Int)),(47,iv z)] a∧Bl (wE d) ad∧Sp (wE d) ad [A5 d (AP [A6 CQ 212 q f p,Ab As n g c]),A6 CQ 212 x f w,Ab As n g c]∧CW c u rec s az m w al z=some r) FU ?_ ?_
    exact fun a ha=>⟨ah,true,0,ai,ha.sb J,be,ay.sel [0,1,2] J,b⟩
    rintro ae a ad ⟨w,al,z,x,ha,am,aa,b⟩ d0 cs
    refine BC ?_ ha
    cases ae with
    | zero=>exact Be b
    | succ ae =>
     obtain ⟨d1,bh⟩:∃ k,k=CW c u rec s az ae:=⟨_,rfl⟩
     rw [CW,← bh] at b
     refine Am 1 J<|Ao fun _ ct=>A3 J b (fun _ b=>?_)<|fun _ b=>?_
     refine Au<|ct ?_
     refine Ao fun cu cv=>?_
     obtain ⟨cw,cx,b⟩:=Np b
     have bi:∀(an:Akk)(ao:Bool)(a1:Ap)(ap:Af)(_:cw an ao=some r)(_:Bl (wE d) ap)(_:Sp (wE d) ap [A5 d (AP [A6 CQ 212 q f p,Ab As n g c]),A6 CQ 212 a1 f an,Ab As n g c]),∀ a,St 80 [(0,.pointer (some ⟨f,0,none⟩)),(1,g),(2,iv s),(6,iv (List.length c:Int)),(7,iv u),(8,.bool ao),(45,g),(46,iv (List.length c:Int)),(47,iv z)] a→cu a ap:=by
      intro an ao a1 ap b cy cz
      subst cx
      refine cv<|Aq<|An 2 J ?_
      rw [bh] at b
      exact fun a ha=>cs a _ ae (AB ae) ⟨an,ao,Ah (z+1),a1,ha.sb J,cy,cz.sel [0,1,2] J,b⟩
     refine A0<|Al fun _ c0=>wp 1 J<|bB b fun c1 c2 b=>Co (e:=As) (i:=2) underlying36 J J J aa J c2 ?_
     rintro d2 _ rfl c3 d3
     refine BZ A9 J c3 J<|An 2 J<|c0<|Aq<|wp 2 J ?_
     rcases bE al with h|h
     replace b:=Bw h b
     refine wn J h<|wp 1 J<|wn J h<|wp 1 J<|wn J h<|wp 1 J<|wn J h<|wp 1 J<|wn J h<|wp 1 J<|wn J h<|B4 J J<|wn J h<|Bp YX J<|wn J h ?_
     have bj:=HZ b
     replace b:=Bw bj b
     refine Jd underlying210 Tryz.sizeOf209 bj J J J<|wn J h ?_
     have bk:=HZ b
     replace b:=Bw bk b
     refine Jd underlying209 Tryz.sizeOf208 bk J J J<|wn J h ?_
     have bl:=HZ b
     replace b:=Bw bl b
     refine Jd underlying208 Tryz.sizeOf207 bl J J J<|wn J h ?_
     have bm:=HZ b
     replace b:=Bw bm b
     refine Jd underlying207 Tryz.sizeOf4 bm J J J<|wn J h ?_
     obtain ⟨d4,d5,c4,c5,bn⟩:=PE (aa.sel [1,0,2] J)
     refine bB b fun c6 c7 b=>lda 0 (pre:=[]) (arr:=(JX w.1)) (j:=z.toNat*150+(List.length c:Int).toNat*25+c1.toNat*5+u.toNat*1) Aec J J bn J (Ajv c7) (by simp only [List.length_nil,List.length_cons]; omega)<|wn J h<|wp 1 J<|A8 J J h J<|An 1 J ?_
     obtain ⟨c8,c9⟩:∃ F,Sp (wE d) ad [A6 CQ 212 F f w,A5 d (AP [A6 CQ 212 q f p,Ab As n g c]),Ab As n g c]:=⟨_,Lo c4 c5 (bn.sel [0,1,2,3] J)⟩
     exact jx (bi w (!c6) c8 _ b am (c9.sel [1,0,2] J)) J
     replace b:=BI h b
     refine wo J h<|wo J h<|wo J h<|wo J h<|wo J h<|wo J h<|wo J h<|wo J h<|wo J h<|wo J h<|wo J h<|wo J h<|wo J h<|Ak J J h J<|An 1 J ?_
     exact jx (bi w false x _ b am (aa.sel [0,1,2] J)) J
     refine Bb<|cq ?_
     refine Am 1 J<|A3 J b (fun _ b=>?_)<|fun _ b=>?_
     refine Aq ?_
     refine wp 2 J<|bB b fun d6 da b=>Ds J call212 am aa (NJ ad c g (aa.own_ro (i:=2) J) _ da) J fun d7 d8 d9 _ _ db dc=>wp 1 J<|AZ (vs:=[iv u]) (l:=[u]) Cl underlying36 J J J J J J db dc fun dd de df _ dg bo=>bB b fun a2 dh b=>AE (i:=1) (S:=(·<df.heap.size)) Cl underlying36 J J J dg bo J (bo.own_ro (i:=0) J) dh fun a3 a4 di _ bp a5=>wp 3 J<|bB b fun bq dj b=>A7 J call221 (ih di w f x a2 a3 a4 (Ah (s+u)) (a5.sel [3,1] J).base0 _ dj) J ?_
     rintro _ dk ⟨br,rfl,dl,bs⟩
     refine ⟨_,rfl,?_⟩
     have dm:=a5.takeB [3,1] J (M:=[A6 CQ 212 x f w,Ab As a4 a3 a2]) J bp dl bs
     have dn:Sp (wE d) dk [A6 CQ 212 br f bq,Ab As de dd [u],A5 d (AP [A6 CQ 212 q f p,Ab As n g c]),Ab As n g c]:=a5.take [3,1] [0,2,4] J (M:=[A6 CQ 212 x f w,Ab As a4 a3 a2]) J bs bp.size
     refine Ai ?_
     exact jx (bg bq br _ b dm (dn.sel [2,0,3] J)) J
     refine Au ?_
     exact jx (bg w x _ b am (aa.sel [0,1,2] J)) J
    refine Bb ?_
    obtain rfl:=Option.some.inj b
    exact Nw (vs:=[]) hQn J trivial ⟨ai,rfl,be,ay.sel [0,1] J⟩
  refine Aq<|wp 1 J<|B4 J J<|Bp U9 J ?_
  obtain ⟨ea,eb,aq,a6,af⟩:=PE (hS.sel [1,0,2] J)
  refine ldq 0 (pre:=(JX p.1)) (k:=900) (o:=1) FA J af J (Uy aq) J J<|ZR underlying36 (af.ok (i:=1) J) a6 J J J<|wp 1 J ?_
  rcases bE (!(List.isEmpty p.2.2.1)) with t|t
  replace b:=Bw t b
  refine wn J t<|wp 1 J<|wn J t<|wp 1 J<|wn J t<|B4 J J<|wn J t<|Bp U8 J<|wn J t<|ldq 0 (pre:=(JX p.1)) (k:=900) (o:=2) A9 J af J (Uy aq) J J<|wn J t<|wp 1 J<|A8 J J t J<|Ai ?_
  obtain ⟨dp,dq⟩:∃ F,Sp (wE d) d [A6 CQ 212 F f p,A5 d (AP [A6 CQ 212 q f p,Ab As n g c]),Ab As n g c]:=⟨_,Lo aq a6 (af.sel [0,1,2,3] J)⟩
  exact jx (ba p (decide (p.2.2.2≤s)) dp _ b hB (dq.sel [1,0,2] J)) J
  replace b:=BI t b
  refine wo J t<|wo J t<|wo J t<|wo J t<|wo J t<|wo J t<|Ak J J t J<|Ai ?_
  obtain ⟨dr,ds⟩:∃ F,Sp (wE d) d [A6 CQ 212 F f p,A5 d (AP [A6 CQ 212 q f p,Ab As n g c]),Ab As n g c]:=⟨_,Lo aq a6 (af.sel [0,1,2,3] J)⟩
  exact jx (ba p false dr _ b hB (ds.sel [1,0,2] J)) J
theorem PX(a:Af)(c:Akk)(b:Nat)(g:Ap)(d:List Int)(f:Ac)(h:Ap)(i:Int)(j:Sep 0 a [A6 CQ 212 g b c,Ab As h f d])(r:Akk)(k:HG c d i=some r) :
  A2 221 [.pointer (some ⟨b,0,none⟩),f,iv i] a fun e w'=>∃(H_0:Ap),e=.returned (.tuple #[])∧Below 0 (wE a) w'∧Sep 0 w' [A5 a (AP [A6 CQ 212 g b c,Ab As h f d]),A6 CQ 212 H_0 b r] :=
 Pj FU a c b g d f h i j r k
theorem Ti(g:Af)(y:Akg×Akg×Int×List Int)(ah:Ac)(cf:RO At g ah y.1)(ai:Ac)(cg:RO At g ai y.2.1)(aj:Ac)(ch:RO As g aj y.2.2.2)(q:Int)(r:Akn)(b:ID y q=some r) :
  A2 181 [.agg #[ah,ai,iv y.2.2.1,aj],iv q] g fun e w'=>∃(q0:Ac)(G0:Ap),e=.returned (.tuple #[q0,iv r.2])∧(r.1=[]→q0=.slice none 0 0)∧Bl g w'∧Sp g w' [Ab As G0 q0 r.1]:=by
 refine cm func181 ntmps181 J fun Q hQ c hB hS=>?_
 unfold ID at b
 refine Al fun _ cn=>CV J hB hS fun b2 w3 _ ak ba=>An 2 J<|cn<|Al fun _ cq=>AU 0 Bs J ba J J<|bB b fun u8 cr b=>Ds J call219 ak ba (Oo w3 y ah (cf.ro ak) ai (cg.ro ak) aj (ch.ro ak) _ cr) J fun s w ek _ _ cs bb=>An 1 J<|cq<|Al fun _ ct=>wp 1 J<|BO (bb.own_ro (i:=0) J) underlying184 J<|DS (zs:=((JX (List.replicate 900 false))++[iv 0,.slice none 0 0,iv 0])) (out:=((JX (List.replicate 900 false))++[iv (List.length u8:Int),.slice none 0 0,iv 0])) (vs:=[iv (List.length u8:Int)]) (css:=[[iv (List.length u8:Int)]]) Aho Ah0 J J J (by kernel_rfl) (by kernel_rfl)<|CV J cs bb fun n cu _ cv bc=>An 1 J<|ct<|Ao fun _ cw=>Al fun _ cx=>wp 1 J<|BO (bc.own_ro (i:=1) J) underlying184 J<|An 1 J<|cx<|A0 ?_
 have cy:=bc.push0 (r:=Ab As [] (.slice none 0 0) []) J fun _=>.inl ⟨rfl,rfl,rfl⟩
 obtain ⟨cz,c0⟩:∃ F,Sp g cu [A6 CQ 212 F n (List.replicate 900 false,(List.length u8:Int),[],0),Ab CF w s u8,Av b2 128 [ah,ai,iv y.2.2.1,aj]]:=⟨_,Lo (by rw [List.length_replicate]) (fun _=>rfl) (cy.sel [1,0,2,3] J)⟩
 refine AN (fun m a ar=>∃(z:Akk)(f:Int)(aa:Ap),St 74 [(1,iv q),(6,s),(7,.pointer (some ⟨n,0,none⟩)),(19,iv (List.length u8:Int)),(20,iv f)] a∧Bl g ar∧Sp g ar [Ab CF w s u8,A6 CQ 212 aa n z]∧Et u8 q m z f=some r) FU ?_ ?_
 exact fun a ha=>⟨(List.replicate 900 false,(List.length u8:Int),[],0),0,cz,ha.sb J,cv,c0.sel [1,0] J,b⟩
 rintro ab a ar ⟨z,f,aa,ha,bd,be,b⟩ el c1
 refine BC ?_ ha
 cases ab with
 | zero=>exact Be b
 | succ ab =>
  obtain ⟨bf,bg⟩:∃ k,k=Et u8 q ab:=⟨_,rfl⟩
  rw [Et,← bg] at b
  refine Am 1 J<|Ao fun _ c2=>A3 J b (fun _ b=>?_)<|fun _ b=>?_
  refine Au<|c2 ?_
  refine Ao fun _ c3=>A0<|Am 2 J<|Am 3 J<|A0<|AN (fun m a au=>∃(ac:Akk)(t:Int)(al:Ap),St 74 [(1,iv q),(6,s),(7,.pointer (some ⟨n,0,none⟩)),(8,iv f),(9,iv t),(19,iv (List.length u8:Int)),(20,iv f)] a∧Bl g au∧Sp g au [Ab CF w s u8,A6 CQ 212 al n ac]∧Es u8 f q bf m ac t=some r) FU ?_ ?_
  exact fun a ha=>⟨z,Ah (f+1),aa,ha.sb J,bd,be.sel [0,1] J,b⟩
  rintro ad a au ⟨ac,t,al,ha,bh,av,b⟩ em c4
  refine BC ?_ ha
  cases ad with
  | zero=>exact Be b
  | succ ad =>
   obtain ⟨bi,bj⟩:∃ k,k=Es u8 f q bf ad:=⟨_,rfl⟩
   rw [Es,← bj] at b
   refine Ao fun _ c5=>Al fun _ c6=>wp 2 J<|BO (av.own_ro (i:=0) J) underlying184 J<|An 1 J<|c6<|A3 J b (fun _ b=>?_)<|fun _ b=>?_
   refine Au<|c5 ?_
   refine Ao fun _ c7=>A0<|Am 1 J<|A0<|AN (fun m a aw=>∃(ae:Akk)(u:Int)(am:Ap),St 74 [(1,iv q),(6,s),(7,.pointer (some ⟨n,0,none⟩)),(8,iv f),(9,iv t),(10,iv u),(19,iv (List.length u8:Int)),(20,iv f)] a∧Bl g aw∧Sp g aw [Ab CF w s u8,A6 CQ 212 am n ae]∧Er u8 f t q bi m ae u=some r) FU ?_ ?_
   exact fun a ha=>⟨ac,0,al,ha.sb J,bh,av.sel [0,1] J,b⟩
   rintro af a aw ⟨ae,u,am,ha,bk,bl,b⟩ en c8
   refine BC ?_ ha
   cases af with
   | zero=>exact Be b
   | succ af =>
    obtain ⟨bm,bn⟩:∃ k,k=Er u8 f t q bi af:=⟨_,rfl⟩
    rw [Er,← bn] at b
    refine Ao fun _ c9=>Am 2 J<|A3 J b (fun _ b=>?_)<|fun _ b=>?_
    refine Au<|c9 ?_
    refine Ao fun _ da=>A0<|Am 1 J<|A0<|AN (fun m a ax=>∃(p:Akk)(x:Int)(ay:Ap),St 74 [(1,iv q),(6,s),(7,.pointer (some ⟨n,0,none⟩)),(8,iv f),(9,iv t),(10,iv u),(11,iv x),(19,iv (List.length u8:Int)),(20,iv f)] a∧Bl g ax∧Sp g ax [Ab CF w s u8,A6 CQ 212 ay n p]∧Ep u8 f t u q bm m p x=some r) FU ?_ ?_
    exact fun a ha=>⟨ae,0,am,ha.sb J,bk,bl.sel [0,1] J,b⟩
    rintro ag a ax ⟨p,x,ay,ha,bo,bp,b⟩ eo db
    refine BC ?_ ha
    cases ag with
    | zero=>exact Be b
    | succ ag =>
     obtain ⟨ep,bq⟩:∃ k,k=Ep u8 f t u q bm ag:=⟨_,rfl⟩
     rw [Ep,← bq] at b
     refine Ao fun _ dc=>Am 2 J<|A3 J b (fun _ b=>?_)<|fun _ b=>?_
     refine Au<|dc ?_
     refine Ao fun dd de=>?_
     obtain ⟨df,dg,b⟩:=Cb b
     have br:∀(an:Akk)(az:Ap)(ao:Af)(_:df an=some r)(_:Bl g ao)(_:Sp g ao [Ab CF w s u8,A6 CQ 212 az n an]),∀ a,St 74 [(1,iv q),(6,s),(7,.pointer (some ⟨n,0,none⟩)),(8,iv f),(9,iv t),(10,iv u),(11,iv x),(19,iv (List.length u8:Int)),(20,iv f)] a→dd a ao:=by
      intro an az ao b dh di
      subst dg
      refine de<|Aq<|An 3 J ?_
      rw [bq] at b
      exact fun a ha=>db a _ ag (AB ag) ⟨an,Ah (x+1),az,ha.sb J,dh,di.sel [0,1] J,b⟩
     refine A0 ?_
     obtain ⟨eq,er,bs,bt,dj⟩:=PE (bp.sel [1,0] J)
     refine AQ B1 [n] bo dj fun a0 _ bu ap=>?_
     have d:=KeepX.refl a0 [n]
     refine Ay 0 J c d<|Ay 1 J c d<|Ay 2 J c d<|Ay 3 J c d<|Ay 4 J c d<|Ay 5 J c d<|Ay 6 J c d<|bB b fun bv dk b=>Ad 7 J c d<|Bx (e:=CF) (i:=2) underlying184 J J J ap J dk ?_
     rintro es _ rfl bw et
     refine Ay 9 J c d<|Ay 10 J c d<|bB b fun bx dl b=>Ad 11 J c d<|Bx (e:=CF) (i:=2) underlying184 J J J ap J dl ?_
     rintro eu _ rfl bz ev
     refine Ay 13 J c d<|Ay 14 J c d<|Ay 15 J c d<|Ad 17 J c d<|B0 J J<|Ad 18 J c d<|C7 YX J ?_
     have b0:=HZ b
     replace b:=Bw b0 b
     refine Ad 19 J c d<|SH underlying210 Tryz.sizeOf209 b0 J J J ?_
     have b1:=HZ b
     replace b:=Bw b1 b
     refine Ad 20 J c d<|SH underlying209 Tryz.sizeOf208 b1 J J J ?_
     have b3:=HZ b
     replace b:=Bw b3 b
     refine Ad 21 J c d<|SH underlying208 Tryz.sizeOf207 b3 J J J<|CA (is:=[8,12]) (by kernel_rfl) J<|Bj.2 ⟨⟨_,rfl,?_⟩,Bj.2 ⟨⟨_,rfl,?_⟩,fun _ h=>by cases h⟩⟩
     refine BZ C8 J bw J ?_
     refine Ai<|Ar d<|A1 12 J<|BZ C8 J bz J<|Ai<|Ar d<|A1 16 J<|bB b fun ew dm b=>Bn J call220 bu ap (LO a0 bv bx u x q _ dm) J fun ex dn dp dq=>?_
     have a1:=d.ext dn
     refine Ai<|Ar a1 ?_
     have b4:=HZ b
     replace b:=Bw b4 b
     refine Ad 22 J c a1<|SH underlying207 Tryz.sizeOf4 b4 J J J<|A1 23 J<|bB b fun b5 a2 b=>sta 0 (pre:=[]) (arr:=(JX p.1)) (j:=f.toNat*150+t.toNat*25+u.toNat*5+x.toNat*1) Aec J J J dp dq J (Yv a2) (by simp only [List.length_nil,List.length_cons]; omega) fun dr b6 ds b7=>?_
     rw [Acm a2] at b7
     have dt:=a1.wr' b6.1 b6.2.1 (fun _ _ h=>h)
     refine Ai<|Ar dt<|Bc ?_
     obtain ⟨du,dv⟩:∃ F,Sp g dr [A6 CQ 212 F n (b5,p.2.1,p.2.2.1,p.2.2.2),Ab CF w s u8]:=⟨_,Lo (Uw a2 bs) bt (b7.sel [0,1,2] J)⟩
     exact jx (br ((b5,p.2.1,p.2.2.1,p.2.2.2)) du _ b ds (dv.sel [1,0] J)) J
     refine BZ C8 J bz J ?_
     refine Ai<|Ar d<|A1 8 J<|BZ C8 J bw J<|Ai<|Ar d<|A1 16 J<|bB b fun ey dw b=>Bn J call220 bu ap (LO a0 bv bx u x q _ dw) J fun ez dx dy dz=>?_
     have a3:=d.ext dx
     refine Ai<|Ar a3 ?_
     have b8:=HZ b
     replace b:=Bw b8 b
     refine Ad 22 J c a3<|SH underlying207 Tryz.sizeOf4 b8 J J J<|A1 23 J<|bB b fun b9 a4 b=>sta 0 (pre:=[]) (arr:=(JX p.1)) (j:=f.toNat*150+t.toNat*25+u.toNat*5+x.toNat*1) Aec J J J dy dz J (Yv a4) (by simp only [List.length_nil,List.length_cons]; omega) fun d0 ca d1 cb=>?_
     rw [Acm a4] at cb
     have d2:=a3.wr' ca.1 ca.2.1 (fun _ _ h=>h)
     refine Ai<|Ar d2<|Bc ?_
     obtain ⟨d3,d4⟩:∃ F,Sp g d0 [A6 CQ 212 F n (b9,p.2.1,p.2.2.1,p.2.2.2),Ab CF w s u8]:=⟨_,Lo (Uw a4 bs) bt (cb.sel [0,1,2] J)⟩
     exact jx (br ((b9,p.2.1,p.2.2.1,p.2.2.2)) d3 _ b d1 (d4.sel [1,0] J)) J
     refine Bb<|da ?_
     refine Aq<|An 3 J ?_
     rw [bn] at b
     exact fun a ha=>c8 a _ af (AB af) ⟨p,Ah (u+1),ay,ha.sb J,bo,bp.sel [0,1] J,b⟩
    refine Bb<|c7 ?_
    refine Aq<|An 3 J ?_
    rw [bj] at b
    exact fun a ha=>c4 a _ ad (AB ad) ⟨ae,Ah (t+1),am,ha.sb J,bk,bl.sel [0,1] J,b⟩
   refine Bb<|c3 ?_
   refine Aq<|An 2 J ?_
   rw [bg] at b
   exact fun a ha=>c1 a _ ab (AB ab) ⟨ac,Ah (f+1),al,ha.sb J,bh,av.sel [0,1] J,b⟩
  refine Bb<|cw ?_
  refine Al fun _ d5=>wp 1 J<|AZ (vs:=[]) (l:=[]) Cl underlying36 J J J J J J bd be fun a5 a6 d6 _ cc a7=>bB b fun a8 d7 b=>A7 J call221 (PX d6 z n aa [] a5 a6 0 (a7.sel [2,0] J).base0 _ d7) J ?_
  rintro _ d8 ⟨d9,rfl,ea,cd⟩
  refine ⟨_,rfl,?_⟩
  have eb:=a7.takeB [2,0] J (M:=[A6 CQ 212 aa n z,Ab As a6 a5 []]) J cc ea cd
  have ec:Sp g d8 [A6 CQ 212 d9 n a8,Ab CF w s u8]:=a7.take [2,0] [1] J (M:=[A6 CQ 212 aa n z,Ab As a6 a5 []]) J cd cc.size
  refine Ai<|d5<|Ao fun _ ed=>?_
  obtain ⟨ee,ef,ce,eg,eh⟩:=PE (ec.sel [0,1] J)
  refine AQ B1 [] eb eh fun ei _ ej a9=>?_
  have v:=KeepX.refl ei []
  refine Ay 0 J c v<|Ad 1 J c v<|B0 J J<|Ad 2 J c v<|C7 U9 J<|Ad 3 J c v<|Acy 0 (pre:=(JX a8.1)) (k:=900) (o:=1) FA J J a9 J (Uy ce) J J (by simp)<|Ay 4 J c v<|Ad 5 J c v<|B0 J J<|Ad 6 J c v<|C7 U8 J<|Ad 7 J c v<|Acy 0 (pre:=(JX a8.1)) (k:=900) (o:=2) A9 J J a9 J (Uy ce) J J (by simp)<|Ad 8 J c v<|AD J J<|Ad 9 J c v<|AD J J<|Bc<|ed<|Aw<|rt hQ J J<|by cases b; exact ⟨ee,ef,rfl,eg,ej,a9.sel [1] J⟩
theorem TU(f:Af)(d:Akg×Akg×Int×List Int)(g:Ac)(q:RO At f g d.1)(h:Ac)(s:RO At f h d.2.1)(j:Ac)(t:RO As f j d.2.2.2)(k:Int)(r:Int×Bool)(b:Jo d k=some r) :
  A2 124 [.agg #[g,h,iv d.2.2.1,j],iv k] f fun e w'=>e=.returned (.tuple #[iv r.1,.bool r.2])∧Bl f w':=by
 refine cm func124 ntmps124 J fun Q m hP hB hS=>?_
 unfold Jo at b
 refine Al fun _ ai=>CV J hB hS fun w w3 _ u x=>An 2 J<|ai<|Ao fun _ ak=>Ao fun K8 am=>?_
 obtain ⟨an,ao,b⟩:=Cb b
 have y:∀(v:Bool)(n:Af)(_:an v=some r)(_:Bl f n)(_:Sp f n [Av w 128 [g,h,iv d.2.2.1,j]]),∀ a,St 38 [(1,iv k),(2,.pointer (some ⟨w,0,none⟩)),(18,.bool v)] a→K8 a n:=by
  intro v n b o z
  subst ao
  refine am<|A3 J b (fun _ b=>?_)<|fun _ b=>?_
  refine Am 2 J ?_
  refine Aw<|rt m J J<|by cases b; exact ⟨rfl,o⟩
  refine Au<|ak ?_
  refine Ao fun _ ap=>Al fun _ aq=>AU 0 Bs J z J J<|wp 1 J<|bB b fun be ar b=>Bn J call179 o z (NV n d g (q.ro o) h (s.ro o) j (t.ro o) k _ ar) J fun au _ p aa=>Ai<|aq<|A3 J b (fun _ b=>?_)<|fun _ b=>?_
  refine Am 2 J ?_
  refine Aw<|rt m J J<|by cases b; exact ⟨rfl,p⟩
  refine Au<|ap ?_
  refine Ao fun _ av=>Al fun _ aw=>AU 0 Bs J aa J J<|wp 1 J<|bB b fun bf ax b=>Bn J call180 p aa (TQ au d g (q.ro p) h (s.ro p) j (t.ro p) k _ ax) J fun ay _ l ab=>An 7 J<|aw<|Am 1 J<|A3 J b (fun _ b=>?_)<|fun _ b=>?_
  refine Am 2 J ?_
  refine Aw<|rt m J J<|by cases b; exact ⟨rfl,l⟩
  refine Au<|av ?_
  refine Ao fun _ az=>Al fun _ a0=>AU 0 Bs J ab J J<|wp 1 J<|bB b fun bg a1 b=>A7 J call181 (Ti ay d g (q.ro l) h (s.ro l) j (t.ro l) k _ a1) J ?_
  rintro _ bh ⟨bi,bj,rfl,a2,ac,a3⟩
  refine ⟨_,rfl,?_⟩
  have ad:=tm l ac
  have a4:=ab.join ac a3 l.size
  refine An 5 J<|a0<|Al fun _ a5=>wp 1 J<|ZR underlying36 (a4.ok (i:=0) J) a2 J J J<|Ai<|a5<|A3 J b (fun _ b=>?_)<|fun _ b=>?_
  refine Am 2 J ?_
  refine Aw<|rt m J J<|by cases b; exact ⟨rfl,ad⟩
  refine Au<|az ?_
  refine Am 2 J<|Aw<|rt m J J<|by cases b; exact ⟨rfl,ad⟩
 refine Aq<|AU 0 Bs J x J J<|bB b fun a6 a7 b=>Bn J call177 u x (TS w3 d g (q.ro u) h (s.ro u) j (t.ro u) _ a7) J fun a8 _ ae af=>wp 2 J ?_
 rcases bE (!a6) with c|c
 replace b:=Bw c b
 refine wo J c<|wo J c<|wo J c<|A8 J J c J<|Ai ?_
 exact jx (y true _ b ae (af.sel [0] J)) J
 replace b:=BI c b
 refine wn J c<|wp 1 J<|wn J c<|bB b fun a9 ba b=>Bn J call178 ae af (Ry a8 k _ ba) J fun bk _ bb bc=>wn J c<|wp 1 J<|Ak J J c J<|Ai ?_
 exact jx (y (!a9) _ b bb (bc.sel [0] J)) J
theorem Tk(g:Af)(h:Akg)(l:Ac)(i:RO At g l h)(r:Int×Int)(b:IF h=some r) :
  A2 182 [l] g fun e w'=>e=.returned (.tuple #[iv r.1,iv r.2])∧Bl g w':=by
 refine cm func182 ntmps182 J fun Q hQ c hB hS=>?_
 unfold IF at b
 refine Am 2 J<|Am 2 J<|Ao fun _ ap=>Al fun _ aq=>wp 1 J<|BO i underlying26 J<|An 1 J<|aq<|A0<|AN (fun m a y=>∃(t u f:Int),St 45 [(0,l),(4,iv t),(5,iv u),(9,iv (List.length h:Int)),(10,iv f)] a∧Bl g y∧Sp g y []∧Ev h m t u f=some r) FU ?_ ?_
 exact fun a ha=>⟨0,1,0,ha.sb J,hB,hS.sel [] J,b⟩
 rintro n a y ⟨t,u,f,ha,aa,ar,b⟩ br au
 refine BC ?_ ha
 cases n with
 | zero=>exact Be b
 | succ n =>
  obtain ⟨ab,ac⟩:∃ k,k=Ev h n:=⟨_,rfl⟩
  rw [Ev,← ac] at b
  refine Am 1 J<|Ao fun _ av=>A3 J b (fun _ b=>?_)<|fun _ b=>?_
  refine Au<|av ?_
  refine Ao fun _ aw=>A0<|Am 2 J<|Am 3 J<|A0<|AN (fun m a z=>∃(o p j:Int),St 45 [(0,l),(4,iv o),(5,iv p),(6,iv f),(7,iv j),(9,iv (List.length h:Int)),(10,iv f)] a∧Bl g z∧Sp g z []∧DC h f ab m o p j=some r) FU ?_ ?_
  exact fun a ha=>⟨t,u,Ah (f+1),ha.sb J,aa,ar.sel [] J,b⟩
  rintro q a z ⟨o,p,j,ha,ad,ae,b⟩ bs ax
  refine BC ?_ ha
  cases q with
  | zero=>exact Be b
  | succ q =>
   obtain ⟨bt,af⟩:∃ k,k=DC h f ab q:=⟨_,rfl⟩
   rw [DC,← af] at b
   refine Ao fun _ ay=>Al fun _ az=>wp 2 J<|BO i underlying26 J<|An 1 J<|az<|A3 J b (fun _ b=>?_)<|fun _ b=>?_
   refine Au<|ay ?_
   refine Ao fun a0 a1=>?_
   obtain ⟨a2,a3,b⟩:=Np b
   have ag:∀(v w:Int)(x:Af)(_:a2 v w=some r)(_:Bl g x)(_:Sp g x []),∀ a,St 45 [(0,l),(4,iv v),(5,iv w),(6,iv f),(7,iv j),(9,iv (List.length h:Int)),(10,iv f)] a→a0 a x:=by
    intro v w x b a4 a5
    subst a3
    refine a1<|Aq<|An 3 J ?_
    rw [af] at b
    exact fun a ha=>ax a _ q (AB q) ⟨v,w,Ah (j+1),ha.sb J,a4,a5.sel [] J,b⟩
   refine A0<|Ao fun _ a6=>AQ B1 [] ad ae fun ah _ s a7=>?_
   have d:=KeepX.refl ah []
   refine Ay 0 J c d<|Ay 1 J c d<|bB b fun a8 a9 b=>Ad 2 J c d<|B7 (e:=At) underlying26 J J J i a9 ?_
   rintro bu _ rfl ba
   refine Ad 3 J c d<|BR Bt J (ba.kx s (by simp)) J<|Ay 4 J c d<|Ay 5 J c d<|bB b fun bb bc b=>Ad 6 J c d<|B7 (e:=At) underlying26 J J J i bc ?_
   rintro bv _ rfl bd
   refine Ad 7 J c d<|BR Bt J (bd.kx s (by simp)) J<|Ay 9 J c d<|Ay 10 J c d<|bB b fun be bf b=>Ad 11 J c d<|B7 (e:=At) underlying26 J J J i bf ?_
   rintro bw _ rfl bg
   refine Ad 12 J c d<|BR Bt J (bg.kx s (by simp)) J<|Ay 13 J c d<|Ay 14 J c d<|bB b fun bh bi b=>Ad 15 J c d<|B7 (e:=At) underlying26 J J J i bi ?_
   rintro bx _ rfl bj
   refine Ad 16 J c d<|BR Bt J (bj.kx s (by simp)) J<|A1 8 J<|bB b fun bz bk b=>Bn J call183 s a7 (HK ah a8 bb _ bk) J fun bl bm bn bo=>?_
   have ai:=d.ext bm
   refine Ai<|Ar ai<|A1 17 J<|bB b fun b0 bp b=>Bn J call183 bn bo (HK bl be bh _ bp) J fun b1 bq aj ak=>?_
   have al:=ai.ext bq
   refine Ai<|Ar al<|Ad 18 J c al<|MB J J J<|Bc<|a6<|A3 J b (fun _ b=>?_)<|fun _ b=>?_
   refine Aq ?_
   refine An 4 J ?_
   exact jx (ag f j _ b aj (ak.sel [] J)) J
   refine Au ?_
   exact jx (ag o p _ b aj (ak.sel [] J)) J
   refine Bb<|aw ?_
   refine Aq<|An 2 J ?_
   rw [ac] at b
   exact fun a ha=>au a _ n (AB n) ⟨o,p,Ah (f+1),ha.sb J,ad,ae.sel [] J,b⟩
  refine Bb<|ap ?_
  refine Am 4 J<|Aw<|rt hQ J J<|by cases b; exact ⟨rfl,aa⟩
theorem Tm(g:Af)(h:Akg)(i:Ac)(j:RO At g i h)(r:Int×Bool)(b:Fn h=some r) :
  A2 125 [i] g fun e w'=>e=.returned (.tuple #[iv r.1,.bool r.2])∧Bl g w':=by
 refine cm func125 ntmps125 J fun Q p d q x=>?_
 unfold Fn at b
 refine Am 2 J<|Ao fun _ y=>Ao fun z aa=>?_
 obtain ⟨k8,ac,b⟩:=Cb b
 have s:∀(l:Bool)(k:Af)(_:k8 l=some r)(_:Bl g k)(_:Sp g k []),∀ a,St 28 [(0,i),(13,.bool l)] a→z a k:=by
  intro l k b m ad
  subst ac
  refine aa<|A3 J b (fun _ b=>?_)<|fun _ b=>?_
  refine Am 2 J ?_
  refine Aw<|rt p J J<|by cases b; exact ⟨rfl,m⟩
  refine Au<|y ?_
  refine Al fun _ ae=>wp 1 J<|bB b fun av af b=>Bn J call182 m ad (Tk k h i (j.ro m) _ af) J fun aw _ ag ah=>An 5 J<|ae<|Ao fun _ ai=>AQ B1 [] ag ah fun t _ n _=>?_
  have f:=KeepX.refl t []
  refine Ay 0 J d f<|Ay 1 J d f<|bB b fun aj ak b=>Ad 2 J d f<|B7 (e:=At) underlying26 J J J j ak ?_
  rintro ax _ rfl al
  refine Ad 3 J d f<|BR Bt J (al.kx n (by simp)) J<|Ay 4 J d f<|Ay 5 J d f<|bB b fun am an b=>Ad 6 J d f<|B7 (e:=At) underlying26 J J J j an ?_
  rintro ay _ rfl ao
  refine Ad 7 J d f<|BR Bt J (ao.kx n (by simp)) J<|A1 8 J<|bB b fun az ap b=>A7 J call183 (HK t aj am _ ap) J ?_
  rintro _ a0 ⟨rfl,u⟩
  refine ⟨_,rfl,?_⟩
  have aq:=tm n u
  have o:=f.ext u
  refine Ai<|Ar o<|Ad 9 J d o<|AD J J<|Ad 10 J d o<|AD J J<|Bc<|ai<|Aw<|rt p J J<|by cases b; exact ⟨rfl,aq⟩
 refine Aq<|wp 1 J<|bB b fun ar au b=>Bn J call43 q x (GA g h i (j.ro q) _ au) J fun a1 _ v w=>wp 2 J ?_
 rcases bE (!ar) with c|c
 replace b:=Bw c b
 refine wo J c<|wo J c<|wo J c<|A8 J J c J<|Ai ?_
 exact jx (s true _ b v (w.sel [] J)) J
 replace b:=BI c b
 refine wn J c<|wp 1 J<|wn J c<|BO j underlying26 J<|wn J c<|wp 1 J<|Ak J J c J<|Ai ?_
 exact jx (s (decide ((List.length h:Int)<2)) _ b v (w.sel [] J)) J
theorem PW(c:Af)(i:Tab c)(d:Int)(r:List Ag)(b:Iv d=some r) :
  A2 184 [iv d] c fun e w'=>e=.returned (.string (AL r))∧Bl c w':=by
 refine cm func184 ntmps184 J fun Q m hP j n=>?_
 unfold Iv at b
 refine Am 1 J<|Al fun _ o=>wp 1 J<|O0 J J J (by decide)<|bB b fun p q b=>Bn J call130 j n (EZ c (i.st j) (Ah (Int.tdiv d 8)) _ q) J fun s _ g k=>An 1 J<|o<|Ao fun t u=>?_
 obtain ⟨v,w,b⟩:=Cb b
 have l:∀(h:List Ag)(f:Af)(_:v h=some r)(_:Bl c f)(_:Sp c f []),∀ a,St 17 [(3,.string (AL h))] a→t a f:=by
  intro h f b x ag
  subst w
  refine u<|Am 2 J<|Aw<|rt m J J<|by cases b; exact ⟨rfl,x⟩
 refine Al fun _ y=>wp 1 J<|QR J J J (by decide)<|An 1 J<|y<|A3 J b (fun _ b=>?_)<|fun _ b=>?_
 refine Aq ?_
 refine wp 2 J<|QR J J J (by decide)<|bB b fun ah z b=>Bn J call130 g k (EZ s (i.st g) (Int.tmod d 8) _ z) J fun ai _ aa ab=>bB b fun aj ac b=>BA J J J ac<|bB b fun ad ae b=>BA J J J ae<|An 1 J ?_
 exact jx (l ad _ b aa (ab.sel [] J)) J
 refine Au ?_
 exact jx (l p _ b g (k.sel [] J)) J
theorem VW(g:Af)(i:Tab g)(c:Int×Int)(r:(List Ag)×Bool)(a:KD c=some r) :
  A2 126 [.agg #[iv c.1,iv c.2]] g fun e w'=>e=.returned (.tuple #[.string (AL r.1),.bool r.2])∧Bl g w':=by
 refine cm func126 ntmps126 J fun Q j b t u=>?_
 unfold KD at a
 refine Al fun _ v=>CV J t u fun b2 w _ x k=>An 2 J<|v<|Ao fun _ y=>Al fun _ z=>AU 0 Bt J k J J<|bB a fun u9 aa a=>Bn J call61 x k (LD w c _ aa) J fun al _ l ab=>An 1 J<|z<|A3 J a (fun _ a=>?_)<|fun _ a=>?_
 refine Am 2 J ?_
 refine Aw<|rt j J J<|by cases a; exact ⟨rfl,l⟩
 refine Au<|y ?_
 refine Ao fun _ ac=>AQ B1 [] l ab fun m _ n o=>?_
 have d:=KeepX.refl m []
 refine Ad 0 J b d<|C7 CY J<|Ad 1 J b d<|CN 0 A9 J o J (by simp)<|Ad 4 J b d<|C7 CX J<|Ad 5 J b d<|CN 0 A9 J o J (by simp)<|A1 2 J<|bB a fun am ad a=>A7 J call184 (PW m (i.st n) c.1 _ ad) J ?_
 rintro _ ae ⟨rfl,p⟩
 refine ⟨_,rfl,?_⟩
 have q:=tm n p
 have h:=d.ext p
 refine Ai<|Ar h<|bB a fun an af a=>Ad 3 J b h<|FH J J J af<|A1 6 J<|bB a fun ao ag a=>A7 J call184 (PW ae (i.st q) c.2 _ ag) J ?_
 rintro _ ap ⟨rfl,s⟩
 refine ⟨_,rfl,?_⟩
 have ah:=tm q s
 have f:=h.ext s
 refine Ai<|Ar f<|bB a fun aq ai a=>Ad 7 J b f<|FH J J J ai<|Ad 8 J b f<|AD J J<|Ad 9 J b f<|AD J J<|Bc<|ac<|Aw<|rt j J J<|by cases a; exact ⟨rfl,ah⟩
theorem UN(d:Af)(f g:Int×Int)(r:Int)(b:Lx f g=some r) :
  A2 185 [.agg #[iv f.1,iv f.2],.agg #[iv g.1,iv g.2]] d fun e w'=>e=.returned (iv r)∧Bl d w':=by
 refine cm func185 ntmps185 J fun Q p hP q s=>?_
 unfold Lx at b
 refine Al fun _ t=>CV J q s fun b2 w3 _ u v=>CV J u v fun b7 w _ x i=>An 1 J<|t<|Al fun _ y=>AU 1 Bt J i J J<|AU 0 Bt J i J J<|bB b fun j z b=>Bn J call183 x i (HK w f g _ z) J fun ak _ aa ab=>An 2 J<|y<|Ao fun _ ac=>A0<|AN (fun m a l=>∃(h:Int),St 21 [(5,iv j),(6,iv h)] a∧Bl d l∧Sp d l []∧Eh j m h=some r) FU ?_ ?_
 exact fun a ha=>⟨0,ha.sb J,aa,ab.sel [] J,b⟩
 rintro c a l ⟨h,ha,n,ad,b⟩ al ae
 refine BC ?_ ha
 cases c with
 | zero=>exact Be b
 | succ c =>
  obtain ⟨am,o⟩:∃ k,k=Eh j c:=⟨_,rfl⟩
  rw [Eh,← o] at b
  refine Ao fun _ af=>Am 8 J<|A3 J b (fun _ b=>?_)<|fun _ b=>?_
  refine Au<|af ?_
  refine A0<|Aq<|An 3 J ?_
  rw [o] at b
  exact fun a ha=>ae a _ c (AB c) ⟨Ah (h+1),ha.sb J,n,ad.sel [] J,b⟩
  refine Bb<|ac ?_
  refine Am 2 J<|Aw<|rt p J J<|by cases b; exact ⟨rfl,n⟩
theorem UQ(h:Af)(d f:Int×Int)(r:Int×Bool)(b:Hj d f=some r) :
  A2 127 [.agg #[iv d.1,iv d.2],.agg #[iv f.1,iv f.2]] h fun e w'=>e=.returned (.tuple #[iv r.1,.bool r.2])∧Bl h w':=by
 refine cm func127 ntmps127 J fun Q k hP t u=>?_
 unfold Hj at b
 refine Al fun _ v=>CV J t u fun l w3 _ w x=>CV J w x fun m y _ z n=>An 2 J<|v<|Ao fun _ aa=>Ao fun ab ac=>?_
 obtain ⟨ad,ae,b⟩:=Cb b
 have o:∀(i:Bool)(g:Af)(_:ad i=some r)(_:Bl h g)(_:Sp h g [Av l 79 [iv d.1,iv d.2],Av m 79 [iv f.1,iv f.2]]),∀ a,St 17 [(2,.pointer (some ⟨l,0,none⟩)),(3,.pointer (some ⟨m,0,none⟩)),(13,.bool i)] a→ab a g:=by
  intro i g b p q
  subst ae
  refine ac<|A3 J b (fun _ b=>?_)<|fun _ b=>?_
  refine Am 2 J ?_
  refine Aw<|rt k J J<|by cases b; exact ⟨rfl,p⟩
  refine Au<|aa ?_
  refine Al fun _ af=>AU 0 Bt J q J J<|AU 1 Bt J q J J<|bB b fun au ag b=>A7 J call185 (UN g d f _ ag) J ?_
  rintro _ av ⟨rfl,ah⟩
  refine ⟨_,rfl,?_⟩
  have ai:=tm p ah
  refine An 2 J<|af<|Aw<|rt k J J<|by cases b; exact ⟨rfl,ai⟩
 refine Aq<|AU 1 Bt J n J J<|bB b fun aj ak b=>Bn J call61 z n (LD y d _ ak) J fun al _ s j=>wp 2 J ?_
 rcases bE (!aj) with c|c
 replace b:=Bw c b
 refine wo J c<|wo J c<|wo J c<|A8 J J c J<|Ai ?_
 exact jx (o true _ b s (j.sel [1,0] J)) J
 replace b:=BI c b
 refine wn J c<|AU 0 Bt J j J J<|wn J c<|bB b fun am an b=>Bn J call61 s j (LD al f _ an) J fun aw _ ao ap=>wn J c<|wp 1 J<|Ak J J c J<|Ai ?_
 exact jx (o (!am) _ b ao (ap.sel [1,0] J)) J
theorem VU(c:Af)(d:Akg)(i:Ac)(n:RO BN c i d)(r:Int)(b:KC d=some r) :
  A2 186 [i] c fun e w'=>e=.returned (iv r)∧Bl c w':=by
 refine cm func186 ntmps186 J fun Q q hP s t=>?_
 unfold KC at b
 refine Am 1 J<|Am 1 J<|Ao fun _ u=>Al fun _ v=>wp 1 J<|BO n underlying31 J<|An 1 J<|v<|A0<|AN (fun m a j=>∃(g h:Int),St 18 [(3,iv g),(6,i),(7,iv (List.length d:Int)),(8,iv h)] a∧Bl c j∧Sp c j []∧Fm d m g h=some r) FU ?_ ?_
 exact fun a ha=>⟨0,0,ha.sb J,s,t.sel [] J,b⟩
 rintro f a j ⟨g,h,ha,l,w,b⟩ ai x
 refine BC ?_ ha
 cases f with
 | zero=>exact Be b
 | succ f =>
  obtain ⟨aj,o⟩:∃ k,k=Fm d f:=⟨_,rfl⟩
  rw [Fm,← o] at b
  refine Am 1 J<|Ao fun _ y=>A3 J b (fun _ b=>?_)<|fun _ b=>?_
  refine Au<|y ?_
  refine Ao fun _ z=>A0<|Al fun _ aa=>bB b fun ab ac b=>BT (e:=BN) underlying31 J J J n ac ?_
  rintro ak _ rfl ad
  refine BZ Hb J (ad.ro l) J<|EE Hb J l w fun al am _ ae af=>GC 0 Hb J J ae af J J J fun an _ ag p=>Ai<|aa<|Aq<|wp 1 J<|Bp LI J<|AU 0 A9 J p J J<|An 2 J<|z<|Aq<|An 2 J ?_
  rw [o] at b
  exact fun a ha=>x a _ f (AB f) ⟨Ah (g+ab.1),Ah (h+1),ha.sb J,ag,p.sel [] J,b⟩
  refine Bb<|u ?_
  refine Am 2 J<|Aw<|rt q J J<|by cases b; exact ⟨rfl,l⟩
theorem XS(d:Af)(f:Akg)(p:Ac)(u:RO BN d p f)(q r:Int)(b:Km f q=some r) :
  A2 187 [p,iv q] d fun e w'=>e=.returned (iv r)∧Bl d w':=by
 refine cm func187 ntmps187 J fun Q v hP y z=>?_
 unfold Km at b
 refine Am 1 J<|Am 1 J<|Ao fun _ aa=>Al fun _ ab=>wp 1 J<|BO u underlying31 J<|An 1 J<|ab<|A0<|AN (fun m a s=>∃(i j l:Int),St 39 [(1,iv i),(5,iv j),(8,p),(9,iv (List.length f:Int)),(10,iv l)] a∧Bl d s∧Sp d s []∧Hi f m i j l=some r) FU ?_ ?_
 exact fun a ha=>⟨q,0,0,ha.sb J,y,z.sel [] J,b⟩
 rintro g a s ⟨i,j,l,ha,t,ac,b⟩ aq ad
 refine BC ?_ ha
 cases g with
 | zero=>exact Be b
 | succ g =>
  obtain ⟨ar,w⟩:∃ k,k=Hi f g:=⟨_,rfl⟩
  rw [Hi,← w] at b
  refine Am 1 J<|Ao fun _ ae=>A3 J b (fun _ b=>?_)<|fun _ b=>?_
  refine Au<|ae ?_
  refine Ao fun _ af=>A0<|Al fun _ ag=>bB b fun h ah b=>BT (e:=BN) underlying31 J J J u ah ?_
  rintro au _ rfl ai
  refine BZ Hb J (ai.ro t) J<|EE Hb J t ac fun av aw _ aj ak=>GC 0 Hb J J aj ak J J J fun ax _ x c=>Ai<|ag<|Ao fun _ al=>Al fun _ am=>wp 1 J<|Bp LI J<|AU 0 A9 J c J J<|An 1 J<|am<|A3 J b (fun _ b=>?_)<|fun _ b=>?_
  refine Al fun _ an=>?_
  refine wp 3 J<|Bp Pw J<|AU 0 A9 J c J J ?_
  have n:h.2≠0:=fun n=>Be (Bw n b)
  replace b:=Md n b
  refine O0 J J J n<|An 2 J<|an<|Aw<|rt v J J<|by cases b; exact ⟨rfl,x⟩
  refine Au<|al ?_
  refine Al fun _ ao=>wp 1 J<|Bp LI J<|AU 0 A9 J c J J<|wp 1 J<|Bp Pw J<|AU 0 A9 J c J J ?_
  have o:h.2≠0:=fun o=>Be (Bw o b)
  replace b:=Md o b
  refine O0 J J J o<|An 2 J<|ao<|Aq<|wp 1 J<|Bp LI J<|AU 0 A9 J c J J<|An 2 J<|af<|Aq<|An 2 J ?_
  rw [w] at b
  exact fun a ha=>ad a _ g (AB g) ⟨Ah (i-h.1),Ah (j+(Ah (Int.tdiv (Ah (60000*h.1)) h.2))),Ah (l+1),ha.sb J,x,c.sel [] J,b⟩
  refine Bb<|aa ?_
  refine Am 2 J<|Aw<|rt v J J<|by cases b; exact ⟨rfl,t⟩
theorem XT(d:Af)(g:Akg)(f:Ac)(j:RO BN d f g)(h:Int)(r:Int×Bool)(b:LC g h=some r) :
  A2 128 [f,iv h] d fun e w'=>e=.returned (.tuple #[iv r.1,.bool r.2])∧Bl d w':=by
 refine cm func128 ntmps128 J fun Q n hP o s=>?_
 unfold LC at b
 refine Am 2 J<|Ao fun _ t=>Ao fun u v=>?_
 obtain ⟨w,x,b⟩:=Cb b
 have p:∀(k:Bool)(i:Af)(_:w k=some r)(_:Bl d i)(_:Sp d i []),∀ a,St 19 [(0,f),(1,iv h),(15,.bool k)] a→u a i:=by
  intro k i b l ap
  subst x
  refine v<|A3 J b (fun _ b=>?_)<|fun _ b=>?_
  refine Am 2 J ?_
  refine Aw<|rt n J J<|by cases b; exact ⟨rfl,l⟩
  refine Au<|t ?_
  refine Al fun _ y=>wp 2 J<|bB b fun aq z b=>A7 J call187 (XS i g f (j.ro l) h _ z) J ?_
  rintro _ ar ⟨rfl,aa⟩
  refine ⟨_,rfl,?_⟩
  have ab:=tm l aa
  refine An 2 J<|y<|Aw<|rt n J J<|by cases b; exact ⟨rfl,ab⟩
 refine Aq<|wp 1 J<|bB b fun ac ad b=>Bn J call44 o s (Oq d g f (j.ro o) _ ad) J fun ae _ m q=>wp 2 J ?_
 rcases bE (!ac) with c|c
 replace b:=Bw c b
 refine wo J c<|wo J c<|wo J c<|wo J c<|wo J c<|A8 J J c J<|Ai ?_
 exact jx (p true _ b m (q.sel [] J)) J
 replace b:=BI c b
 refine wn J c<|wp 1 J<|wn J c<|wp 1 J<|wn J c<|bB b fun af ag b=>Bn J call186 m q (VU ae g f (j.ro m) _ ag) J fun ah _ ai aj=>wn J c<|bB b fun ak al b=>Bn J call60 ai aj (C1 ah h 0 af _ al) J fun au _ am an=>wn J c<|wp 1 J<|Ak J J c J<|Ai ?_
 exact jx (p (!ak) _ b am (an.sel [] J)) J
theorem UR(h:Af)(l:Akh)(o:Ac)(v:RO A4 h o l)(j i:Int)(r:Int×Bool)(b:JN l j i=some r) :
  A2 129 [o,iv j,iv i] h fun e w'=>e=.returned (.tuple #[iv r.1,.bool r.2])∧Bl h w':=by
 refine cm func129 ntmps129 J fun Q w hP hB hS=>?_
 unfold JN at b
 refine Am 2 J<|Ao fun _ ap=>Ao fun K3 ar=>?_
 obtain ⟨k8,av,b⟩:=Cb b
 have x:∀(y:Bool)(t:Af)(_:k8 y=some r)(_:Bl h t)(_:Sp h t []),∀ a,St 48 [(0,o),(1,iv j),(2,iv i),(22,.bool y)] a→K3 a t:=by
  intro y t b af aw
  subst av
  refine ar<|A3 J b (fun _ b=>?_)<|fun _ b=>?_
  refine Am 2 J ?_
  refine Aw<|rt w J J<|by cases b; exact ⟨rfl,af⟩
  refine Au<|ap ?_
  refine Ao fun _ ax=>Al fun _ ay=>wp 1 J<|BO v underlying72 J<|An 1 J<|ay<|A0<|AN (fun m a z=>∃(q:Int),St 48 [(1,iv j),(2,iv i),(23,o),(24,iv (List.length l:Int)),(25,iv q)] a∧Bl h z∧Sp h z []∧ER l j i m q=some r) FU ?_ ?_
  exact fun a ha=>⟨0,ha.sb J,af,aw.sel [] J,b⟩
  rintro s a z ⟨q,ha,aa,az,b⟩ bn a0
  refine BC ?_ ha
  cases s with
  | zero=>exact Be b
  | succ s =>
   obtain ⟨bo,ag⟩:∃ k,k=ER l j i s:=⟨_,rfl⟩
   rw [ER,← ag] at b
   refine Am 1 J<|Ao fun _ a1=>A3 J b (fun _ b=>?_)<|fun _ b=>?_
   refine Au<|a1 ?_
   refine Ao fun _ a2=>A0<|Al fun _ a3=>bB b fun n a4 b=>BT (e:=A4) underlying72 J J J v a4 ?_
   rintro bp _ rfl a5
   refine BZ BJ J (a5.ro aa) J<|EE BJ J aa az fun ah bq _ a6 a7=>GC 0 BJ J J a6 a7 J J J fun br _ ab p=>Ai<|a3<|Ao fun a8 a9=>?_
   obtain ⟨ba,bb,b⟩:=Cb b
   have ac:∀(ad:Bool)(u:Af)(_:ba ad=some r)(_:Bl h u)(_:Sp h u [Av ah 125 [iv n.1,iv n.2.1,iv n.2.2.1,iv n.2.2.2]]),∀ a,St 48 [(1,iv j),(2,iv i),(9,.pointer (some ⟨ah,0,none⟩)),(23,o),(24,iv (List.length l:Int)),(25,iv q),(44,.bool ad)] a→a8 a u:=by
    intro ad u b ai aj
    subst bb
    refine a9<|A3 J b (fun _ b=>?_)<|fun _ b=>?_
    refine Al fun _ bc=>?_
    refine Bp KK J<|AU 0 A9 J aj J J<|An 2 J<|bc<|Aw<|rt w J J<|by cases b; exact ⟨rfl,ai⟩
    refine Au<|a2 ?_
    refine Aq<|An 2 J ?_
    rw [ag] at b
    exact fun a ha=>a0 a _ s (AB s) ⟨Ah (q+1),ha.sb J,ai,aj.sel [] J,b⟩
   refine Aq<|Bp IW J<|AU 0 A9 J p J J<|wp 3 J ?_
   rcases bE (n.2.1==j) with c|c
   replace b:=Bw c b
   refine wn J c<|Bp Ee J<|wn J c<|AU 0 A9 J p J J<|wn J c<|wp 1 J<|wn J c<|wp 1 J<|A8 J J c J<|wp 1 J ?_
   rcases bE (decide (n.2.2.1≤i)) with d|d
   replace b:=Bw d b
   refine wn J d<|wp 1 J<|wn J d<|Bp H8 J<|wn J d<|AU 0 A9 J p J J<|wn J d<|wp 1 J<|A8 J J d J<|Ai ?_
   exact jx (ac (decide (i<n.2.2.2)) _ b ab (p.sel [0] J)) J
   replace b:=BI d b
   refine wo J d<|wo J d<|wo J d<|wo J d<|Ak J J d J<|Ai ?_
   exact jx (ac false _ b ab (p.sel [0] J)) J
   replace b:=BI c b
   refine wo J c<|wo J c<|wo J c<|wo J c<|Ak J J c J<|wp 1 J<|wo J J<|wo J J<|wo J J<|wo J J<|Ak J J J J<|Ai ?_
   exact jx (ac false _ b ab (p.sel [0] J)) J
   refine Bb<|ax ?_
   refine Am 2 J<|Aw<|rt w J J<|by cases b; exact ⟨rfl,aa⟩
 refine Aq<|wp 1 J<|bB b fun bd be b=>Bn J call116 hB hS (OX h l o (v.ro hB) _ be) J fun bf _ ak al=>wp 2 J ?_
 rcases bE (!bd) with f|f
 replace b:=Bw f b
 refine wo J f<|wo J f<|wo J f<|A8 J J f J<|wp 1 J<|wo J J<|wo J J<|wo J J<|A8 J J J J<|Ai ?_
 exact jx (x true _ b ak (al.sel [] J)) J
 replace b:=BI f b
 refine wn J f<|wp 1 J<|wn J f<|bB b fun bg bh b=>Bn J call60 ak al (C1 bf j 1 9 _ bh) J fun bi _ am an=>wn J f<|wp 1 J<|Ak J J f J<|wp 1 J ?_
 rcases bE (!bg) with g|g
 replace b:=Bw g b
 refine wo J g<|wo J g<|wo J g<|A8 J J g J<|Ai ?_
 exact jx (x true _ b am (an.sel [] J)) J
 replace b:=BI g b
 refine wn J g<|wp 1 J<|wn J g<|bB b fun u64 bj b=>Bn J call60 am an (C1 bi i 0 999 _ bj) J fun bs _ bk bl=>wn J g<|wp 1 J<|Ak J J g J<|Ai ?_
 exact jx (x (!u64) _ b bk (bl.sel [] J)) J
theorem Tj(c:Af)(d:Akj)(i:Ac)(o:RO Cg c i d)(f:List Int)(n:Ac)(p:RO As c n f)(r:Bool)(b:IE d f=some r) :
  A2 223 [i,n] c fun e w'=>e=.returned (.bool r)∧Bl c w':=by
 refine cm func223 ntmps223 J fun Q q hP u v=>?_
 unfold IE at b
 refine Am 1 J<|Ao fun _ w=>Al fun _ x=>wp 1 J<|BO p underlying36 J<|An 1 J<|x<|A0<|AN (fun m a g=>∃(j:Int),St 22 [(0,i),(7,n),(8,iv (List.length f:Int)),(9,iv j)] a∧Bl c g∧Sp c g []∧Eu f d m j=some r) FU ?_ ?_
 exact fun a ha=>⟨0,ha.sb J,u,v.sel [] J,b⟩
 rintro h a g ⟨j,ha,l,y,b⟩ ao z
 refine BC ?_ ha
 cases h with
 | zero=>exact Be b
 | succ h =>
  obtain ⟨ap,s⟩:∃ k,k=Eu f d h:=⟨_,rfl⟩
  rw [Eu,← s] at b
  refine Am 1 J<|Ao fun _ aa=>A3 J b (fun _ b=>?_)<|fun _ b=>?_
  refine Au<|aa ?_
  refine Ao fun _ ab=>A0<|Al fun _ ac=>bB b fun ad ae b=>BT (e:=As) underlying36 J J J p ae ?_
  rintro aq _ rfl af
  refine BZ A9 J (af.ro l) J<|An 1 J<|ac<|Al fun _ ag=>wp 2 J<|BO o underlying41 J<|wp 1 J<|bB b fun ar ah b=>Bn J call60 l y (C1 g ad 0 (Ah ((List.length d:Int)-1)) _ ah) J fun au _ t ai=>An 1 J<|ag<|A3 J b (fun _ b=>?_)<|fun _ b=>?_
  refine Am 1 J ?_
  refine Aw<|rt q J J<|by cases b; exact ⟨rfl,t⟩
  refine Au<|ab ?_
  refine Aq<|An 2 J ?_
  rw [s] at b
  exact fun a ha=>z a _ h (AB h) ⟨Ah (j+1),ha.sb J,t,ai.sel [] J,b⟩
  refine Bb<|w ?_
  refine Al fun _ aj=>wp 1 J<|bB b fun av ak b=>A7 J call45 (KH g d i (o.ro l) _ ak) J ?_
  rintro _ aw ⟨rfl,al⟩
  refine ⟨_,rfl,?_⟩
  have am:=tm l al
  refine An 1 J<|aj<|Aw<|rt q J J<|by cases b; exact ⟨rfl,am⟩
theorem NN(f:Af)(n:List Int)(j:Ac)(g:Ap)(ax:Sep 0 f [Ab As g j n])(r:List Int)(c:EJ n=some r) :
  A2 267 [j] f fun e w'=>e=.returned (.tuple #[])∧Below 0 (wE f) w'∧Sep 0 w' [A5 f (AP [Ab As g j n]),Ab As g j r]:=by
 refine Jr func267 J ntmps267 J J fun Q hQn hQ l=>?_
 have hB:Bl (wE f) f:=Dp f
 have hS:Sp (wE f) f [A5 f (AP [Ab As g j n]),Ab As g j n]:=ax.rest
 unfold EJ at c
 refine Al fun _ az=>wp 1 J<|BO (hS.own_ro (i:=1) J) underlying36 J<|An 3 J<|az<|A0<|AN (fun m a w2=>∃(v:List Int)(p q:Int),St 28 [(0,j),(2,iv p),(3,iv q)] a∧Bl (wE f) w2∧Sp (wE f) w2 [A5 f (AP [Ab As g j n]),Ab As g j v]∧De m v p q=some r) FU ?_ ?_
 exact fun a ha=>⟨n,0,Ah ((List.length n:Int)-1),ha.sb J,hB,hS.sel [0,1] J,c⟩
 rintro w a w2 ⟨v,p,q,ha,ag,ah,c⟩ bp a0
 refine BC ?_ ha
 cases w with
 | zero=>exact Be c
 | succ w =>
  obtain ⟨bq,ai⟩:∃ k,k=De w:=⟨_,rfl⟩
  rw [De,← ai] at c
  refine Ao fun _ a1=>Am 3 J<|A3 J c (fun _ c=>?_)<|fun _ c=>?_
  refine Au<|a1 ?_
  refine Ao fun a2 a3=>?_
  obtain ⟨a4,a5,c⟩:=Cb c
  have aj:∀(y:List Int)(z:Af)(_:a4 y=some r)(_:Bl (wE f) z)(_:Sp (wE f) z [A5 f (AP [Ab As g j n]),Ab As g j y]),∀ a,St 28 [(0,j),(2,iv p),(3,iv q)] a→a2 a z:=by
   intro y z c a6 a7
   subst a5
   refine a3<|Aq<|An 6 J ?_
   rw [ai] at c
   exact fun a ha=>a0 a _ w (AB w) ⟨y,Ah (p+1),Ah (q-1),ha.sb J,a6,a7.sel [0,1] J,c⟩
  refine A0<|AQ B1 g ag ah fun x _ ak s=>?_
  have d:=KeepX.refl x g
  refine Ay 0 J l d<|Ay 1 J l d<|Ay 2 J l d<|Ay 3 J l d<|Ay 4 J l d<|Ay 5 J l d<|bB c fun t a8 c=>Ad 6 J l d<|Bx (e:=As) (i:=1) underlying36 J J J s J a8 ?_
  rintro br _ rfl al bs
  refine Ay 8 J l d<|Ay 9 J l d<|bB c fun u a9 c=>Ad 10 J l d<|Bx (e:=As) (i:=1) underlying36 J J J s J a9 ?_
  rintro bt _ rfl am bu
  refine CA (is:=[7,11]) (by kernel_rfl) J<|Bj.2 ⟨⟨_,rfl,?_⟩,Bj.2 ⟨⟨_,rfl,?_⟩,fun _ h=>by cases h⟩⟩
  refine BZ A9 J al J ?_
  refine Ai<|Ar d<|A1 11 J<|BZ A9 J am J<|Ai<|Ar d<|bB c fun bv an c=>Ad 12 J l d<|Bx (e:=As) (i:=1) underlying36 J J J s J an ?_
  rintro bw _ rfl bx ba
  refine A1 13 J<|Cf (i:=1) (o:=0) (vs:=[iv t]) (u':=t) Cl A9 J J J J ba an ak s J J ⟨rfl,trivial⟩ J fun bz ab bb ao=>?_
  have ac:=d.wr' ab.1 ab.2.1 (fun _ _ h=>h)
  have bc:∀ b,b<x.heap.size→b ∈ g→b ∈ g:=fun b hlt hb=>(ab.2.2 b hb).elim ((fun _ _ h=>h) b hlt) (fun h=>absurd hlt (AM.2 (Az (Nat.le_refl x.heap.size) h)))
  refine Ai<|Ar ac<|A1 14 J<|bB c fun b0 ap c=>Co (e:=As) (i:=1) underlying36 J J J ao J ap ?_
  rintro b1 _ rfl b2 bd
  refine Ai<|Ar ac<|A1 15 J<|Cf (i:=1) (o:=0) (vs:=[iv u]) (u':=u) Cl A9 J J J J bd ap bb ao J J ⟨rfl,trivial⟩ J fun b3 aq be bf=>?_
  have bg:=ac.wr' aq.1 aq.2.1 (bc)
  refine Ai<|Ar bg<|Bc ?_
  exact jx (aj (BL (BL v p t) q u) _ c be (bf.sel [0,1] J)) J
  refine BZ A9 J am J ?_
  refine Ai<|Ar d<|A1 7 J<|BZ A9 J al J<|Ai<|Ar d<|bB c fun b4 ar c=>Ad 12 J l d<|Bx (e:=As) (i:=1) underlying36 J J J s J ar ?_
  rintro b5 _ rfl b6 bh
  refine A1 13 J<|Cf (i:=1) (o:=0) (vs:=[iv t]) (u':=t) Cl A9 J J J J bh ar ak s J J ⟨rfl,trivial⟩ J fun b7 ad bi au=>?_
  have ae:=d.wr' ad.1 ad.2.1 (fun _ _ h=>h)
  have bj:∀ b,b<x.heap.size→b ∈ g→b ∈ g:=fun b hlt hb=>(ad.2.2 b hb).elim ((fun _ _ h=>h) b hlt) (fun h=>absurd hlt (AM.2 (Az (Nat.le_refl x.heap.size) h)))
  refine Ai<|Ar ae<|A1 14 J<|bB c fun b8 av c=>Co (e:=As) (i:=1) underlying36 J J J au J av ?_
  rintro b9 _ rfl ca bk
  refine Ai<|Ar ae<|A1 15 J<|Cf (i:=1) (o:=0) (vs:=[iv u]) (u':=u) Cl A9 J J J J bk av bi au J J ⟨rfl,trivial⟩ J fun cb aw bl bm=>?_
  have bn:=ae.wr' aw.1 aw.2.1 (bj)
  refine Ai<|Ar bn<|Bc ?_
  exact jx (aj (BL (BL v p t) q u) _ c bl (bm.sel [0,1] J)) J
  refine Bb ?_
  obtain rfl:=Option.some.inj c
  exact Nw (vs:=[]) hQn J trivial ⟨rfl,ag,ah.sel [0,1] J⟩
theorem Z4(f:Af)(n:Akj)(s:Ac)(ab:RO Cg f s n)(t:Int)(r:List Int)(b:Ml n t=some r) :
  A2 244 [s,iv t] f fun e w'=>∃(w:Ac)(G0:Ap),e=.returned w∧Bl f w'∧Sp f w' [Ab As G0 w r]:=by
 refine cm func244 ntmps244 J fun Q hQ hP hB hS=>?_
 unfold Ml at b
 refine Am 1 J<|Al fun _ ag=>AZ (vs:=[]) (l:=[]) Cl underlying36 J J J J J J hB hS fun v3 F4 w5 _ aj ak=>An 1 J<|ag<|Ao fun _ al=>A0<|AN (fun m a p=>∃(h:Int)(g:List Int)(c:Ac)(d:Ap),St 21 [(0,s),(1,iv h),(5,c)] a∧Bl f p∧Sp f p [Ab As d c g]∧Fh n m h g=some r) FU ?_ ?_
 exact fun a ha=>⟨t,[],v3,F4,ha.sb J,aj,ak.sel [0] J,b⟩
 rintro j a p ⟨h,g,c,d,ha,u,q,b⟩ a9 am
 refine BC ?_ ha
 cases j with
 | zero=>exact Be b
 | succ j =>
  obtain ⟨ba,x⟩:∃ k,k=Fh n j:=⟨_,rfl⟩
  rw [Fh,← x] at b
  refine Ao fun _ an=>Am 2 J<|A3 J b (fun _ b=>?_)<|fun _ b=>?_
  refine Au<|an ?_
  refine Ao fun _ ao=>A0<|Aq<|wp 2 J<|AZ (vs:=[iv h]) (l:=[h]) Cl underlying36 J J J J J J u q fun bb bc ap _ aq y=>bB b fun ar au b=>AE (i:=1) (S:=(·<ap.heap.size)) Cl underlying36 J J J aq y J (y.own_ro (i:=0) J) au fun av aw bd _ z ax=>An 1 J<|ao<|Aq<|wp 2 J<|bB b fun ay az b=>BT (e:=Cg) underlying41 J J J ab az ?_
  rintro be _ rfl a0
  refine Lm (o:=0) Pv J J<|BZ A9 J ((a0.ro z).add 0) J<|An 1 J ?_
  rw [x] at b
  exact fun a ha=>am a _ j (AB j) ⟨ay.1,ar,av,aw,ha.sb J,z,ax.sel [1] J,b⟩
  refine Bb<|al ?_
  refine Al fun _ a1=>wp 1 J<|bB b fun v a2 b=>A7 J call267 (NN p g c d (q.sel [0] J).base0 _ a2) J ?_
  rintro _ a3 ⟨rfl,a4,aa⟩
  refine ⟨_,rfl,?_⟩
  have a5:=q.mutB [0] J (M:=[Ab As d c g]) J (M':=[Ab As d c v]) J u u.size a4 aa
  have a6:Sp f a3 [Ab As d c v]:=q.mut [0] [] J (M:=[Ab As d c g]) J (M':=[Ab As d c v]) J aa
  refine Ai<|a1<|Am 2 J<|Aw<|rt hQ J J<|by cases b; exact ⟨c,d,rfl,a5,a6.sel [0] J⟩
theorem WX(g:Af)(j:Akj)(q:Ac)(ad:RO Cg g q j)(n:Int)(r:List Int)(c:Lg j n=some r) :
  A2 224 [q,iv n] g fun e w'=>∃(q0:Ac)(G0:Ap),e=.returned q0∧Bl g w'∧Sp g w' [Ab As G0 q0 r]:=by
 refine cm func224 ntmps224 J fun Q hQ f hB hS=>?_
 unfold Lg at c
 refine Am 1 J<|Al fun _ a0=>AZ (vs:=[]) (l:=[]) Cl underlying36 J J J J J J hB hS fun v3 F4 w5 _ a3 a4=>An 1 J<|a0<|Ao fun _ a5=>Am 1 J<|A0<|AN (fun m a v=>∃(w:List Int)(x:Int)(y:Ac)(ae:Ap),St 37 [(0,q),(1,iv n),(5,y),(9,iv x)] a∧Bl g v∧Sp g v [Ab As ae y w]∧FV j n m w x=some r) FU ?_ ?_
 exact fun a ha=>⟨[],0,v3,F4,ha.sb J,a3,a4.sel [0] J,c⟩
 rintro s a v ⟨w,x,y,ae,ha,af,al,c⟩ b4 a6
 refine BC ?_ ha
 cases s with
 | zero=>exact Be c
 | succ s =>
  obtain ⟨b5,am⟩:∃ k,k=FV j n s:=⟨_,rfl⟩
  rw [FV,← am] at c
  refine Am 1 J<|Ao fun _ a7=>A3 J c (fun _ c=>?_)<|fun _ c=>?_
  refine Au<|a7 ?_
  refine Ao fun _ a8=>A0<|Aq<|wp 1 J<|AZ (vs:=[iv (-1)]) (l:=[-1]) Cl underlying36 J J J J J J af al fun b6 b7 a9 _ ba an=>bB c fun bb bc c=>AE (i:=1) (S:=(·<a9.heap.size)) Cl underlying36 J J J ba an J (an.own_ro (i:=0) J) bc fun bd be b8 _ bf bg=>An 1 J<|a8<|Aq<|An 2 J ?_
  rw [am] at c
  exact fun a ha=>a6 a _ s (AB s) ⟨bb,Ah (x+1),bd,be,ha.sb J,bf,bg.sel [1] J,c⟩
  refine Bb<|a5 ?_
  refine Ao fun _ bh=>Al fun _ bi=>wp 2 J<|bB c fun z bj c=>Ds J call244 af al (Z4 v j q (ad.ro af) n _ bj) J fun ao bk b9 _ _ bl ap=>BO (ap.own_ro (i:=0) J) underlying36 J<|An 1 J<|bi<|A0<|AN (fun m a ag=>∃(aa:List Int)(ab:Int)(t:Ac)(p:Ap),St 37 [(0,q),(5,t),(17,ao),(18,iv (List.length z:Int)),(19,iv ab)] a∧Bl g ag∧Sp g ag [Ab As p t aa,Ab As bk ao z]∧D1 z j m aa ab=some r) FU ?_ ?_
  exact fun a ha=>⟨w,0,y,ae,ha.sb J,bl,ap.sel [1,0] J,c⟩
  rintro u a ag ⟨aa,ab,t,p,ha,aq,ah,c⟩ ca bm
  refine BC ?_ ha
  cases u with
  | zero=>exact Be c
  | succ u =>
   obtain ⟨cb,ar⟩:∃ k,k=D1 z j u:=⟨_,rfl⟩
   rw [D1,← ar] at c
   refine Am 1 J<|Ao fun _ bn=>A3 J c (fun _ c=>?_)<|fun _ c=>?_
   refine Au<|bn ?_
   refine Ao fun _ bo=>A0<|Al fun _ bp=>bB c fun cc bq c=>Co (e:=As) (i:=1) underlying36 J J J ah J bq ?_
   rintro cd _ rfl br ce
   refine BZ A9 J br J<|An 1 J<|bp<|AQ B1 p aq ah fun bs _ ai ac=>?_
   have d:=KeepX.refl bs p
   refine Ay 0 J f d<|Ay 1 J f d<|Ay 2 J f d<|bB c fun bt bu c=>Ad 3 J f d<|B7 (e:=Cg) underlying41 J J J ad bu ?_
   rintro cf _ rfl bv
   refine Ad 4 J f d<|CI (o:=1) Pu J J<|Ad 5 J f d<|BR A9 J (EAt.addk (bv.kx ai (fun b hb=>(((ac.get (i:=0) J).2.1 b hb).1))) 1) J<|Ay 6 J f d<|Ay 7 J f d<|bB c fun aj bw c=>Ad 8 J f d<|B7 (e:=Cg) underlying41 J J J ad bw ?_
   rintro cg _ rfl bx
   refine Ad 9 J f d<|CI (o:=2) Pt J J<|Ad 10 J f d<|BR A9 J (EAt.addk (bx.kx ai (fun b hb=>(((ac.get (i:=0) J).2.1 b hb).1))) 2) J<|bB c fun ch au c=>Ad 11 J f d<|Bx (e:=As) (i:=0) underlying36 J J J ac J au ?_
   rintro ci _ rfl cj bz
   refine A1 12 J<|Cf (i:=0) (o:=0) (vs:=[iv aj.2.2]) (u':=aj.2.2) Cl A9 J J J J bz au ai ac J J ⟨rfl,trivial⟩ J fun ck av b0 b1=>?_
   have b2:=d.wr' av.1 av.2.1 (fun _ _ h=>h)
   refine Ai<|Ar b2<|Bc<|bo<|Aq<|An 2 J ?_
   rw [ar] at c
   exact fun a ha=>bm a _ u (AB u) ⟨BL aa bt.2.1 aj.2.2,Ah (ab+1),t,p,ha.sb J,b0,b1.sel [0,1] J,c⟩
   refine Bb<|bh ?_
   refine Am 2 J<|Aw<|rt hQ J J<|by cases c; exact ⟨t,p,rfl,aq,ah.sel [0] J⟩
theorem Xc(c:Af)(d:Akj)(f:Ac)(h:RO Cg c f d)(b:Int)(r:(List Int)×Bool)(a:Lj d b=some r) :
  A2 189 [f,iv b] c fun e w'=>∃(j:Ac)(p:Ap),e=.returned (.tuple #[j,.bool r.2])∧Bl c w'∧Sp c w' [Ab As p j r.1]:=by
 refine cm func189 ntmps189 J fun Q k hP q s=>?_
 unfold Lj at a
 refine Am 2 J<|Ao fun _ t=>Al fun _ u=>wp 2 J<|AZ (vs:=[iv b]) (l:=[b]) Cl underlying36 J J J J J J q s fun v F5 w _ m n=>bB a fun ai x a=>Bn J call223 m n (Tj w d f (h.ro m) [b] v (n.own_ro (i:=0) J) _ x) J fun y _ g o=>An 1 J<|u<|A3 J a (fun _ a=>?_)<|fun _ a=>?_
 refine Am 2 J ?_
 refine Aw ?_
 have z:=o.push0 (r:=Ab As [] (.slice none 0 0) []) J fun _=>.inl ⟨rfl,rfl,rfl⟩
 refine rt k J J<|by cases a; exact ⟨.slice none 0 0,[],rfl,g,z.sel [0] J⟩
 refine Au<|t ?_
 refine Al fun _ aa=>wp 2 J<|bB a fun aj ab a=>Ds J call224 g o (WX y d f (h.ro g) b _ ab) J fun ac ad ak _ _ ae af=>An 2 J<|aa<|Aw<|rt k J J<|by cases a; exact ⟨ac,ad,rfl,ae,af.sel [0] J⟩
theorem NO(c:Af)(hT:Tab c)(d:Akg×Akg×Int×Akg×Akh×Akj)(p0:Addr)(ad:Ac)(b6:RO At c ad d.1)(ae:Ac)(b7:RO At c ae d.2.1)(af:Ac)(b8:RO BN c af d.2.2.2.1)(ag:Ac)(b9:RO A4 c ag d.2.2.2.2.1)(x:Ac)(ar:RO Cg c x d.2.2.2.2.2)(au:EAt (·<c.heap.size) c p0 [ad,ae,iv d.2.2.1,af,ag,x])(y:Int)(r:List Ag)(b:Gi d y=some r) :
  A2 131 [.pointer (some p0),iv y] c fun e w'=>e=.returned (.string (AL r))∧Bl c w':=by
 refine cm func131 ntmps131 J fun Q hQ hP z hS=>?_
 unfold Gi at b
 refine Am 1 J<|Al fun _ aw=>wp 1 J<|B4 J J<|Lm (o:=5) T7 J J<|BZ Qh J ((au.ro z).add 5) J<|wp 1 J<|bB b fun f ax b=>Ds J call189 z hS (Xc c d.2.2.2.2.2 x (ar.ro z) y _ ax) J fun n F5 w6 _ _ aj ay=>An 5 J<|aw<|Ao fun _ az=>Am 2 J<|A3 J b (fun _ b=>?_)<|fun _ b=>?_
 refine Am 1 J ?_
 refine Aw<|rt hQ J J<|by cases b; exact ⟨rfl,aj⟩
 refine Au<|az ?_
 refine Al fun _ a0=>AZ (vs:=[]) (l:=[]) Gl underlying61 J J J J J J aj ay fun a1 a2 cc _ a3 ak=>An 1 J<|a0<|Ao fun _ a4=>Al fun _ a5=>wp 1 J<|BO (ak.own_ro (i:=1) J) underlying36 J<|An 1 J<|a5<|A0<|AN (fun m a g=>∃(p:List (List Ag))(h:Int)(q:Ac)(aa:Ap),St 41 [(7,q),(22,n),(23,iv (List.length f.1:Int)),(24,iv h)] a∧Bl c g∧Sp c g [Ab BK aa q p,Ab As F5 n f.1]∧C5 f m p h=some r) FU ?_ ?_
 exact fun a ha=>⟨[],0,a1,a2,ha.sb J,a3,ak.sel [0,1] J,b⟩
 rintro j a g ⟨p,h,q,aa,ha,s,t,b⟩ cd a6
 refine BC ?_ ha
 cases j with
 | zero=>exact Be b
 | succ j =>
  obtain ⟨ce,al⟩:∃ k,k=C5 f j:=⟨_,rfl⟩
  rw [C5,← al] at b
  refine Am 1 J<|Ao fun _ a7=>A3 J b (fun _ b=>?_)<|fun _ b=>?_
  refine Au<|a7 ?_
  refine Ao fun a8 a9=>?_
  obtain ⟨ba,bb,b⟩:=Cb b
  have am:∀(u:List (List Ag))(v:Ac)(ab:Ap)(w:Af)(_:ba u=some r)(_:Bl c w)(_:Sp c w [Ab BK ab v u,Ab As F5 n f.1]),∀ a,St 41 [(7,v),(22,n),(23,iv (List.length f.1:Int)),(24,iv h)] a→a8 a w:=by
   intro u v ab w b bc bd
   subst bb
   refine a9<|Aq<|An 2 J ?_
   rw [al] at b
   exact fun a ha=>a6 a _ j (AB j) ⟨u,Ah (h+1),v,ab,ha.sb J,bc,bd.sel [0,1] J,b⟩
  refine A0<|Al fun _ be=>bB b fun bf bg b=>Co (e:=As) (i:=1) underlying36 J J J t J bg ?_
  rintro cf _ rfl bh cg
  refine BZ A9 J bh J<|An 1 J<|be<|Am 2 J<|A3 J b (fun _ b=>?_)<|fun _ b=>?_
  refine Aq ?_
  refine wp 1 J<|AZ (vs:=[.string (AL [45])]) (l:=[[45]]) Gl underlying61 J J J J J J s t fun ch ci bi _ bj an=>bB b fun bk bl b=>AE (i:=1) (S:=(·<bi.heap.size)) Gl underlying61 J J J bj an J (an.own_ro (i:=0) J) bl fun bm bn cj _ bo bp=>An 1 J ?_
  exact jx (am bk bm bn _ b bo (bp.sel [1,2] J)) J
  refine Aq ?_
  refine wp 2 J<|bB b fun ao bq b=>Bn J call130 s t (EZ g (hT.st s) bf _ bq) J fun ck _ br bs=>AZ (vs:=[.string (AL ao)]) (l:=[ao]) Gl underlying61 J J J J J J br bs fun cl cn bt _ bu ap=>bB b fun bv bw b=>AE (i:=1) (S:=(·<bt.heap.size)) Gl underlying61 J J J bu ap J (ap.own_ro (i:=0) J) bw fun bx bz co _ b0 b1=>An 1 J ?_
  exact jx (am bv bx bz _ b b0 (b1.sel [1,2] J)) J
  refine Bb<|a4 ?_
  refine Al fun _ b2=>wp 1 J<|bB b fun cp b3 b=>A7 J call176 (Rp g p q aa (t.ok (i:=0) J) [32] _ b3) J ?_
  rintro _ cq ⟨rfl,b4⟩
  refine ⟨_,rfl,?_⟩
  have b5:=tm s b4
  refine An 1 J<|b2<|Aw<|rt hQ J J<|by cases b; exact ⟨rfl,b5⟩
theorem Qc(k:Af)(x:Tab k)(g:Akg×Akg×Int×Akg×Akh×Akj)(p0:Addr)(y:Ac)(s:RO At k y g.1)(ac:Ac)(ah:RO At k ac g.2.1)(ap:Ac)(bz:RO BN k ap g.2.2.2.1)(aq:Ac)(b0:RO A4 k aq g.2.2.2.2.1)(a3:Ac)(co:RO Cg k a3 g.2.2.2.2.2)(m:EAt (·<k.heap.size) k p0 [y,ac,iv g.2.2.1,ap,aq,a3])(x1:List Ag)(x2:List Int)(b1:Ac)(t:RO As k b1 x2)(r:List Ag)(d:Cm g x1 x2=some r) :
  A2 86 [.pointer (some p0),.string (AL x1),b1] k fun e w'=>e=.returned (.string (AL r))∧Bl k w':=by
 refine cm func86 ntmps86 J fun Q u c f hS=>?_
 unfold Cm at d
 refine Am 1 J<|Ao fun _ ef=>Am 1 J<|A0<|Al fun _ eg=>AR J J J<|An 1 J<|eg<|A3 J d (fun _ d=>?_)<|fun _ d=>?_
 refine Ao fun K6 ei=>?_
 obtain ⟨ej,ek,d⟩:=jE4 d
 have cr:∀(a4 a5:Akg)(a6:Int)(a7:List Int)(a8:Ac)(cs:Ap)(a9:Ac)(ct:Ap)(ba:Ac)(cu:Ap)(b2:Nat)(w7:Af)(_:ej a4 a5 a6 a7=some r)(_:Bl k w7)(_:Sp k w7 [Ab At cs a8 a4,Ab At ct a9 a5,Ab As cu ba a7,Av b2 128 [a8,a9,iv a6,ba]]),∀ a,St 182 [(7,.pointer (some ⟨b2,0,none⟩))] a→K6 a w7:=by
  intro a4 a5 a6 a7 a8 cs a9 ct ba cu b2 w7 d el bb
  subst ek
  refine ei<|Al fun _ em=>AU 3 Bs J bb J J<|bB d fun cv en d=>A7 J call121 (UP w7 (a4,a5,a6,a7) a8 (bb.own_ro (i:=0) J) a9 (bb.own_ro (i:=1) J) ba (bb.own_ro (i:=2) J) _ en) J ?_
  rintro _ eo ⟨rfl,ep⟩
  refine ⟨_,rfl,?_⟩
  have cw:=tm el ep
  refine wp 2 J<|bB d fun i3 eq d=>A7 J call120 (KG eo (x.st cw) cv.1 cv.2 _ eq) J ?_
  rintro _ i4 ⟨rfl,er⟩
  refine ⟨_,rfl,?_⟩
  have es:=tm cw er
  refine An 1 J<|em<|Aw<|rt u J J<|by cases d; exact ⟨rfl,es⟩
 refine AQ B1 [] f hS fun ae _ z cx=>?_
 have n:=KeepX.refl ae []
 refine Ay 0 J c n<|Ad 1 J c n<|B0 J J<|Ad 2 J c n<|CI (o:=1) TA J J<|Ad 3 J c n<|BR Cs J (EAt.addk (m.kx z (by simp)) 1) J<|Ay 4 J c n<|Ad 5 J c n<|B0 J J<|Ad 6 J c n<|CI (o:=0) Io J J<|Ad 7 J c n<|BR Cs J (EAt.addk (m.kx z (by simp)) 0) J<|Ay 8 J c n<|Ad 9 J c n<|B0 J J<|Ad 10 J c n<|CI (o:=2) T9 J J<|Ad 11 J c n<|BR A9 J (EAt.addk (m.kx z (by simp)) 2) J<|CA (is:=[12,16]) (by kernel_rfl) J<|Bj.2 ⟨⟨_,rfl,?_⟩,Bj.2 ⟨⟨_,rfl,?_⟩,fun _ h=>by cases h⟩⟩
 refine bB d fun aj et d=>?_
 refine A7 J call119 (MM ae g.2.1 ac (ah.ro z) g.1 y (s.ro z) g.2.2.1 _ et) J ?_
 rintro _ eu ⟨b3,ev,b4,ew,b5,ex,rfl,bc,ey⟩
 refine ⟨_,rfl,?_⟩
 have cy:=tm z bc
 have ez:=cx.join bc ey z.size
 have au:=n.ext bc
 have e0:=Az (Nat.le_refl ae.heap.size) bc.size
 refine Ai<|Ar au<|Ay 13 J c au<|Ad 14 J c au<|Ba J J J<|Ad 15 J c au<|Ba J J J<|A1 16 J<|EE Bs J (Bk eu) (Sep.nil _ _) fun cz i5 b6 _ c0=>?_
 have e1:=tm cy b6
 have bd:=ez.join b6 c0 cy.size
 have e2:∀ b ∈ [cz],ae.heap.size≤b:=fun b hb=>Az e0 ((c0.1 _ (List.mem_cons_self ..)).2.1 b hb).1
 have c1:=au.ext b6
 refine Ai<|Ar c1<|A1 17 J<|BG (i:=0) (vs:=[b3,b4,iv aj.1.2.2.1,b5]) (cs':=[b3,b4,iv aj.1.2.2.1,b5]) Bs J J J J e1 bd J J ⟨(bd.own_ro (i:=1) J).one,(bd.own_ro (i:=2) J).one,rfl,(bd.own_ro (i:=3) J).one,trivial⟩ J fun i6 c2 e3 e4=>?_
 have c3:=c1.wr' c2.1 c2.2.1 (fun b hlt hb=>absurd hlt (AM.2 (e2 b hb)))
 refine Ai<|Ar c3<|Ad 18 J c c3<|AD J J<|Bc ?_
 exact jx (cr (aj.1.1) (aj.1.2.1) (aj.1.2.2.1) (aj.1.2.2.2) b3 ev b4 ew b5 ex cz _ d e3 (e4.sel [1,2,3,0] J)) J
 refine EE Bs J (Bk ae) (Sep.nil _ _) fun c4 e5 b7 _ c5=>?_
 have be:=tm z b7
 have e6:=cx.join b7 c5 z.size
 have e7:∀ b ∈ [c4],ae.heap.size≤b:=fun b hb=>Az (Nat.le_refl ae.heap.size) ((c5.1 _ (List.mem_cons_self ..)).2.1 b hb).1
 have c6:=n.ext b7
 refine Ai<|Ar c6<|A1 12 J<|bB d fun ak e8 d=>A7 J call119 (MM e5 g.2.1 ac (ah.ro be) g.1 y (s.ro be) g.2.2.1 _ e8) J ?_
 rintro _ i7 ⟨b8,e9,b9,fa,ca,fb,rfl,cb,fc⟩
 refine ⟨_,rfl,?_⟩
 have fd:=tm be cb
 have bf:=e6.join cb fc be.size
 have av:=c6.ext cb
 refine Ai<|Ar av<|Ay 13 J c av<|Ad 14 J c av<|Ba J J J<|Ad 15 J c av<|Ba J J J<|A1 17 J<|BG (i:=3) (vs:=[b8,b9,iv ak.1.2.2.1,ca]) (cs':=[b8,b9,iv ak.1.2.2.1,ca]) Bs J J J J fd bf J J ⟨(bf.own_ro (i:=0) J).one,(bf.own_ro (i:=1) J).one,rfl,(bf.own_ro (i:=2) J).one,trivial⟩ J fun i8 c7 fe ff=>?_
 have c8:=av.wr' c7.1 c7.2.1 (fun b hlt hb=>absurd hlt (AM.2 (e7 b hb)))
 refine Ai<|Ar c8<|Ad 18 J c c8<|AD J J<|Bc ?_
 exact jx (cr (ak.1.1) (ak.1.2.1) (ak.1.2.2.1) (ak.1.2.2.2) b8 e9 b9 fa ca fb c4 _ d fe (ff.sel [0,1,2,3] J)) J
 refine Al fun _ fg=>?_
 refine AR J J J<|An 1 J<|fg<|A3 J d (fun _ d=>?_)<|fun _ d=>?_
 refine Al fun _ fh=>?_
 refine wp 2 J<|bB d fun fi fj d=>BT (e:=As) underlying36 J J J t fj ?_
 rintro i9 _ rfl fk
 refine BZ A9 J (fk.ro f) J<|bB d fun ja fl d=>A7 J call122 (Pi k (x.st f) g p0 y (s.ro f) ac (ah.ro f) ap (bz.ro f) aq (b0.ro f) a3 (co.ro f) (m.ro f) fi _ fl) J ?_
 rintro _ jb ⟨rfl,fm⟩
 refine ⟨_,rfl,?_⟩
 have fn:=tm f fm
 refine An 1 J<|fh<|Aw<|rt u J J<|by cases d; exact ⟨rfl,fn⟩
 refine Al fun _ fo=>?_
 refine AR J J J<|An 1 J<|fo<|A3 J d (fun _ d=>?_)<|fun _ d=>?_
 refine Ao fun fp fq=>?_
 obtain ⟨fr,fs,d⟩:=jE4 d
 have c9:∀(bg bh:Akg)(bi:Int)(bj:List Int)(bk:Ac)(da:Ap)(bl:Ac)(db:Ap)(bm:Ac)(dc:Ap)(cc:Nat)(bn:Af)(_:fr bg bh bi bj=some r)(_:Bl k bn)(_:Sp k bn [Ab At da bk bg,Ab At db bl bh,Ab As dc bm bj,Av cc 128 [bk,bl,iv bi,bm]]),∀ a,St 182 [(2,b1),(9,.pointer (some ⟨cc,0,none⟩))] a→fp a bn:=by
  intro bg bh bi bj bk da bl db bm dc cc bn d ft fu
  subst fs
  refine fq<|Ao fun _ fv=>AQ B1 [] ft fu fun dd _ de bo=>?_
  have aw:=KeepX.refl dd []
  refine Ad 0 J c aw<|CN 3 Bs J bo J (by simp)<|Ay 1 J c aw<|bB d fun fw fx d=>Ad 2 J c aw<|B7 (e:=As) underlying36 J J J t fx ?_
  rintro jc _ rfl fy
  refine Ad 3 J c aw<|BR A9 J (fy.kx de (by simp)) J<|A1 4 J<|bB d fun df fz d=>A7 J call124 (TU dd (bg,bh,bi,bj) bk (bo.own_ro (i:=0) J) bl (bo.own_ro (i:=1) J) bm (bo.own_ro (i:=2) J) fw _ fz) J ?_
  rintro _ f0 ⟨rfl,dg⟩
  refine ⟨_,rfl,?_⟩
  have dh:=tm de dg
  have bp:=aw.ext dg
  refine Ai<|Ar bp<|Ad 5 J c bp<|Ba J J J<|Ad 6 J c bp<|Ba J J J<|A1 7 J<|bB d fun jd f1 d=>A7 J call120 (KG f0 (x.st dh) df.1 df.2 _ f1) J ?_
  rintro _ je ⟨rfl,di⟩
  refine ⟨_,rfl,?_⟩
  have f2:=tm dh di
  have dj:=bp.ext di
  refine Ai<|Ar dj<|Ad 8 J c dj<|AD J J<|Bc<|fv<|Aw<|rt u J J<|by cases d; exact ⟨rfl,f2⟩
 refine AQ B1 [] f hS fun af _ aa dk=>?_
 have p:=KeepX.refl af []
 refine Ay 0 J c p<|Ad 1 J c p<|B0 J J<|Ad 2 J c p<|CI (o:=1) TA J J<|Ad 3 J c p<|BR Cs J (EAt.addk (m.kx aa (by simp)) 1) J<|Ay 4 J c p<|Ad 5 J c p<|B0 J J<|Ad 6 J c p<|CI (o:=0) Io J J<|Ad 7 J c p<|BR Cs J (EAt.addk (m.kx aa (by simp)) 0) J<|Ay 8 J c p<|Ad 9 J c p<|B0 J J<|Ad 10 J c p<|CI (o:=2) T9 J J<|Ad 11 J c p<|BR A9 J (EAt.addk (m.kx aa (by simp)) 2) J<|CA (is:=[12,16]) (by kernel_rfl) J<|Bj.2 ⟨⟨_,rfl,?_⟩,Bj.2 ⟨⟨_,rfl,?_⟩,fun _ h=>by cases h⟩⟩
 refine bB d fun al f3 d=>?_
 refine A7 J call123 (I6 af g.2.1 ac (ah.ro aa) g.1 y (s.ro aa) g.2.2.1 _ f3) J ?_
 rintro _ f4 ⟨cd,f5,ce,f6,cf,f7,rfl,bq,f8⟩
 refine ⟨_,rfl,?_⟩
 have dl:=tm aa bq
 have f9:=dk.join bq f8 aa.size
 have ax:=p.ext bq
 have ga:=Az (Nat.le_refl af.heap.size) bq.size
 refine Ai<|Ar ax<|Ay 13 J c ax<|Ad 14 J c ax<|Ba J J J<|Ad 15 J c ax<|Ba J J J<|A1 16 J<|EE Bs J (Bk f4) (Sep.nil _ _) fun dm jf cg _ dn=>?_
 have gb:=tm dl cg
 have br:=f9.join cg dn dl.size
 have gc:∀ b ∈ [dm],af.heap.size≤b:=fun b hb=>Az ga ((dn.1 _ (List.mem_cons_self ..)).2.1 b hb).1
 have dp:=ax.ext cg
 refine Ai<|Ar dp<|A1 17 J<|BG (i:=0) (vs:=[cd,ce,iv al.1.2.2.1,cf]) (cs':=[cd,ce,iv al.1.2.2.1,cf]) Bs J J J J gb br J J ⟨(br.own_ro (i:=1) J).one,(br.own_ro (i:=2) J).one,rfl,(br.own_ro (i:=3) J).one,trivial⟩ J fun jg dq gd ge=>?_
 have dr:=dp.wr' dq.1 dq.2.1 (fun b hlt hb=>absurd hlt (AM.2 (gc b hb)))
 refine Ai<|Ar dr<|Ad 18 J c dr<|AD J J<|Bc ?_
 exact jx (c9 (al.1.1) (al.1.2.1) (al.1.2.2.1) (al.1.2.2.2) cd f5 ce f6 cf f7 dm _ d gd (ge.sel [1,2,3,0] J)) J
 refine EE Bs J (Bk af) (Sep.nil _ _) fun ds gf ch _ dt=>?_
 have bs:=tm aa ch
 have gg:=dk.join ch dt aa.size
 have gh:∀ b ∈ [ds],af.heap.size≤b:=fun b hb=>Az (Nat.le_refl af.heap.size) ((dt.1 _ (List.mem_cons_self ..)).2.1 b hb).1
 have du:=p.ext ch
 refine Ai<|Ar du<|A1 12 J<|bB d fun am gi d=>A7 J call123 (I6 gf g.2.1 ac (ah.ro bs) g.1 y (s.ro bs) g.2.2.1 _ gi) J ?_
 rintro _ jh ⟨ci,gj,cj,gk,ck,gl,rfl,cl,gm⟩
 refine ⟨_,rfl,?_⟩
 have gn:=tm bs cl
 have bt:=gg.join cl gm bs.size
 have ay:=du.ext cl
 refine Ai<|Ar ay<|Ay 13 J c ay<|Ad 14 J c ay<|Ba J J J<|Ad 15 J c ay<|Ba J J J<|A1 17 J<|BG (i:=3) (vs:=[ci,cj,iv am.1.2.2.1,ck]) (cs':=[ci,cj,iv am.1.2.2.1,ck]) Bs J J J J gn bt J J ⟨(bt.own_ro (i:=0) J).one,(bt.own_ro (i:=1) J).one,rfl,(bt.own_ro (i:=2) J).one,trivial⟩ J fun ji dv go gp=>?_
 have dw:=ay.wr' dv.1 dv.2.1 (fun b hlt hb=>absurd hlt (AM.2 (gh b hb)))
 refine Ai<|Ar dw<|Ad 18 J c dw<|AD J J<|Bc ?_
 exact jx (c9 (am.1.1) (am.1.2.1) (am.1.2.2.1) (am.1.2.2.2) ci gj cj gk ck gl ds _ d go (gp.sel [0,1,2,3] J)) J
 refine Al fun _ gq=>?_
 refine AR J J J<|An 1 J<|gq<|A3 J d (fun _ d=>?_)<|fun _ d=>?_
 refine Al fun _ gr=>?_
 refine wp 1 J<|B4 J J<|Lm (o:=0) Io J J<|BZ Cs J ((m.ro f).add 0) J<|bB d fun dx gs d=>A7 J call125 (Tm k g.1 y (s.ro f) _ gs) J ?_
 rintro _ gt ⟨rfl,gu⟩
 refine ⟨_,rfl,?_⟩
 have dy:=tm f gu
 refine wp 2 J<|bB d fun jj gv d=>A7 J call120 (KG gt (x.st dy) dx.1 dx.2 _ gv) J ?_
 rintro _ jk ⟨rfl,gw⟩
 refine ⟨_,rfl,?_⟩
 have gx:=tm dy gw
 refine An 1 J<|gr<|Aw<|rt u J J<|by cases d; exact ⟨rfl,gx⟩
 refine Al fun _ gy=>?_
 refine AR J J J<|An 1 J<|gy<|A3 J d (fun _ d=>?_)<|fun _ d=>?_
 refine Ao fun _ gz=>?_
 refine Ao fun _ g0=>AQ B1 [] f hS fun g1 _ bu g2=>?_
 have ab:=KeepX.refl g1 []
 refine Ay 0 J c ab<|bB d fun jl g3 d=>Ad 1 J c ab<|B7 (e:=As) underlying36 J J J t g3 ?_
 rintro jm _ rfl g4
 refine Ad 2 J c ab<|BR A9 J (g4.kx bu (by simp)) J<|Ay 3 J c ab<|Ad 4 J c ab<|B0 J J<|Ad 5 J c ab<|CI (o:=0) Io J J<|Ad 6 J c ab<|BR Cs J (EAt.addk (m.kx bu (by simp)) 0) J<|Ad 7 J c ab<|LF (e:=At) (l:=g.1) underlying26 J J s<|Ad 8 J c ab<|YA J J J<|Bc<|g0<|A3 J d (fun _ d=>?_)<|fun _ d=>?_
 refine Am 1 J ?_
 refine Aw<|rt u J J<|by cases d; exact ⟨rfl,bu⟩
 refine Au<|gz ?_
 refine Ao fun _ g5=>AQ B1 [] bu g2 fun dz _ az _=>?_
 have w:=KeepX.refl dz []
 refine Ay 0 J c w<|Ad 1 J c w<|B0 J J<|Ad 2 J c w<|CI (o:=0) Io J J<|Ad 3 J c w<|BR Cs J (EAt.addk (m.kx az (by simp)) 0) J<|Ay 4 J c w<|bB d fun jn g6 d=>Ad 5 J c w<|B7 (e:=As) underlying36 J J J t g6 ?_
 rintro jo _ rfl g7
 refine Ad 6 J c w<|BR A9 J (g7.kx az (by simp)) J<|bB d fun g8 g9 d=>Ad 7 J c w<|B7 (e:=At) underlying26 J J J s g9 ?_
 rintro jp _ rfl ha
 refine Ad 8 J c w<|BR Bt J (ha.kx az (by simp)) J<|A1 9 J<|bB d fun jq hc d=>A7 J call126 (VW dz (x.st az) g8 _ hc) J ?_
 rintro _ jr ⟨rfl,d0⟩
 refine ⟨_,rfl,?_⟩
 have hd:=tm az d0
 have an:=w.ext d0
 refine Ai<|Ar an<|Ay 10 J c an<|Ad 11 J c an<|Ba J J J<|Ad 12 J c an<|Ba J J J<|Ad 13 J c an<|AD J J<|Ad 14 J c an<|AD J J<|Bc<|g5<|Am 2 J<|Aw<|rt u J J<|by cases d; exact ⟨rfl,hd⟩
 refine Al fun _ he=>?_
 refine AR J J J<|An 1 J<|he<|A3 J d (fun _ d=>?_)<|fun _ d=>?_
 refine Ao fun _ hf=>?_
 refine Ao fun _ hg=>AQ B1 [] f hS fun hh _ a0 hi=>?_
 have q:=KeepX.refl hh []
 refine Ay 0 J c q<|bB d fun js hj d=>Ad 1 J c q<|B7 (e:=As) underlying36 J J J t hj ?_
 rintro jt _ rfl hk
 refine Ad 2 J c q<|BR A9 J (hk.kx a0 (by simp)) J<|Ay 3 J c q<|bB d fun ju hl d=>Ad 4 J c q<|B7 (e:=As) underlying36 J J J t hl ?_
 rintro jv _ rfl hm
 refine Ad 5 J c q<|BR A9 J (hm.kx a0 (by simp)) J<|Ad 6 J c q<|Ahw J J J<|Ay 7 J c q<|Ad 8 J c q<|B0 J J<|Ad 9 J c q<|CI (o:=0) Io J J<|Ad 10 J c q<|BR Cs J (EAt.addk (m.kx a0 (by simp)) 0) J<|Ad 11 J c q<|LF (e:=At) (l:=g.1) underlying26 J J s<|Ad 12 J c q<|YA J J J<|Bc<|hg<|A3 J d (fun _ d=>?_)<|fun _ d=>?_
 refine Am 1 J ?_
 refine Aw<|rt u J J<|by cases d; exact ⟨rfl,a0⟩
 refine Au<|hf ?_
 refine Ao fun _ hn=>AQ B1 [] a0 hi fun d1 _ ag _=>?_
 have j:=KeepX.refl d1 []
 refine Ay 0 J c j<|Ad 1 J c j<|B0 J J<|Ad 2 J c j<|CI (o:=0) Io J J<|Ad 3 J c j<|BR Cs J (EAt.addk (m.kx ag (by simp)) 0) J<|Ay 4 J c j<|bB d fun jw ho d=>Ad 5 J c j<|B7 (e:=As) underlying36 J J J t ho ?_
 rintro jy _ rfl hp
 refine Ad 6 J c j<|BR A9 J (hp.kx ag (by simp)) J<|bB d fun hq hr d=>Ad 7 J c j<|B7 (e:=At) underlying26 J J J s hr ?_
 rintro jz _ rfl hs
 refine Ad 8 J c j<|BR Bt J (hs.kx ag (by simp)) J<|Ay 9 J c j<|Ad 10 J c j<|B0 J J<|Ad 11 J c j<|CI (o:=0) Io J J<|Ad 12 J c j<|BR Cs J (EAt.addk (m.kx ag (by simp)) 0) J<|Ay 13 J c j<|bB d fun j0 ht d=>Ad 14 J c j<|B7 (e:=As) underlying36 J J J t ht ?_
 rintro j1 _ rfl hu
 refine Ad 15 J c j<|BR A9 J (hu.kx ag (by simp)) J<|bB d fun hv hw d=>Ad 16 J c j<|B7 (e:=At) underlying26 J J J s hw ?_
 rintro j2 _ rfl hx
 refine Ad 17 J c j<|BR Bt J (hx.kx ag (by simp)) J<|A1 18 J<|bB d fun d2 hy d=>A7 J call127 (UQ d1 hq hv _ hy) J ?_
 rintro _ hz ⟨rfl,d3⟩
 refine ⟨_,rfl,?_⟩
 have d4:=tm ag d3
 have bv:=j.ext d3
 refine Ai<|Ar bv<|Ad 19 J c bv<|Ba J J J<|Ad 20 J c bv<|Ba J J J<|A1 21 J<|bB d fun j3 h0 d=>A7 J call120 (KG hz (x.st d4) d2.1 d2.2 _ h0) J ?_
 rintro _ j4 ⟨rfl,d5⟩
 refine ⟨_,rfl,?_⟩
 have h1:=tm d4 d5
 have d6:=bv.ext d5
 refine Ai<|Ar d6<|Ad 22 J c d6<|AD J J<|Bc<|hn<|Aw<|rt u J J<|by cases d; exact ⟨rfl,h1⟩
 refine Al fun _ h2=>?_
 refine AR J J J<|An 1 J<|h2<|A3 J d (fun _ d=>?_)<|fun _ d=>?_
 refine Ao fun _ h3=>?_
 refine AQ B1 [] f hS fun d7 _ bw _=>?_
 have ad:=KeepX.refl d7 []
 refine Ay 0 J c ad<|Ad 1 J c ad<|B0 J J<|Ad 2 J c ad<|CI (o:=3) T8 J J<|Ad 3 J c ad<|BR Qi J (EAt.addk (m.kx bw (by simp)) 3) J<|Ay 4 J c ad<|bB d fun h4 h5 d=>Ad 5 J c ad<|B7 (e:=As) underlying36 J J J t h5 ?_
 rintro j5 _ rfl h6
 refine Ad 6 J c ad<|BR A9 J (h6.kx bw (by simp)) J<|A1 7 J<|bB d fun d8 h7 d=>A7 J call128 (XT d7 g.2.2.2.1 ap (bz.ro bw) h4 _ h7) J ?_
 rintro _ h8 ⟨rfl,d9⟩
 refine ⟨_,rfl,?_⟩
 have ea:=tm bw d9
 have bx:=ad.ext d9
 refine Ai<|Ar bx<|Ad 8 J c bx<|Ba J J J<|Ad 9 J c bx<|Ba J J J<|A1 10 J<|bB d fun j6 h9 d=>A7 J call120 (KG h8 (x.st ea) d8.1 d8.2 _ h9) J ?_
 rintro _ j7 ⟨rfl,eb⟩
 refine ⟨_,rfl,?_⟩
 have ia:=tm ea eb
 have ec:=bx.ext eb
 refine Ai<|Ar ec<|Ad 11 J c ec<|AD J J<|Bc<|h3<|Aw<|rt u J J<|by cases d; exact ⟨rfl,ia⟩
 refine Al fun _ ib=>?_
 refine AR J J J<|An 1 J<|ib<|A3 J d (fun _ d=>?_)<|fun _ d=>?_
 refine Ao fun _ ic=>?_
 refine AQ B1 [] f hS fun ed _ a1 _=>?_
 have v:=KeepX.refl ed []
 refine Ay 0 J c v<|Ad 1 J c v<|B0 J J<|Ad 2 J c v<|CI (o:=4) Wx J J<|Ad 3 J c v<|BR Tx J (EAt.addk (m.kx a1 (by simp)) 4) J<|Ay 4 J c v<|bB d fun ie ig d=>Ad 5 J c v<|B7 (e:=As) underlying36 J J J t ig ?_
 rintro j8 _ rfl ih
 refine Ad 6 J c v<|BR A9 J (ih.kx a1 (by simp)) J<|Ay 7 J c v<|bB d fun ii ij d=>Ad 8 J c v<|B7 (e:=As) underlying36 J J J t ij ?_
 rintro j9 _ rfl ik
 refine Ad 9 J c v<|BR A9 J (ik.kx a1 (by simp)) J<|A1 10 J<|bB d fun il im d=>A7 J call129 (UR ed g.2.2.2.2.1 aq (b0.ro a1) ie ii _ im) J ?_
 rintro _ io ⟨rfl,ee⟩
 refine ⟨_,rfl,?_⟩
 have cn:=tm a1 ee
 have ao:=v.ext ee
 refine Ai<|Ar ao<|Ay 11 J c ao<|Ad 12 J c ao<|Ba J J J<|Ad 13 J c ao<|Ba J J J<|Ad 14 J c ao<|AD J J<|Ad 15 J c ao<|AD J J<|Bc<|ic<|Ao fun _ ip=>Am 2 J<|A3 J d (fun _ d=>?_)<|fun _ d=>?_
 refine Am 1 J ?_
 refine Aw<|rt u J J<|by cases d; exact ⟨rfl,cn⟩
 refine Au<|ip ?_
 refine Al fun _ iq=>wp 1 J<|bB d fun ka ir d=>A7 J call130 (EZ io (x.st cn) il.1 _ ir) J ?_
 rintro _ kb ⟨rfl,it⟩
 refine ⟨_,rfl,?_⟩
 have iu:=tm cn it
 refine An 1 J<|iq<|Aw<|rt u J J<|by cases d; exact ⟨rfl,iu⟩
 refine Au<|ef ?_
 refine Al fun _ iw=>wp 2 J<|bB d fun ix iy d=>BT (e:=As) underlying36 J J J t iy ?_
 rintro kc _ rfl iz
 refine BZ A9 J (iz.ro f) J<|bB d fun kd i0 d=>A7 J call131 (NO k (x.st f) g p0 y (s.ro f) ac (ah.ro f) ap (bz.ro f) aq (b0.ro f) a3 (co.ro f) (m.ro f) ix _ i0) J ?_
 rintro _ ke ⟨rfl,i1⟩
 refine ⟨_,rfl,?_⟩
 have i2:=tm f i1
 refine An 1 J<|iw<|Aw<|rt u J J<|by cases d; exact ⟨rfl,i2⟩
theorem Qb(f:Af)(g:Akg×Akg×Int×Akg×Akh×Akj)(d:Nat)(n:Ap)(x1:List Ag)(bf:Sep 0 f [A6 AX 76 n d g])(hT:TabX f (AP [A6 AX 76 n d g]))(r:(List Ag)×(Akg×Akg×Int×Akg×Akh×Akj))(c:DH g x1=some r) :
  A2 66 [.pointer (some ⟨d,0,none⟩),.string (AL x1)] f fun e w'=>∃(H_0:Ap),e=.returned (.string (AL r.1))∧Below 0 (wE f) w'∧Sep 0 w' [A5 f (AP [A6 AX 76 n d g]),A6 AX 76 H_0 d r.2]:=by
 refine Ek func66 J ntmps66 J J fun Q hQ hP=>?_
 have hB:Bl (wE f) f:=Dp f
 have hS:Sp (wE f) f [A5 f (AP [A6 AX 76 n d g]),A6 AX 76 n d g]:=bf.rest
 unfold DH at c
 refine Am 1 J<|Al fun _ bj=>wp 1 J<|bB c fun u3 bk c=>Ds J call81 hB hS (Qz f x1 [32] _ bk) J fun v4 F5 w6 _ _ bl ar=>An 1 J<|bj<|Al fun _ bm=>wp 1 J<|bB c fun o bn c=>I3 (e:=BK) (i:=0) underlying61 J J J ar J bn ?_
 rintro dy _ rfl au dz
 refine BZ MT J au J<|AZ (vs:=[]) (l:=[]) Cl underlying36 J J J J J J bl ar fun bo bp d0 bq br av=>?_
 have au:=au.keepS (fun b hb=>bq.block b (((ar.get (i:=0) J).2.1 b hb).2)) (fun _ h=>h)
 refine An 2 J<|bm<|Ao fun _ bs=>Al fun _ bt=>wp 1 J<|bB c fun w bu c=>Mp (e:=BK) underlying61 J J (av.ok (i:=1) J:ownS BK _ _ _ _).rd bu (.inr ⟨_,_,rfl,rfl⟩) (.inl ⟨rfl,rfl⟩) fun an a4 _=>BO (a4.mono (fun b hb=>((av.get (i:=1) J).2.1 b hb).2)) underlying61 J<|An 1 J<|bt<|A0<|AN (fun m a x=>∃(q:List Int)(af:Int)(p:Ac)(s:Ap),St 69 [(0,.pointer (some ⟨d,0,none⟩)),(6,.string (AL o)),(7,p),(19,an),(20,iv (List.length w:Int)),(21,iv af)] a∧Bl (wE f) x∧Sp (wE f) x [A5 f (AP [A6 AX 76 n d g]),A6 AX 76 n d g,Ab As s p q,Ab BK F5 v4 u3]∧(rdS BK (· ∈ F5) x an w)∧Ce w g o m q af=some r) FU ?_ ?_
 exact fun a ha=>⟨[],0,bo,bp,ha.sb J,br,av.sel [2,3,0,1] J,a4,c⟩
 rintro ag a x ⟨q,af,p,s,ha,a5,y,v,c⟩ d1 bv
 refine BC ?_ ha
 cases ag with
 | zero=>exact Be c
 | succ ag =>
  obtain ⟨d2,a6⟩:∃ k,k=Ce w g o ag:=⟨_,rfl⟩
  rw [Ce,← a6] at c
  refine Am 1 J<|Ao fun _ bw=>A3 J c (fun _ c=>?_)<|fun _ c=>?_
  refine Au<|bw ?_
  refine Ao fun _ bx=>A0<|Al fun _ bz=>bB c fun b1 b2 c=>BT (e:=BK) underlying61 J J J (v.mono (fun b hb=>((y.get (i:=3) J).2.1 b hb).2)) b2 ?_
  rintro d3 _ rfl b3
  refine BZ MT J b3 J<|An 1 J<|bz<|Al fun _ b4=>wp 1 J<|bB c fun ah b5 c=>Bn J call82 a5 y (WY x b1 _ b5) J fun d4 b6 a7 a8=>?_
  have v:=v.keep (fun b hb=>b6.block b (((y.get (i:=3) J).2.1 b hb).2))
  refine An 5 J<|b4<|Ao fun _ b7=>Ao fun b8 b9=>?_
  obtain ⟨ca,cb,c⟩:=Cb c
  have a9:∀(aw:Bool)(ai:Af)(z:rdS BK (· ∈ F5) ai an w)(_:ca aw=some r)(_:Bl (wE f) ai)(_:Sp (wE f) ai [A5 f (AP [A6 AX 76 n d g]),A6 AX 76 n d g,Ab As s p q,Ab BK F5 v4 u3]),∀ a,St 69 [(0,.pointer (some ⟨d,0,none⟩)),(6,.string (AL o)),(7,p),(10,iv ah.1),(19,an),(20,iv (List.length w:Int)),(21,iv af),(35,.bool aw)] a→b8 a ai:=by
   intro aw ai z c ba ax
   subst cb
   refine b9<|A3 J c (fun _ c=>?_)<|fun _ c=>?_
   refine Am 1 J ?_
   refine Aw<|rt hQ J J<|by cases c; exact ⟨n,rfl,ba,ax.sel [0,1] J⟩
   refine Au<|b7 ?_
   refine Aq<|wp 2 J<|AZ (vs:=[iv ah.1]) (l:=[ah.1]) Cl underlying36 J J J J J J ba ax fun d5 d6 cc cd ce ao=>?_
   have z:=z.keep (fun b hb=>cd.block b (((ax.get (i:=3) J).2.1 b hb).2))
   refine bB c fun cf cg c=>AE (i:=3) (S:=(·<cc.heap.size)) Cl underlying36 J J J ce ao J (ao.own_ro (i:=0) J) cg fun ch ci d7 cj ck cl=>?_
   have z:=z.keep (fun b hb=>cj.2.1 b (((ao.get (i:=4) J).2.1 b hb).2) (ao.disj (i:=4) (j:=3) J J J b hb))
   refine An 1 J<|bx<|Aq<|An 2 J ?_
   rw [a6] at c
   exact fun a ha=>bv a _ ag (AB ag) ⟨cf,Ah (af+1),ch,ci,ha.sb J,ck,cl.sel [1,2,3,4] J,z,c⟩
  refine Aq<|wp 3 J ?_
  rcases bE (!ah.2) with t|t
  replace c:=Bw t c
  refine wo J t<|wo J t<|A8 J J t J<|Ai ?_
  exact jx (a9 true _ v c a7 (a8.sel [0,1,2,3] J)) J
  replace c:=BI t c
  refine wn J t<|wp 1 J<|wn J t<|wp 1 J<|Ak J J t J<|Ai ?_
  exact jx (a9 (decide (99999<ah.1)) _ v c a7 (a8.sel [0,1,2,3] J)) J
  refine Bb<|bs ?_
  refine Ao fun _ cm=>Al fun _ cn=>wp 1 J<|BO (y.own_ro (i:=2) J) underlying36 J<|wp 1 J<|bB c fun d8 co c=>Bn J call83 a5 y (Th x o _ co) J fun d9 cp aa ab=>?_
  have v:=v.keep (fun b hb=>cp.block b (((y.get (i:=3) J).2.1 b hb).2))
  refine An 1 J<|cn<|A3 J c (fun _ c=>?_)<|fun _ c=>?_
  refine Am 1 J ?_
  refine Aw<|rt hQ J J<|by cases c; exact ⟨n,rfl,aa,ab.sel [0,1] J⟩
  refine Au<|cm ?_
  refine Ao fun _ cq=>Am 1 J<|A0<|Ao fun cr cs=>?_
  obtain ⟨ct,cu,c⟩:=Cb c
  have aj:∀(ay:Bool)(ak:Af)(_:ct ay=some r)(_:Bl (wE f) ak)(_:Sp (wE f) ak [A5 f (AP [A6 AX 76 n d g]),A6 AX 76 n d g,Ab As s p q]),∀ a,St 69 [(0,.pointer (some ⟨d,0,none⟩)),(6,.string (AL o)),(7,p),(46,.string (AL o)),(47,.bool ay)] a→cr a ak:=by
   intro ay ak c al ac
   subst cu
   refine cs<|A3 J c (fun _ c=>?_)<|fun _ c=>?_
   refine Al fun _ cv=>?_
   refine wp 3 J<|bB c fun cw cx c=>A7 J call84 (OQ ak g d n o q p s (ac.sel [1,2] J).base0 _ cx) J ?_
   rintro _ cy ⟨bb,rfl,cz,bc⟩
   refine ⟨_,rfl,?_⟩
   have c0:=ac.takeB [1,2] J (M:=[A6 AX 76 n d g,Ab As s p q]) J al cz bc
   have c1:Sp (wE f) cy [A6 AX 76 bb d cw.2,A5 f (AP [A6 AX 76 n d g])]:=ac.take [1,2] [0] J (M:=[A6 AX 76 n d g,Ab As s p q]) J bc al.size
   refine An 1 J<|cv<|Aw<|rt hQ J J<|by cases c; exact ⟨bb,rfl,c0,c1.sel [1,0] J⟩
   refine Ao fun c2 c3=>?_
   obtain ⟨c4,c5,c⟩:=Cb c
   have az:∀(a0:Bool)(ad:Af)(_:c4 a0=some r)(_:Bl (wE f) ad)(_:Sp (wE f) ad [A5 f (AP [A6 AX 76 n d g]),A6 AX 76 n d g,Ab As s p q]),∀ a,St 69 [(0,.pointer (some ⟨d,0,none⟩)),(6,.string (AL o)),(7,p),(57,.bool a0)] a→c2 a ad:=by
    intro a0 ad c a1 ap
    subst c5
    refine c3<|A3 J c (fun _ c=>?_)<|fun _ c=>?_
    refine Al fun _ c6=>?_
    refine wp 3 J<|bB c fun c7 c8 c=>A7 J call85 (Qd ad g d n o q p s (ap.sel [1,2] J).base0 _ c8) J ?_
    rintro _ c9 ⟨bd,rfl,da,be⟩
    refine ⟨_,rfl,?_⟩
    have db:=ap.takeB [1,2] J (M:=[A6 AX 76 n d g,Ab As s p q]) J a1 da be
    have dc:Sp (wE f) c9 [A6 AX 76 bd d c7.2,A5 f (AP [A6 AX 76 n d g])]:=ap.take [1,2] [0] J (M:=[A6 AX 76 n d g,Ab As s p q]) J be a1.size
    refine An 1 J<|c6<|Aw<|rt hQ J J<|by cases c; exact ⟨bd,rfl,db,dc.sel [1,0] J⟩
    refine Au<|cq ?_
    refine Al fun _ dd=>wp 3 J ?_
    obtain ⟨de,ea,df,eb,dg,ec,dh,ed,di,ee,u⟩:=HM (ap.sel [1,0,2] J)
    refine bB c fun ef dj c=>Bn J call86 a1 u (Qc ad (hT _ (u.ok (i:=6) J)) g ⟨d,0,none⟩ de (u.own_ro (i:=1) J) df (u.own_ro (i:=2) J) dg (u.own_ro (i:=3) J) dh (u.own_ro (i:=4) J) di (u.own_ro (i:=5) J) (Aas (i:=0) u J) o q p (u.own_ro (i:=7) J) _ dj) J fun dk _ dl dm=>An 1 J<|dd<|Aw ?_
    obtain ⟨dn,dp⟩:∃ F,Sp (wE f) dk [A6 AX 76 F d g,A5 f (AP [A6 AX 76 n d g]),Ab As s p q]:=⟨_,DF (dm.sel [0,1,2,3,4,5,6,7] J)⟩
    refine rt hQ J J<|by cases c; exact ⟨dn,rfl,dl,dp.sel [1,0] J⟩
   refine Al fun _ dq=>AR J J J<|An 1 J<|dq<|A3 J c (fun _ c=>?_)<|fun _ c=>?_
   refine Au ?_
   exact jx (az (o==[109,101,97,115,117,114,101]) _ c al (ac.sel [0,1,2] J)) J
   refine Al fun _ dr=>?_
   refine AR J J J<|An 1 J<|dr<|A3 J c (fun _ c=>?_)<|fun _ c=>?_
   refine Au ?_
   exact jx (az (o==[99,97,114,114,121]) _ c al (ac.sel [0,1,2] J)) J
   refine Aq ?_
   refine AR J J J<|An 1 J ?_
   exact jx (az (o==[118,101,114,115,105,111,110]) _ c al (ac.sel [0,1,2] J)) J
  refine Al fun _ ds=>AR J J J<|An 1 J<|ds<|A3 J c (fun _ c=>?_)<|fun _ c=>?_
  refine Au ?_
  exact jx (aj (o==[115,112,111,116]) _ c aa (ab.sel [0,1,2] J)) J
  refine Al fun _ dt=>?_
  refine AR J J J<|An 1 J<|dt<|A3 J c (fun _ c=>?_)<|fun _ c=>?_
  refine Au ?_
  exact jx (aj (o==[112,108,97,99,101]) _ c aa (ab.sel [0,1,2] J)) J
  refine Al fun _ du=>?_
  refine AR J J J<|An 1 J<|du<|A3 J c (fun _ c=>?_)<|fun _ c=>?_
  refine Au ?_
  exact jx (aj (o==[109,105,114,114,111,114]) _ c aa (ab.sel [0,1,2] J)) J
  refine Al fun _ dv=>?_
  refine AR J J J<|An 1 J<|dv<|A3 J c (fun _ c=>?_)<|fun _ c=>?_
  refine Au ?_
  exact jx (aj (o==[107,101,101,112]) _ c aa (ab.sel [0,1,2] J)) J
  refine Aq ?_
  refine AR J J J<|An 1 J ?_
  exact jx (aj (o==[99,111,117,110,116,115]) _ c aa (ab.sel [0,1,2] J)) J
theorem I0(c:Af)(hT:Tab c)(w:List Ag)(r:(Bool×(Akg×Akg×Int×Akg×Akh×Akj))×(List (List Ag))×Bool)(b:EH w=some r) :
  A2 47 [.string (AL w)] c fun e w'=>∃(y:Ac)(z:Nat)(H0:Ap)(q0:Ac)(G0:Ap),e=.returned (.tuple #[y,q0,.bool r.2.2])∧y=pvl r.1.1 z∧Bl c w'∧Sp c w' (Ajr r.1.1 [A6 AX 76 H0 z r.1.2]++[Ab BK G0 q0 r.2.1]):=by
 refine cm func47 ntmps47 J fun Q hQ hP hB hS=>?_
 unfold EH at b
 refine Am 3 J<|Al fun _ ap=>wp 1 J<|bB b fun j aq b=>Ds J call58 hB hS (KF c w _ aq) J fun x F5 w6 _ _ ad ae=>An 5 J<|ap<|Ao fun _ au=>Am 2 J<|A3 J b (fun _ b=>?_)<|fun _ b=>?_
 refine Am 3 J ?_
 refine Aw ?_
 have av:=ae.push0 (r:=Ab BK [] (.slice none 0 0) []) J fun _=>.inl ⟨rfl,rfl,rfl⟩
 refine rt hQ J J<|by cases b; exact ⟨.pointer none,0,[],.slice none 0 0,[],rfl,rfl,ad,av.sel [0] J⟩
 refine Au<|au ?_
 refine Al fun _ aw=>bB b fun ax ay b=>Ds J call65 ad ae (VT w6 _ ay) J fun d az bs _ _ a0 a1=>AZ (vs:=[]) (l:=[]) Gl underlying61 J J J J J J a0 a1 fun a2 a3 bt _ a4 af=>An 2 J<|aw<|Ao fun _ a5=>Al fun _ a6=>wp 1 J<|BO (af.own_ro (i:=2) J) underlying61 J<|An 1 J<|a6<|A0<|AN (fun m a p=>∃(f:Akg×Akg×Int×Akg×Akh×Akj)(q:List (List Ag))(s:Int)(g:Ap)(n:Ac)(t:Ap),St 35 [(7,.pointer (some ⟨d,0,none⟩)),(8,n),(20,x),(21,iv (List.length j.1:Int)),(22,iv s)] a∧Bl c p∧Sp c p [A6 AX 76 g d f,Ab BK t n q,Ab BK F5 x j.1]∧EP j m f q s=some r) FU ?_ ?_
 exact fun a ha=>⟨ax,[],0,az,a2,a3,ha.sb J,a4,af.sel [1,0,2] J,b⟩
 rintro o a p ⟨f,q,s,g,n,t,ha,u,h,b⟩ bu a7
 refine BC ?_ ha
 cases o with
 | zero=>exact Be b
 | succ o =>
  obtain ⟨bv,ag⟩:∃ k,k=EP j o:=⟨_,rfl⟩
  rw [EP,← ag] at b
  refine Am 1 J<|Ao fun _ a8=>A3 J b (fun _ b=>?_)<|fun _ b=>?_
  refine Au<|a8 ?_
  refine Ao fun _ a9=>A0<|Al fun _ ba=>bB b fun bb bc b=>Co (e:=BK) (i:=2) underlying61 J J J h J bc ?_
  rintro bw _ rfl bd bx
  refine BZ MT J bd J<|An 1 J<|ba<|Aq<|wp 3 J<|bB b fun v be b=>A7 J call66 (Qb p f d g bb (h.sel [0] J).base0 (TabX.of hT u (h.sel [0] J)) _ be) J ?_
  rintro _ bf ⟨ah,rfl,bg,ai⟩
  refine ⟨_,rfl,?_⟩
  have bh:=h.takeB [0] J (M:=[A6 AX 76 g d f]) J u bg ai
  have bi:Sp c bf [A6 AX 76 ah d v.2,Ab BK t n q,Ab BK F5 x j.1]:=h.take [0] [1,2] J (M:=[A6 AX 76 g d f]) J ai u.size
  refine AZ (vs:=[.string (AL v.1)]) (l:=[v.1]) Gl underlying61 J J J J J J bh bi fun bz b0 bj _ bk aj=>bB b fun bl bm b=>AE (i:=2) (S:=(·<bj.heap.size)) Gl underlying61 J J J bk aj J (aj.own_ro (i:=0) J) bm fun bn bo b1 _ bp bq=>An 1 J<|a9<|Aq<|An 2 J ?_
  rw [ag] at b
  exact fun a ha=>a7 a _ o (AB o) ⟨v.2,bl,Ah (s+1),ah,bn,bo,ha.sb J,bp,bq.sel [1,2,3] J,b⟩
  refine Bb<|a5 ?_
  refine Am 5 J<|Aw<|rt hQ J J<|by cases b; exact ⟨.pointer (some ⟨d,0,none⟩),d,g,n,t,rfl,rfl,u,h.sel [0,1] J⟩
theorem NL(c:Af)(hT:Tab c)(x0 r:List Ag)(b:GP x0=some r) :
  A2 11 [.string (AL x0)] c fun e w'=>e=.returned (.string (AL r))∧Bl c w':=by
 refine cm func11 ntmps11 J fun Q hQ hP q hS=>?_
 unfold GP at b
 refine Am 1 J<|Ao fun K2 aw=>?_
 obtain ⟨k9,ay,b⟩:=Cb b
 have ag:∀(g:List (List Ag))(n:Ac)(v:Ap)(w:Af)(_:k9 g=some r)(_:Bl c w)(_:Sp c w [Ab BK v n g]),∀ a,St 26 [(4,n)] a→K2 a w:=by
  intro g n v w b az a0
  subst ay
  refine aw<|Al fun _ a1=>EE Ai4 J az a0 fun d bv _ a2 ah=>Ai<|a1<|Ao fun _ a3=>Al fun _ a4=>wp 1 J<|BO (ah.own_ro (i:=1) J) underlying61 J<|An 1 J<|a4<|A0<|AN (fun m a s=>∃(j:List Int)(x:Int)(h f:Ac)(o:Ap),St 26 [(6,.pointer (some ⟨d,0,none⟩)),(15,n),(16,iv (List.length g:Int)),(17,iv x)] a∧Bl c s∧Sp c s [Ab H2 o f j,Av d 66 [h,f],Ab BK v n g]∧(h=.pointer none∨h=.pointer (some ⟨d,0,none⟩))∧EB g m j x=some r) FU ?_ ?_
  have a5:=ah.push0 (r:=Ab H2 [] (.slice none 0 0) []) J fun _=>.inl ⟨rfl,rfl,rfl⟩
  exact fun a ha=>⟨[],0,.pointer none,.slice none 0 0,[],ha.sb J,a2,a5.sel [0,1,2] J,.inl J,b⟩
  rintro t a s ⟨j,x,h,f,o,ha,ad,u,ai,b⟩ bw a6
  refine BC ?_ ha
  cases t with
  | zero=>exact Be b
  | succ t =>
   obtain ⟨bx,aj⟩:∃ k,k=EB g t:=⟨_,rfl⟩
   rw [EB,← aj] at b
   refine Am 1 J<|Ao fun _ a7=>A3 J b (fun _ b=>?_)<|fun _ b=>?_
   refine Au<|a7 ?_
   refine Ao fun _ a8=>A0<|Al fun _ a9=>bB b fun bz ba b=>Co (e:=BK) (i:=2) underlying61 J J J u J ba ?_
   rintro b0 _ rfl bb b1
   refine BZ MT J bb J<|An 1 J<|a9<|Aq<|wp 1 J<|bB b fun bc bd b=>BA J J J bd<|bB b fun ak be b=>A7 J call48 (R0 s d h f ai o j bc (u.sel [1,0] J).base0 _ be) J ?_
   rintro _ bf ⟨rfl,bg,ae,al,am,hM45z⟩
   refine ⟨_,rfl,?_⟩
   have bh:=u.takeB [1,0] J (M:=[Av d 66 [h,f],Ab H2 o f j]) J ad bg am
   have bi:Sp c bf [Av d 66 [.pointer (some ⟨d,0,none⟩),ae],Ab H2 al ae ak,Ab BK v n g]:=u.take [1,0] [2] J (M:=[Av d 66 [h,f],Ab H2 o f j]) J am ad.size
   refine Ai<|a8<|Aq<|An 2 J ?_
   rw [aj] at b
   exact fun a ha=>a6 a _ t (AB t) ⟨ak,Ah (x+1),.pointer (some ⟨d,0,none⟩),ae,al,ha.sb J,bh,bi.sel [1,0,2] J,.inr J,b⟩
   refine Bb<|a3 ?_
   refine Al fun _ bj=>bB b fun b2 bk b=>A7 J call49 (UT c s d h f ai o j ad (u.sel [1,0,2] J) _ bk) J ?_
   rintro _ b3 ⟨rfl,bl⟩
   refine ⟨_,rfl,An 1 J (bj (Aw (rt hQ J J (by cases b; exact ⟨rfl,bl⟩))))⟩
 refine Aq<|wp 1 J<|bB b fun p bm b=>A7 J call47 (I0 c (hT.st q) x0 _ bm) J ?_
 rintro _ an ⟨ao,ap,bn,y,z,rfl,aq,aa,ab⟩
 refine ⟨_,rfl,?_⟩
 rcases bE p.1.1 with l|l
 replace b:=Bw l b
 obtain rfl:ao=(.pointer (some ⟨ap,0,none⟩)):=aq.trans (by rw [l]; rfl)
 have bo:Sp c an [A6 AX 76 bn ap p.1.2,Ab BK z y p.2.1]:=by rw [l] at ab; exact ab
 have bp:=tm q aa
 have bq:=hS.join aa bo q.size
 refine An 7 J ?_
 exact jx (ag (p.2.1) y z _ b bp (bq.sel [1] J)) J
 replace b:=BI l b
 obtain rfl:ao=(.pointer none):=aq.trans (by rw [l]; rfl)
 have br:Sp c an [Ab BK z y p.2.1]:=by rw [l] at ab; exact ab
 have bs:=tm q aa
 have bt:=hS.join aa br q.size
 refine An 7 J ?_
 exact jx (ag (p.2.1) y z _ b bs (bt.sel [0] J)) J
theorem TN(b:Af)(c:List Ag)(r:Akg×Bool)(a:Ji c=some r) :
  A2 14 [.string (AL c)] b fun e w'=>∃(d:Ac)(j:Ap),e=.returned (.tuple #[d,.bool r.2])∧Bl b w'∧Sp b w' [Ab At j d r.1]:=by
 refine cm func14 ntmps14 J fun Q f u k l=>?_
 unfold Ji at a
 refine Am 2 J<|Al fun _ m=>wp 1 J<|bB a fun v n a=>Ds J call46 k l (Mn b c _ n) J fun w x y _ _ g h=>An 7 J<|m<|Ao fun _ o=>Am 2 J<|A3 J a (fun _ a=>?_)<|fun _ a=>?_
 refine Am 2 J ?_
 refine Aw ?_
 have p:=h.push0 (r:=Ab At [] (.slice none 0 0) []) J fun _=>.inl ⟨rfl,rfl,rfl⟩
 refine rt f J J<|by cases a; exact ⟨.slice none 0 0,[],rfl,g,p.sel [0] J⟩
 refine Au<|o ?_
 refine Al fun _ q=>wp 1 J<|B4 J J<|Bp J4 J ?_
 obtain ⟨s,t,z,aa,ab,ac,ad,ae,af,ag,ah,ai,aj,ak,i⟩:=G5 (h.sel [0] J)
 refine AU 0 Cs J i J J<|An 2 J<|q<|Aw<|rt f J J<|by cases a; exact ⟨s,t,rfl,g,i.sel [1] J⟩
theorem OW(b:Af)(x:Tab b)(i:List Ag)(r:Akg×Bool)(a:HR i=some r) :
  A2 15 [.string (AL i)] b fun e w'=>∃(k:Ac)(y:Ap),e=.returned (.tuple #[k,.bool r.2])∧Bl b w'∧Sp b w' [Ab At y k r.1]:=by
 refine cm func15 ntmps15 J fun Q j hP d l=>?_
 unfold HR at a
 refine Am 2 J<|Al fun _ m=>wp 1 J<|bB a fun f z a=>A7 J call47 (I0 b (x.st d) i _ z) J ?_
 rintro _ n ⟨o,p,F6,q,s,rfl,t,g,h⟩
 refine ⟨_,rfl,?_⟩
 rcases bE f.1.1 with c|c
 replace a:=Bw c a
 obtain rfl:o=(.pointer (some ⟨p,0,none⟩)):=t.trans (by rw [c]; rfl)
 have ab:Sp b n [A6 AX 76 F6 p f.1.2,Ab BK s q f.2.1]:=by rw [c] at h; exact h
 have u:=tm d g
 have v:=l.join g ab d.size
 refine An 7 J<|m<|Ao fun _ ac=>Am 2 J<|A3 J a (fun _ a=>?_)<|fun _ a=>?_
 refine Am 2 J ?_
 refine Aw ?_
 have ad:=v.push0 (r:=Ab At [] (.slice none 0 0) []) J fun _=>.inl ⟨rfl,rfl,rfl⟩
 refine rt j J J<|by cases a; exact ⟨.slice none 0 0,[],rfl,u,ad.sel [0] J⟩
 refine Au<|ac ?_
 refine Al fun _ ae=>wp 1 J<|B4 J J<|Bp Io J ?_
 obtain ⟨af,ag,an,ao,ap,aq,ar,au,av,aw,w⟩:=HM (v.sel [0,1] J)
 refine AU 0 Cs J w J J<|An 2 J<|ae<|Aw<|rt j J J<|by cases a; exact ⟨af,ag,rfl,u,w.sel [1] J⟩
 replace a:=BI c a
 obtain rfl:o=(.pointer none):=t.trans (by rw [c]; rfl)
 have ah:Sp b n [Ab BK s q f.2.1]:=by rw [c] at h; exact h
 have ai:=tm d g
 have aj:=l.join g ah d.size
 refine An 7 J<|m<|Ao fun _ ak=>Am 2 J<|A3 J a (fun _ a=>?_)<|fun _ a=>?_
 refine Am 2 J ?_
 refine Aw ?_
 have al:=aj.push0 (r:=Ab At [] (.slice none 0 0) []) J fun _=>.inl ⟨rfl,rfl,rfl⟩
 refine rt j J J<|by cases a; exact ⟨.slice none 0 0,[],rfl,ai,al.sel [0] J⟩
 refine Au<|ak ?_
 refine Al fun _ _=>wp 1 J ?_
 exact Be a
theorem Sw(c:Af)(hT:Tab c)(x0:List Ag)(r:Int×Int×Int×Bool)(b:Ii x0=some r) :
  A2 13 [.string (AL x0)] c fun e w'=>e=.returned (.tuple #[iv r.1,iv r.2.1,iv r.2.2.1,.bool r.2.2.2])∧Bl c w':=by
 refine cm func13 ntmps13 J fun Q hQ hP n hS=>?_
 unfold Ii at b
 refine Am 4 J<|Ao fun K2 au=>?_
 obtain ⟨av,aw,b⟩:=Np b
 have ai:∀(d:List (List Ag))(y9:Bool)(f:Ac)(s:Ap)(t:Af)(_:av d y9=some r)(_:Bl c t)(_:Sp c t [Ab BK s f d]),∀ a,St 45 [(7,f),(8,.bool y9)] a→K2 a t:=by
  intro d y9 f s t b aj ak
  subst aw
  refine au<|Ao fun _ ax=>Am 2 J<|A3 J b (fun _ b=>?_)<|fun _ b=>?_
  refine Am 4 J ?_
  refine Aw<|rt hQ J J<|by cases b; exact ⟨rfl,aj⟩
  refine Au<|ax ?_
  refine Am 2 J<|Ao fun _ ay=>Al fun _ az=>wp 1 J<|BO (ak.own_ro (i:=0) J) underlying61 J<|An 1 J<|az<|A0<|AN (fun m a ae=>∃(j l o:Int),St 45 [(7,f),(9,iv j),(10,iv l),(21,f),(22,iv (List.length d:Int)),(23,iv o)] a∧Bl c ae∧Sp c ae [Ab BK s f d]∧D4 d m j l o=some r) FU ?_ ?_
  exact fun a ha=>⟨0,0,0,ha.sb J,aj,ak.sel [0] J,b⟩
  rintro p a ae ⟨j,l,o,ha,u,q,b⟩ bn a0
  refine BC ?_ ha
  cases p with
  | zero=>exact Be b
  | succ p =>
   obtain ⟨bo,al⟩:∃ k,k=D4 d p:=⟨_,rfl⟩
   rw [D4,← al] at b
   refine Am 1 J<|Ao fun _ a1=>A3 J b (fun _ b=>?_)<|fun _ b=>?_
   refine Au<|a1 ?_
   refine Ao fun a2 a3=>?_
   obtain ⟨a4,a5,b⟩:=Np b
   have af:∀(v w:Int)(x:Af)(_:a4 v w=some r)(_:Bl c x)(_:Sp c x [Ab BK s f d]),∀ a,St 45 [(7,f),(9,iv v),(10,iv w),(21,f),(22,iv (List.length d:Int)),(23,iv o)] a→a2 a x:=by
    intro v w x b a6 a7
    subst a5
    refine a3<|Aq<|An 2 J ?_
    rw [al] at b
    exact fun a ha=>a0 a _ p (AB p) ⟨v,w,Ah (o+1),ha.sb J,a6,a7.sel [0] J,b⟩
   refine A0<|Al fun _ a8=>bB b fun bp a9 b=>Co (e:=BK) (i:=0) underlying61 J J J q J a9 ?_
   rintro bq _ rfl ba br
   refine BZ MT J ba J<|An 1 J<|a8<|Am 1 J<|A0<|Al fun _ bb=>AR J J J<|An 1 J<|bb<|A3 J b (fun _ b=>?_)<|fun _ b=>?_
   refine Aq ?_
   refine An 3 J ?_
   exact jx (af (Ah (j+1)) l _ b u (q.sel [0] J)) J
   refine Al fun _ bc=>?_
   refine AR J J J<|An 1 J<|bc<|A3 J b (fun _ b=>?_)<|fun _ b=>?_
   refine Aq ?_
   refine An 3 J ?_
   exact jx (af j (Ah (l+1)) _ b u (q.sel [0] J)) J
   refine Au ?_
   exact jx (af j l _ b u (q.sel [0] J)) J
   refine Bb<|ay ?_
   refine Al fun _ bd=>wp 3 J<|BO (q.own_ro (i:=0) J) underlying61 J<|An 8 J<|bd<|Aw<|rt hQ J J<|by cases b; exact ⟨rfl,u⟩
 refine Aq<|wp 1 J<|bB b fun g be b=>A7 J call47 (I0 c (hT.st n) x0 _ be) J ?_
 rintro _ am ⟨an,ao,bf,y,z,rfl,ap,aa,ab⟩
 refine ⟨_,rfl,?_⟩
 rcases bE g.1.1 with h|h
 replace b:=Bw h b
 obtain rfl:an=(.pointer (some ⟨ao,0,none⟩)):=ap.trans (by rw [h]; rfl)
 have bg:Sp c am [A6 AX 76 bf ao g.1.2,Ab BK z y g.2.1]:=by rw [h] at ab; exact ab
 have bh:=tm n aa
 have bi:=hS.join aa bg n.size
 refine An 7 J ?_
 exact jx (ai (g.2.1) (g.2.2) y z _ b bh (bi.sel [1] J)) J
 replace b:=BI h b
 obtain rfl:an=(.pointer none):=ap.trans (by rw [h]; rfl)
 have bj:Sp c am [Ab BK z y g.2.1]:=by rw [h] at ab; exact ab
 have bk:=tm n aa
 have bl:=hS.join aa bj n.size
 refine An 7 J ?_
 exact jx (ai (g.2.1) (g.2.2) y z _ b bk (bl.sel [0] J)) J
theorem Tb(d:Af)(h:List Int)(j:Ac)(n:Ap)(o:Int)(al:Sep 0 d [Ab As n j h])(r:List Int)(c:Kz h o=some r) :
  A2 53 [j,iv o] d fun e w'=>∃(q0:Ac)(G0:Ap),e=.returned q0∧Below 0 (wE d) w'∧Sep 0 w' [A5 d (AP [Ab As n j h]),Ab As G0 q0 r]:=by
 refine Ek func53 J ntmps53 J J fun Q hQ hP=>?_
 have hB:Bl (wE d) d:=Dp d
 have hS:Sp (wE d) d [A5 d (AP [Ab As n j h]),Ab As n j h]:=al.rest
 unfold Kz at c
 refine Am 1 J<|Am 1 J<|Ao fun _ ap=>A0<|AN (fun m a w=>∃(p:Int),St 48 [(0,j),(1,iv o),(5,iv p)] a∧Bl (wE d) w∧Sp (wE d) w [A5 d (AP [Ab As n j h]),Ab As n j h]∧El h o m p=some r) FU ?_ ?_
 exact fun a ha=>⟨0,ha.sb J,hB,hS.sel [0,1] J,c⟩
 rintro q a w ⟨p,ha,ae,t,c⟩ bz aq
 refine BC ?_ ha
 cases q with
 | zero=>exact Be c
 | succ q =>
  obtain ⟨b0,af⟩:∃ k,k=El h o q:=⟨_,rfl⟩
  rw [El,← af] at c
  refine Ao fun _ ar=>Ao fun au av=>?_
  obtain ⟨aw,ax,c⟩:=Cb c
  have ag:∀(x:Bool)(u:Af)(_:aw x=some r)(_:Bl (wE d) u)(_:Sp (wE d) u [A5 d (AP [Ab As n j h]),Ab As n j h]),∀ a,St 48 [(0,j),(1,iv o),(5,iv p),(18,.bool x)] a→au a u:=by
   intro x u c y s
   subst ax
   refine av<|A3 J c (fun _ c=>?_)<|fun _ c=>?_
   refine Au<|ar ?_
   refine A0<|Aq<|An 3 J ?_
   rw [af] at c
   exact fun a ha=>aq a _ q (AB q) ⟨Ah (p+1),ha.sb J,y,s.sel [0,1] J,c⟩
   refine Bb<|ap ?_
   refine Ao fun _ ay=>Ao fun az a0=>?_
   obtain ⟨a1,a2,c⟩:=Cb c
   have ah:∀(z:Bool)(v:Af)(_:a1 z=some r)(_:Bl (wE d) v)(_:Sp (wE d) v [A5 d (AP [Ab As n j h]),Ab As n j h]),∀ a,St 48 [(0,j),(1,iv o),(5,iv p),(32,.bool z)] a→az a v:=by
    intro z v c ai aj
    subst a2
    refine a0<|A3 J c (fun _ c=>?_)<|fun _ c=>?_
    refine Am 2 J ?_
    refine Aw<|rt hQ J J<|by cases c; exact ⟨j,n,rfl,ai,aj.sel [0,1] J⟩
    refine Au<|ay ?_
    refine Al fun _ a3=>AZ (vs:=[]) (l:=[]) Cl underlying36 J J J J J J ai aj fun b1 b2 a4 _ a5 aa=>wp 2 J<|bB c fun b3 a6 c=>Mp (e:=As) underlying36 J J (aa.ok (i:=2) J:ownS As _ _ _ _).rd a6 (.inl ⟨rfl,rfl⟩) (.inr ⟨_,_,rfl,rfl⟩) fun b4 a7 _=>?_
    have a8:=a7.mono fun b hb=>((aa.get (i:=2) J).2.1 b hb).2
    refine bB c fun b5 a9 c=>AE (i:=0) (S:=(·<a4.heap.size)) Cl underlying36 J J J a5 aa J a8 a9 fun b6 b7 b8 _ ba bb=>An 1 J<|a3<|Al fun _ bc=>wp 2 J<|AZ (vs:=[iv o]) (l:=[o]) Cl underlying36 J J J J J J ba bb fun b9 ca bd _ be ak=>bB c fun cb bf c=>AE (i:=1) (S:=(·<bd.heap.size)) Cl underlying36 J J J be ak J (ak.own_ro (i:=0) J) bf fun cc cd bg _ bh ab=>An 1 J<|bc<|Al fun _ bi=>wp 3 J<|bB c fun u64 bj c=>Mp (e:=As) underlying36 J J (ab.ok (i:=3) J:ownS As _ _ _ _).rd bj (.inr ⟨_,_,rfl,rfl⟩) (.inl ⟨rfl,rfl⟩) fun ce bk _=>?_
    have bl:=bk.mono fun b hb=>((ab.get (i:=3) J).2.1 b hb).2
    refine bB c fun cf bm c=>AE (i:=1) (S:=(·<bg.heap.size)) Cl underlying36 J J J bh ab J bl bm fun bn bo cg _ bp bq=>An 1 J<|bi<|Aw<|rt hQ J J<|by cases c; exact ⟨bn,bo,rfl,bp,bq.sel [2,1] J⟩
   refine Aq<|wp 2 J<|BO (s.own_ro (i:=1) J) underlying36 J<|wp 2 J ?_
   rcases bE (decide (p<(List.length h:Int))) with f|f
   replace c:=Bw f c
   refine wn J f<|wp 1 J<|wn J f<|wp 1 J<|wn J f<|bB c fun br bs c=>Co (e:=As) (i:=1) underlying36 J J J s J bs ?_
   rintro ch _ rfl bt ci
   refine wn J f<|BZ A9 J bt J<|wn J f<|wp 1 J<|wn J f<|wp 1 J<|A8 J J f J<|Ai ?_
   exact jx (ah (br==o) _ c y (s.sel [0,1] J)) J
   replace c:=BI f c
   refine wo J f<|wo J f<|wo J f<|wo J f<|wo J f<|wo J f<|Ak J J f J<|Ai ?_
   exact jx (ah false _ c y (s.sel [0,1] J)) J
  refine Aq<|wp 2 J<|BO (t.own_ro (i:=1) J) underlying36 J<|wp 2 J ?_
  rcases bE (decide (p<(List.length h:Int))) with g|g
  replace c:=Bw g c
  refine wn J g<|wp 1 J<|wn J g<|wp 1 J<|wn J g<|bB c fun bu bv c=>Co (e:=As) (i:=1) underlying36 J J J t J bv ?_
  rintro cj _ rfl bw ck
  refine wn J g<|BZ A9 J bw J<|wn J g<|wp 1 J<|wn J g<|wp 1 J<|A8 J J g J<|Ai ?_
  exact jx (ag (decide (bu<o)) _ c ae (t.sel [0,1] J)) J
  replace c:=BI g c
  refine wo J g<|wo J g<|wo J g<|wo J g<|wo J g<|wo J g<|Ak J J g J<|Ai ?_
  exact jx (ag false _ c ae (t.sel [0,1] J)) J
theorem Tg(g:Af)(x:List Ag)(r:(List Int)×Bool)(c:IC x=some r) :
  A2 24 [.string (AL x)] g fun e w'=>∃(q0:Ac)(G0:Ap),e=.returned (.tuple #[q0,.bool r.2])∧Bl g w'∧Sp g w' [Ab As G0 q0 r.1]:=by
 refine cm func24 ntmps24 J fun Q hQ d hB hS=>?_
 unfold IC at c
 refine Am 2 J<|Al fun _ ax=>wp 1 J<|bB c fun u3 ay c=>Ds J call46 hB hS (Mn g x _ ay) J fun b4 F5 w6 _ _ ae af=>An 7 J<|ax<|Ao fun _ a0=>Am 2 J<|A3 J c (fun _ c=>?_)<|fun _ c=>?_
 refine Am 2 J ?_
 refine Aw ?_
 have a1:=af.push0 (r:=Ab As [] (.slice none 0 0) []) J fun _=>.inl ⟨rfl,rfl,rfl⟩
 refine rt hQ J J<|by cases c; exact ⟨.slice none 0 0,[],rfl,ae,a1.sel [0] J⟩
 refine Au<|a0 ?_
 refine Am 1 J<|Ao fun _ a2=>Ao fun _ a3=>?_
 obtain ⟨bu,bv,bw,bx,bz,b0,b1,b2,b3,b5,a4,b6,b7,b8,a5⟩:=G5 (af.sel [0] J)
 refine AQ B1 [] ae a5 fun s _ ag t=>?_
 have f:=KeepX.refl s []
 refine Ay 0 J d f<|Ad 1 J d f<|B0 J J<|Ad 2 J d f<|C7 Wz J<|Ad 3 J d f<|CN 0 FA J t J (by simp)<|Ay 5 J d f<|Ad 6 J d f<|B0 J J<|Ad 7 J d f<|C7 Wy J<|Ad 8 J d f<|CN 0 FA J t J (by simp)<|Ay 11 J d f<|A1 4 J<|bB c fun b9 a6 c=>A7 J call52 (PU s u3.1.2.2.2.2.2.2.1 a4 (t.own_ro (i:=6) J) _ a6) J ?_
 rintro _ a7 ⟨ca,a8,rfl,y,ah⟩
 refine ⟨_,rfl,?_⟩
 have a9:=tm ag y
 have ba:∀ b ∈ a8,s.heap.size≤b:=fun b hb=>Az (Nat.le_refl s.heap.size) ((ah.get (i:=0) J).2.1 b hb).1
 have ai:=t.join y ah ag.size
 have aj:=f.ext y
 refine Ai<|Ar aj<|A1 9 J<|bB c fun h bb c=>AE (i:=0) (S:=(·<a7.heap.size)) Cl underlying36 J J J a9 ai J (ai.own_ro (i:=8) J) bb fun u z bc ak bd al=>?_
 have am:=aj.wr' ak.1 ak.2.1 (fun b hlt hb=>absurd hlt (AM.2 (ba b hb)))
 refine Ai<|Ar am<|Ad 10 J d am<|LF (e:=As) (l:=h) underlying36 J J (al.own_ro (i:=0) J)<|Bc<|a3<|A0 ?_
 obtain ⟨cb,be⟩:∃ F,Sp g bc [A6 B9 74 F b4 u3.1,Ab As z u h]:=⟨_,DT (al.sel [1,2,3,4,5,6,7,8,0] J)⟩
 refine AN (fun m a v=>∃(n:List Int)(w:Int)(j:Ac)(o:Ap),St 38 [(7,j),(27,u),(28,iv (List.length h:Int)),(29,iv w)] a∧Bl g v∧Sp g v [Ab As o j n,Ab As z u h]∧Eo h m n w=some r) FU ?_ ?_
 have bf:=be.push0 (r:=Ab As [] (.slice none 0 0) []) J fun _=>.inl ⟨rfl,rfl,rfl⟩
 exact fun a ha=>⟨[],0,.slice none 0 0,[],ha.sb J,bd,bf.sel [0,2] J,c⟩
 rintro p a v ⟨n,w,j,o,ha,aa,q,c⟩ cc bg
 refine BC ?_ ha
 cases p with
 | zero=>exact Be c
 | succ p =>
  obtain ⟨cd,an⟩:∃ k,k=Eo h p:=⟨_,rfl⟩
  rw [Eo,← an] at c
  refine Am 1 J<|Ao fun _ bh=>A3 J c (fun _ c=>?_)<|fun _ c=>?_
  refine Au<|bh ?_
  refine Ao fun _ bi=>A0<|Al fun _ bj=>bB c fun bk bl c=>Co (e:=As) (i:=1) underlying36 J J J q J bl ?_
  rintro ce _ rfl bm cf
  refine BZ A9 J bm J<|An 1 J<|bj<|Aq<|wp 2 J<|bB c fun ao bn c=>A7 J call53 (Tb v n j o bk (q.sel [0] J).base0 _ bn) J ?_
  rintro _ bo ⟨ap,aq,rfl,bp,ar⟩
  refine ⟨_,rfl,?_⟩
  have bq:=q.takeB [0] J (M:=[Ab As o j n]) J aa bp ar
  have br:Sp g bo [Ab As aq ap ao,Ab As z u h]:=q.take [0] [1] J (M:=[Ab As o j n]) J ar aa.size
  refine An 1 J<|bi<|Aq<|An 2 J ?_
  rw [an] at c
  exact fun a ha=>bg a _ p (AB p) ⟨ao,Ah (w+1),ap,aq,ha.sb J,bq,br.sel [0,1] J,c⟩
  refine Bb<|a2 ?_
  refine Am 3 J<|Aw<|rt hQ J J<|by cases c; exact ⟨j,o,rfl,aa,q.sel [0] J⟩
theorem To(c:Af)(hT:Tab c)(x0:List Ag)(r:(List Int)×Bool)(b:II x0=some r) :
  A2 25 [.string (AL x0)] c fun e w'=>∃(q0:Ac)(G0:Ap),e=.returned (.tuple #[q0,.bool r.2])∧Bl c w'∧Sp c w' [Ab As G0 q0 r.1]:=by
 refine cm func25 ntmps25 J fun Q hQ hP p hS=>?_
 unfold II at b
 refine Am 2 J<|Ao fun K2 a8=>?_
 obtain ⟨a9,ba,b⟩:=Np b
 have ao:∀(d:List (List Ag))(y9:Bool)(f:Ac)(q:Ap)(v:Af)(_:a9 d y9=some r)(_:Bl c v)(_:Sp c v [Ab BK q f d]),∀ a,St 39 [(5,f),(6,.bool y9)] a→K2 a v:=by
  intro d y9 f q v b ap aq
  subst ba
  refine a8<|Ao fun _ bb=>Am 2 J<|A3 J b (fun _ b=>?_)<|fun _ b=>?_
  refine Am 2 J ?_
  refine Aw ?_
  have bc:=aq.push0 (r:=Ab As [] (.slice none 0 0) []) J fun _=>.inl ⟨rfl,rfl,rfl⟩
  refine rt hQ J J<|by cases b; exact ⟨.slice none 0 0,[],rfl,ap,bc.sel [0] J⟩
  refine Au<|bb ?_
  refine Al fun _ bd=>AZ (vs:=[]) (l:=[]) Cl underlying36 J J J J J J ap aq fun be bf cg _ bg ar=>An 1 J<|bd<|Ao fun _ bh=>Al fun _ bi=>wp 1 J<|BO (ar.own_ro (i:=1) J) underlying61 J<|An 1 J<|bi<|A0<|AN (fun m a ah=>∃(s:List Int)(g:Int)(n:Ac)(t:Ap),St 39 [(7,n),(19,f),(20,iv (List.length d:Int)),(21,iv g)] a∧Bl c ah∧Sp c ah [Ab As t n s,Ab BK q f d]∧DE d m s g=some r) FU ?_ ?_
  exact fun a ha=>⟨[],0,be,bf,ha.sb J,bg,ar.sel [0,1] J,b⟩
  rintro u a ah ⟨s,g,n,t,ha,ai,w,b⟩ ch bj
  refine BC ?_ ha
  cases u with
  | zero=>exact Be b
  | succ u =>
   obtain ⟨ci,au⟩:∃ k,k=DE d u:=⟨_,rfl⟩
   rw [DE,← au] at b
   refine Am 1 J<|Ao fun _ bk=>A3 J b (fun _ b=>?_)<|fun _ b=>?_
   refine Au<|bk ?_
   refine Ao fun bl bm=>?_
   obtain ⟨bn,bo,b⟩:=Cb b
   have av:∀(x:List Int)(y:Ac)(aj:Ap)(z:Af)(_:bn x=some r)(_:Bl c z)(_:Sp c z [Ab As aj y x,Ab BK q f d]),∀ a,St 39 [(7,y),(19,f),(20,iv (List.length d:Int)),(21,iv g)] a→bl a z:=by
    intro x y aj z b bp bq
    subst bo
    refine bm<|Aq<|An 2 J ?_
    rw [au] at b
    exact fun a ha=>bj a _ u (AB u) ⟨x,Ah (g+1),y,aj,ha.sb J,bp,bq.sel [0,1] J,b⟩
   refine A0<|Al fun _ br=>wp 1 J<|bB b fun aw bs b=>Co (e:=BK) (i:=1) underlying61 J J J w J bs ?_
   rintro cj _ rfl bt ck
   refine BZ MT J bt J<|An 2 J<|br<|Ao fun bu bv=>?_
   obtain ⟨bw,bx,b⟩:=Cb b
   have ax:∀(ak:Bool)(aa:Af)(_:bw ak=some r)(_:Bl c aa)(_:Sp c aa [Ab As t n s,Ab BK q f d]),∀ a,St 39 [(7,n),(8,iv g),(19,f),(20,iv (List.length d:Int)),(21,iv g),(31,.bool ak)] a→bu a aa:=by
    intro ak aa b ay az
    subst bx
    refine bv<|A3 J b (fun _ b=>?_)<|fun _ b=>?_
    refine Aq ?_
    refine wp 3 J<|AZ (vs:=[iv (Ah (g+1))]) (l:=[Ah (g+1)]) Cl underlying36 J J J J J J ay az fun cl cn bz _ b0 a0=>bB b fun b1 b2 b=>AE (i:=1) (S:=(·<bz.heap.size)) Cl underlying36 J J J b0 a0 J (a0.own_ro (i:=0) J) b2 fun b3 b4 co _ b5 b6=>An 1 J ?_
    exact jx (av b1 b3 b4 _ b b5 (b6.sel [1,2] J)) J
    refine Au ?_
    exact jx (av s n t _ b ay (az.sel [0,1] J)) J
   refine Aq<|wp 1 J<|AR J J J<|wp 1 J ?_
   rcases bE (aw==[110,111]) with h|h
   replace b:=Bw h b
   refine wo J h<|wo J h<|A8 J J h J<|Ai ?_
   exact jx (ax true _ b ai (w.sel [0,1] J)) J
   replace b:=BI h b
   refine wn J h<|wp 1 J<|wn J h<|AR J J J<|Ak J J h J<|Ai ?_
   exact jx (ax (aw==[119,104,97,116]) _ b ai (w.sel [0,1] J)) J
   refine Bb<|bh ?_
   refine Am 3 J<|Aw<|rt hQ J J<|by cases b; exact ⟨n,t,rfl,ai,w.sel [0] J⟩
 refine Aq<|wp 1 J<|bB b fun j b7 b=>A7 J call47 (I0 c (hT.st p) x0 _ b7) J ?_
 rintro _ a1 ⟨a2,a3,b8,ab,ac,rfl,a4,ad,ae⟩
 refine ⟨_,rfl,?_⟩
 rcases bE j.1.1 with o|o
 replace b:=Bw o b
 obtain rfl:a2=(.pointer (some ⟨a3,0,none⟩)):=a4.trans (by rw [o]; rfl)
 have b9:Sp c a1 [A6 AX 76 b8 a3 j.1.2,Ab BK ac ab j.2.1]:=by rw [o] at ae; exact ae
 have ca:=tm p ad
 have cb:=hS.join ad b9 p.size
 refine An 7 J ?_
 exact jx (ao (j.2.1) (j.2.2) ab ac _ b ca (cb.sel [1] J)) J
 replace b:=BI o b
 obtain rfl:a2=(.pointer none):=a4.trans (by rw [o]; rfl)
 have cc:Sp c a1 [Ab BK ac ab j.2.1]:=by rw [o] at ae; exact ae
 have cd:=tm p ad
 have ce:=hS.join ad cc p.size
 refine An 7 J ?_
 exact jx (ao (j.2.1) (j.2.2) ab ac _ b cd (ce.sel [0] J)) J
theorem TM(b:Af)(c:List Ag)(r:Akg×Bool)(a:Jh c=some r) :
  A2 19 [.string (AL c)] b fun e w'=>∃(d:Ac)(j:Ap),e=.returned (.tuple #[d,.bool r.2])∧Bl b w'∧Sp b w' [Ab BN j d r.1]:=by
 refine cm func19 ntmps19 J fun Q f u k l=>?_
 unfold Jh at a
 refine Am 2 J<|Al fun _ m=>wp 1 J<|bB a fun v n a=>Ds J call46 k l (Mn b c _ n) J fun w x y _ _ g h=>An 7 J<|m<|Ao fun _ o=>Am 2 J<|A3 J a (fun _ a=>?_)<|fun _ a=>?_
 refine Am 2 J ?_
 refine Aw ?_
 have p:=h.push0 (r:=Ab BN [] (.slice none 0 0) []) J fun _=>.inl ⟨rfl,rfl,rfl⟩
 refine rt f J J<|by cases a; exact ⟨.slice none 0 0,[],rfl,g,p.sel [0] J⟩
 refine Au<|o ?_
 refine Al fun _ q=>wp 1 J<|B4 J J<|Bp TD J ?_
 obtain ⟨z,aa,ab,ac,s,t,ad,ae,af,ag,ah,ai,aj,ak,i⟩:=G5 (h.sel [0] J)
 refine AU 0 Qi J i J J<|An 2 J<|q<|Aw<|rt f J J<|by cases a; exact ⟨s,t,rfl,g,i.sel [3] J⟩
theorem OV(b:Af)(x:Tab b)(i:List Ag)(r:Akg×Bool)(a:HQ i=some r) :
  A2 20 [.string (AL i)] b fun e w'=>∃(k:Ac)(y:Ap),e=.returned (.tuple #[k,.bool r.2])∧Bl b w'∧Sp b w' [Ab BN y k r.1]:=by
 refine cm func20 ntmps20 J fun Q j hP d l=>?_
 unfold HQ at a
 refine Am 2 J<|Al fun _ m=>wp 1 J<|bB a fun f z a=>A7 J call47 (I0 b (x.st d) i _ z) J ?_
 rintro _ n ⟨o,p,F6,q,s,rfl,t,g,h⟩
 refine ⟨_,rfl,?_⟩
 rcases bE f.1.1 with c|c
 replace a:=Bw c a
 obtain rfl:o=(.pointer (some ⟨p,0,none⟩)):=t.trans (by rw [c]; rfl)
 have ab:Sp b n [A6 AX 76 F6 p f.1.2,Ab BK s q f.2.1]:=by rw [c] at h; exact h
 have u:=tm d g
 have v:=l.join g ab d.size
 refine An 7 J<|m<|Ao fun _ ac=>Am 2 J<|A3 J a (fun _ a=>?_)<|fun _ a=>?_
 refine Am 2 J ?_
 refine Aw ?_
 have ad:=v.push0 (r:=Ab BN [] (.slice none 0 0) []) J fun _=>.inl ⟨rfl,rfl,rfl⟩
 refine rt j J J<|by cases a; exact ⟨.slice none 0 0,[],rfl,u,ad.sel [0] J⟩
 refine Au<|ac ?_
 refine Al fun _ ae=>wp 1 J<|B4 J J<|Bp T8 J ?_
 obtain ⟨an,ao,ap,aq,af,ag,ar,au,av,aw,w⟩:=HM (v.sel [0,1] J)
 refine AU 0 Qi J w J J<|An 2 J<|ae<|Aw<|rt j J J<|by cases a; exact ⟨af,ag,rfl,u,w.sel [3] J⟩
 replace a:=BI c a
 obtain rfl:o=(.pointer none):=t.trans (by rw [c]; rfl)
 have ah:Sp b n [Ab BK s q f.2.1]:=by rw [c] at h; exact h
 have ai:=tm d g
 have aj:=l.join g ah d.size
 refine An 7 J<|m<|Ao fun _ ak=>Am 2 J<|A3 J a (fun _ a=>?_)<|fun _ a=>?_
 refine Am 2 J ?_
 refine Aw ?_
 have al:=aj.push0 (r:=Ab BN [] (.slice none 0 0) []) J fun _=>.inl ⟨rfl,rfl,rfl⟩
 refine rt j J J<|by cases a; exact ⟨.slice none 0 0,[],rfl,ai,al.sel [0] J⟩
 refine Au<|ak ?_
 refine Al fun _ _=>wp 1 J ?_
 exact Be a
theorem RR(b:Af)(c:List Ag)(r:Akj×Bool)(a:HC c=some r) :
  A2 29 [.string (AL c)] b fun e w'=>∃(d:Ac)(j:Ap),e=.returned (.tuple #[d,.bool r.2])∧Bl b w'∧Sp b w' [Ab Cg j d r.1]:=by
 refine cm func29 ntmps29 J fun Q f u k l=>?_
 unfold HC at a
 refine Am 2 J<|Al fun _ m=>wp 1 J<|bB a fun v n a=>Ds J call46 k l (Mn b c _ n) J fun w x y _ _ g h=>An 7 J<|m<|Ao fun _ o=>Am 2 J<|A3 J a (fun _ a=>?_)<|fun _ a=>?_
 refine Am 2 J ?_
 refine Aw ?_
 have p:=h.push0 (r:=Ab Cg [] (.slice none 0 0) []) J fun _=>.inl ⟨rfl,rfl,rfl⟩
 refine rt f J J<|by cases a; exact ⟨.slice none 0 0,[],rfl,g,p.sel [0] J⟩
 refine Au<|o ?_
 refine Al fun _ q=>wp 1 J<|B4 J J<|Bp TC J ?_
 obtain ⟨z,aa,ab,ac,ad,ae,af,ag,s,t,ah,ai,aj,ak,i⟩:=G5 (h.sel [0] J)
 refine AU 0 Qh J i J J<|An 2 J<|q<|Aw<|rt f J J<|by cases a; exact ⟨s,t,rfl,g,i.sel [5] J⟩
theorem NK(b:Af)(x:Tab b)(i:List Ag)(r:Akj×Bool)(a:G9 i=some r) :
  A2 30 [.string (AL i)] b fun e w'=>∃(k:Ac)(y:Ap),e=.returned (.tuple #[k,.bool r.2])∧Bl b w'∧Sp b w' [Ab Cg y k r.1]:=by
 refine cm func30 ntmps30 J fun Q j hP d l=>?_
 unfold G9 at a
 refine Am 2 J<|Al fun _ m=>wp 1 J<|bB a fun f z a=>A7 J call47 (I0 b (x.st d) i _ z) J ?_
 rintro _ n ⟨o,p,F6,q,s,rfl,t,g,h⟩
 refine ⟨_,rfl,?_⟩
 rcases bE f.1.1 with c|c
 replace a:=Bw c a
 obtain rfl:o=(.pointer (some ⟨p,0,none⟩)):=t.trans (by rw [c]; rfl)
 have ab:Sp b n [A6 AX 76 F6 p f.1.2,Ab BK s q f.2.1]:=by rw [c] at h; exact h
 have u:=tm d g
 have v:=l.join g ab d.size
 refine An 7 J<|m<|Ao fun _ ac=>Am 2 J<|A3 J a (fun _ a=>?_)<|fun _ a=>?_
 refine Am 2 J ?_
 refine Aw ?_
 have ad:=v.push0 (r:=Ab Cg [] (.slice none 0 0) []) J fun _=>.inl ⟨rfl,rfl,rfl⟩
 refine rt j J J<|by cases a; exact ⟨.slice none 0 0,[],rfl,u,ad.sel [0] J⟩
 refine Au<|ac ?_
 refine Al fun _ ae=>wp 1 J<|B4 J J<|Bp T7 J ?_
 obtain ⟨an,ao,ap,aq,ar,au,av,aw,af,ag,w⟩:=HM (v.sel [0,1] J)
 refine AU 0 Qh J w J J<|An 2 J<|ae<|Aw<|rt j J J<|by cases a; exact ⟨af,ag,rfl,u,w.sel [5] J⟩
 replace a:=BI c a
 obtain rfl:o=(.pointer none):=t.trans (by rw [c]; rfl)
 have ah:Sp b n [Ab BK s q f.2.1]:=by rw [c] at h; exact h
 have ai:=tm d g
 have aj:=l.join g ah d.size
 refine An 7 J<|m<|Ao fun _ ak=>Am 2 J<|A3 J a (fun _ a=>?_)<|fun _ a=>?_
 refine Am 2 J ?_
 refine Aw ?_
 have al:=aj.push0 (r:=Ab Cg [] (.slice none 0 0) []) J fun _=>.inl ⟨rfl,rfl,rfl⟩
 refine rt j J J<|by cases a; exact ⟨.slice none 0 0,[],rfl,ai,al.sel [0] J⟩
 refine Au<|ak ?_
 refine Al fun _ _=>wp 1 J ?_
 exact Be a
theorem Ll(g:Af)(d:Akm)(j:Nat)(n:Ac)(t:rdS H2 (L1 (AP [Av j 91 [n,iv d.2.1,.int .u64 d.2.2]]) g) g n d.1)(ab:Sep 0 g [Av j 91 [n,iv d.2.1,.int .u64 d.2.2]])(r:Int×Akm)(f:Ec d=some r) :
  A2 68 [.pointer (some ⟨j,0,none⟩)] g fun e w'=>e=.returned (iv r.1)∧Below 0 (wE g) w'∧Sep 0 w' [A5 g (AP [Av j 91 [n,iv d.2.1,.int .u64 d.2.2]]),Av j 91 [n,iv r.2.2.1,.int .u64 r.2.2.2]]:=by
 refine Ek func68 J ntmps68 J J fun Q v c=>?_
 have hB:Bl (wE g) g:=Dp g
 have hS:Sp (wE g) g [A5 g (AP [Av j 91 [n,iv d.2.1,.int .u64 d.2.2]]),Av j 91 [n,iv d.2.1,.int .u64 d.2.2]]:=ab.rest
 unfold Ec at f
 refine Am 1 J<|Am 1 J<|Ao fun K3 af=>?_
 obtain ⟨k8,ah,f⟩:=Cb f
 have w:∀(u:Int)(p:Af)(_:k8 u=some r)(_:Bl (wE g) p)(_:Sp (wE g) p [A5 g (AP [Av j 91 [n,iv d.2.1,.int .u64 d.2.2]]),Av j 91 [n,iv d.2.1,.int .u64 d.2.2]]),∀ a,St 62 [(0,.pointer (some ⟨j,0,none⟩)),(3,iv u)] a→K3 a p:=by
  intro u p f ai x
  subst ah
  refine af<|Al fun _ aj=>wp 1 J<|B4 J J<|Bp Rk J<|AU 1 A9 J x J J<|wp 1 J<|B4 J J<|Bp Rk J<|GC 1 A9 J J ai x J J J fun a1 _ ak y=>Ai<|aj<|Al fun _ al=>wp 2 J<|B4 J J<|Bp Wv J<|AU 1 Aa0 J y J J<|wp 2 J<|DR underlying3 underlying89 J J<|wp 2 J<|B4 J J<|Bp Wv J<|GC 1 Aa0 J J ak y J J J fun a2 _ am an=>Ai<|al<|Ao fun _ ao=>Ao fun _ ap=>AQ B1 [] am an fun aq _ z o=>?_
  have k:=KeepX.refl aq []
  refine Ay 0 J c k<|Ad 1 J c k<|B0 J J<|Ad 2 J c k<|C7 Rk J<|Ad 3 J c k<|CN 1 A9 J o J (by simp)<|Ay 4 J c k<|Ad 5 J c k<|B0 J J<|Ad 6 J c k<|C7 Ww J<|Ad 7 J c k<|CN 1 Aa1 J o J (by simp)<|Ad 8 J c k<|LF (e:=H2) (l:=d.1) underlying46 J J t<|Ad 9 J c k<|Ahx J J J<|Bc<|ap<|A3 J f (fun _ f=>?_)<|fun _ f=>?_
  refine Am 2 J ?_
  refine Aw<|rt v J J<|by cases f; exact ⟨rfl,z,o.sel [0,1] J⟩
  refine Au<|ao ?_
  refine Al fun _ ar=>wp 1 J<|B4 J J<|Bp Wv J<|AU 1 Aa0 J o J J<|GB J J J J<|Je J J J<|DR underlying89 underlying3 J J<|An 1 J<|ar<|Aw<|rt v J J<|by cases f; exact ⟨rfl,z,o.sel [0,1] J⟩
 refine Ao fun _ au=>AQ B1 [] hB hS fun av _ aa q=>?_
 have m:=KeepX.refl av []
 refine Ay 0 J c m<|Ad 1 J c m<|B0 J J<|Ad 2 J c m<|C7 Rk J<|Ad 3 J c m<|CN 1 A9 J q J (by simp)<|Ay 4 J c m<|Ad 5 J c m<|B0 J J<|Ad 6 J c m<|C7 Ww J<|Ad 7 J c m<|CN 1 Aa1 J q J (by simp)<|Ad 8 J c m<|LF (e:=H2) (l:=d.1) underlying46 J J t<|Ad 9 J c m<|MB J J J<|Bc<|au<|A3 J f (fun _ f=>?_)<|fun _ f=>?_
 refine AQ B1 [] aa q fun aw _ ax s=>?_
 have h:=KeepX.refl aw []
 refine Ay 0 J c h<|Ad 1 J c h<|B0 J J<|Ad 2 J c h<|C7 Ww J<|Ad 3 J c h<|CN 1 Aa1 J s J (by simp)<|Ay 4 J c h<|Ad 5 J c h<|B0 J J<|Ad 6 J c h<|C7 Rk J<|Ad 7 J c h<|CN 1 A9 J s J (by simp)<|bB f fun ay az f=>Ad 8 J c h<|B7 (e:=H2) underlying46 J J J t az ?_
 rintro a3 _ rfl a0
 refine Ad 9 J c h<|BR Ajq J (a0.kxr (i:=0) s J (fun b h0=>(by simp))) J<|Ad 10 J c h<|P8 underlying5 underlying3 J J<|Ad 11 J c h<|AD J J<|Bc ?_
 exact jx (w (Ah ay) _ f ax (s.sel [0,1] J)) J
 refine Au ?_
 exact jx (w 0 _ f aa (q.sel [0,1] J)) J
theorem CD(d:Af)(b:Akm)(f:Nat)(g:Ac)(u:rdS H2 (L1 (AP [Av f 91 [g,iv b.2.1,.int .u64 b.2.2]]) d) d g b.1)(l:Int)(aa:Sep 0 d [Av f 91 [g,iv b.2.1,.int .u64 b.2.2]])(r:Int×Akm)(c:BM b l=some r) :
  A2 56 [.pointer (some ⟨f,0,none⟩),iv l] d fun e w'=>e=.returned (iv r.1)∧Below 0 (wE d) w'∧Sep 0 w' [A5 d (AP [Av f 91 [g,iv b.2.1,.int .u64 b.2.2]]),Av f 91 [g,iv r.2.2.1,.int .u64 r.2.2.2]]:=by
 refine Ek func56 J ntmps56 J J fun Q v hP=>?_
 have o:Bl (wE d) d:=Dp d
 have i:Sp (wE d) d [A5 d (AP [Av f 91 [g,iv b.2.1,.int .u64 b.2.2]]),Av f 91 [g,iv b.2.1,.int .u64 b.2.2]]:=aa.rest
 unfold BM at c
 refine Am 1 J<|Ao fun _ ab=>Am 2 J<|A3 J c (fun _ c=>?_)<|fun _ c=>?_
 refine Am 1 J ?_
 refine Aw<|rt v J J<|by cases c; exact ⟨rfl,o,i.sel [0,1] J⟩
 refine Au<|ab ?_
 refine Al fun _ ac=>wp 1 J<|bB c fun h ad c=>A7 J call68 (Ll d b f g (u.rsto (i.sel [0,1] J)) (i.sel [1] J).base0 _ ad) J ?_
 rintro _ w ⟨rfl,ae,x⟩
 refine ⟨_,rfl,?_⟩
 have p:=i.takeB [1] J (M:=[Av f 91 [g,iv b.2.1,.int .u64 b.2.2]]) J o ae x
 have j:Sp (wE d) w [Av f 91 [g,iv h.2.2.1,.int .u64 h.2.2.2],A5 d (AP [Av f 91 [g,iv b.2.1,.int .u64 b.2.2]])]:=i.take [1] [0] J (M:=[Av f 91 [g,iv b.2.1,.int .u64 b.2.2]]) J x o.size
 refine An 1 J<|ac<|Ao fun af ag=>?_
 obtain ⟨ah,ai,c⟩:=jE3 c
 have y:∀(q s t:Int)(m:Af)(_:ah q s t=some r)(_:Bl (wE d) m)(_:Sp (wE d) m [A5 d (AP [Av f 91 [g,iv b.2.1,.int .u64 b.2.2]]),Av f 91 [g,iv q,.int .u64 s]]),∀ a,St 20 [(1,iv l),(5,iv t)] a→af a m:=by
  intro q s t m c aj ak
  subst ai
  refine ag<|Al fun _ al=>wp 2 J ?_
  have n:l≠0:=fun n=>Be (Bw n c)
  replace c:=Md n c
  refine QR J J J n<|An 1 J<|al<|Aw<|rt v J J<|by cases c; exact ⟨rfl,aj,ak.sel [0,1] J⟩
 refine Am 2 J<|A3 J c (fun _ c=>?_)<|fun _ c=>?_
 refine Aq ?_
 refine wp 3 J<|bB c fun k am c=>A7 J call68 (Ll w (b.1,h.2.2.1,h.2.2.2) f g (u.rsto (j.sel [1,0] J)) (j.sel [0] J).base0 _ am) J ?_
 rintro _ an ⟨rfl,ao,z⟩
 refine ⟨_,rfl,?_⟩
 have ap:=j.takeB [0] J (M:=[Av f 91 [g,iv h.2.2.1,.int .u64 h.2.2.2]]) J p ao z
 have aq:Sp (wE d) an [Av f 91 [g,iv k.2.2.1,.int .u64 k.2.2.2],A5 d (AP [Av f 91 [g,iv b.2.1,.int .u64 b.2.2]])]:=j.take [0] [1] J (M:=[Av f 91 [g,iv h.2.2.1,.int .u64 h.2.2.2]]) J z p.size
 refine An 2 J ?_
 exact jx (y (k.2.2.1) (k.2.2.2) (Ah ((Ah (h.1*256))+k.1)) _ c ap (aq.sel [1,0] J)) J
 refine Au ?_
 exact jx (y (h.2.2.1) (h.2.2.2) (h.1) _ c p (j.sel [1,0] J)) J
theorem Lp(b:Af)(a:Akm)(c:Nat)(d:Ac)(l:rdS H2 (L1 (AP [Av c 91 [d,iv a.2.1,.int .u64 a.2.2]]) b) b d a.1)(h:Int)(m:Sep 0 b [Av c 91 [d,iv a.2.1,.int .u64 a.2.2]])(r:Bool×Akm)(f:Em a h=some r) :
  A2 55 [.pointer (some ⟨c,0,none⟩),iv h] b fun e w'=>e=.returned (.bool r.1)∧Below 0 (wE b) w'∧Sep 0 w' [A5 b (AP [Av c 91 [d,iv a.2.1,.int .u64 a.2.2]]),Av c 91 [d,iv r.2.2.1,.int .u64 r.2.2.2]]:=by
 refine Ek func55 J ntmps55 J J fun Q n v=>?_
 have i:Bl (wE b) b:=Dp b
 have g:Sp (wE b) b [A5 b (AP [Av c 91 [d,iv a.2.1,.int .u64 a.2.2]]),Av c 91 [d,iv a.2.1,.int .u64 a.2.2]]:=m.rest
 unfold Em at f
 refine Am 1 J<|Al fun _ o=>wp 2 J<|bB f fun j p f=>A7 J call56 (CD b a c d (l.rsto (g.sel [0,1] J)) h (g.sel [1] J).base0 _ p) J ?_
 rintro _ q ⟨rfl,s,k⟩
 refine ⟨_,rfl,?_⟩
 have t:=g.takeB [1] J (M:=[Av c 91 [d,iv a.2.1,.int .u64 a.2.2]]) J i s k
 have u:Sp (wE b) q [Av c 91 [d,iv j.2.2.1,.int .u64 j.2.2.2],A5 b (AP [Av c 91 [d,iv a.2.1,.int .u64 a.2.2]])]:=g.take [1] [0] J (M:=[Av c 91 [d,iv a.2.1,.int .u64 a.2.2]]) J k i.size
 refine An 2 J<|o<|Aw<|rt n J J<|by cases f; exact ⟨rfl,t,u.sel [1,0] J⟩
theorem KM(b:Af)(a:Akm)(c:Nat)(d:Ac)(p:rdS H2 (L1 (AP [Av c 91 [d,iv a.2.1,.int .u64 a.2.2]]) b) b d a.1)(h:List Int)(j:Ac)(k:rdS As (L1 (AP [Av c 91 [d,iv a.2.1,.int .u64 a.2.2]]) b) b j h)(q:Sep 0 b [Av c 91 [d,iv a.2.1,.int .u64 a.2.2]])(r:Int×Akm)(f:DQ a h=some r) :
  A2 70 [.pointer (some ⟨c,0,none⟩),j] b fun e w'=>e=.returned (iv r.1)∧Below 0 (wE b) w'∧Sep 0 w' [A5 b (AP [Av c 91 [d,iv a.2.1,.int .u64 a.2.2]]),Av c 91 [d,iv r.2.2.1,.int .u64 r.2.2.2]]:=by
 refine Ek func70 J ntmps70 J J fun Q s hP=>?_
 have l:Bl (wE b) b:=Dp b
 have g:Sp (wE b) b [A5 b (AP [Av c 91 [d,iv a.2.1,.int .u64 a.2.2]]),Av c 91 [d,iv a.2.1,.int .u64 a.2.2]]:=q.rest
 unfold DQ at f
 refine Am 1 J<|Al fun _ t=>wp 3 J<|BO k underlying36 J<|bB f fun m u f=>A7 J call56 (CD b a c d (p.rsto (g.sel [0,1] J)) (List.length h:Int) (g.sel [1] J).base0 _ u) J ?_
 rintro _ v ⟨rfl,w,n⟩
 refine ⟨_,rfl,?_⟩
 have x:=g.takeB [1] J (M:=[Av c 91 [d,iv a.2.1,.int .u64 a.2.2]]) J l w n
 have o:Sp (wE b) v [Av c 91 [d,iv m.2.2.1,.int .u64 m.2.2.2],A5 b (AP [Av c 91 [d,iv a.2.1,.int .u64 a.2.2]])]:=g.take [1] [0] J (M:=[Av c 91 [d,iv a.2.1,.int .u64 a.2.2]]) J n l.size
 refine bB f fun u9 y f=>BT (e:=As) underlying36 J J J k y ?_
 rintro ac _ rfl z
 refine BZ A9 J (z.rst (i:=1) o J) J<|An 1 J<|t<|Aw<|rt s J J<|by cases f; exact ⟨rfl,x,o.sel [1,0] J⟩
theorem Cw(b:Af)(a:Akm)(c:Nat)(d:Ac)(p:rdS H2 (L1 (AP [Av c 91 [d,iv a.2.1,.int .u64 a.2.2]]) b) b d a.1)(h:List (List Ag))(j:Ac)(k:rdS BK (L1 (AP [Av c 91 [d,iv a.2.1,.int .u64 a.2.2]]) b) b j h)(q:Sep 0 b [Av c 91 [d,iv a.2.1,.int .u64 a.2.2]])(r:(List Ag)×Akm)(f:BF a h=some r) :
  A2 71 [.pointer (some ⟨c,0,none⟩),j] b fun e w'=>e=.returned (.string (AL r.1))∧Below 0 (wE b) w'∧Sep 0 w' [A5 b (AP [Av c 91 [d,iv a.2.1,.int .u64 a.2.2]]),Av c 91 [d,iv r.2.2.1,.int .u64 r.2.2.2]]:=by
 refine Ek func71 J ntmps71 J J fun Q s hP=>?_
 have l:Bl (wE b) b:=Dp b
 have g:Sp (wE b) b [A5 b (AP [Av c 91 [d,iv a.2.1,.int .u64 a.2.2]]),Av c 91 [d,iv a.2.1,.int .u64 a.2.2]]:=q.rest
 unfold BF at f
 refine Am 1 J<|Al fun _ t=>wp 3 J<|BO k underlying61 J<|bB f fun m u f=>A7 J call56 (CD b a c d (p.rsto (g.sel [0,1] J)) (List.length h:Int) (g.sel [1] J).base0 _ u) J ?_
 rintro _ v ⟨rfl,w,n⟩
 refine ⟨_,rfl,?_⟩
 have x:=g.takeB [1] J (M:=[Av c 91 [d,iv a.2.1,.int .u64 a.2.2]]) J l w n
 have o:Sp (wE b) v [Av c 91 [d,iv m.2.2.1,.int .u64 m.2.2.2],A5 b (AP [Av c 91 [d,iv a.2.1,.int .u64 a.2.2]])]:=g.take [1] [0] J (M:=[Av c 91 [d,iv a.2.1,.int .u64 a.2.2]]) J n l.size
 refine bB f fun u9 y f=>BT (e:=BK) underlying61 J J J k y ?_
 rintro ac _ rfl z
 refine BZ MT J (z.rst (i:=1) o J) J<|An 1 J<|t<|Aw<|rt s J J<|by cases f; exact ⟨rfl,x,o.sel [1,0] J⟩
end Go.Proofs.YtellehgihceicaaGreatDoor
