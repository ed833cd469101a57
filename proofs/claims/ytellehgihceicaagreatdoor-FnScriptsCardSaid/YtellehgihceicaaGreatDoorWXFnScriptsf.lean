/-
  THE WALKS of functions of this seat, by program (gen.py, prune.py).
-/
import Derived.Test.YtellehgihceicaaGreatDoorWXFnScriptse
set_option linter.unusedVariables false
set_option linter.unusedSimpArgs false
set_option maxRecDepth 100000
set_option maxHeartbeats 1600000
namespace Go.Proofs.YtellehgihceicaaGreatDoor
open Go Go.RowKit Go.Proofs.Tryz
theorem Jq(h:Af)(g:Akm)(c:Nat)(d:Ac)(i:rdS H2 (L1 (AP [Av c 91 [d,iv g.2.1,.int .u64 g.2.2]]) h) h d g.1)(dd:Sep 0 h [Av c 91 [d,iv g.2.1,.int .u64 g.2.2]])(r:(List Ag)×Akm)(b:Do g=some r) :
  A2 57 [.pointer (some ⟨c,0,none⟩)] h fun e w'=>e=.returned (.string (AL r.1))∧Below 0 (wE h) w'∧Sep 0 w' [A5 h (AP [Av c 91 [d,iv g.2.1,.int .u64 g.2.2]]),Av c 91 [d,iv r.2.2.1,.int .u64 r.2.2.2]]:=by
 refine Ek func57 J ntmps57 J J fun Q j hP=>?_
 have hB:Bl (wE h) h:=Dp h
 have hS:Sp (wE h) h [A5 h (AP [Av c 91 [d,iv g.2.1,.int .u64 g.2.2]]),Av c 91 [d,iv g.2.1,.int .u64 g.2.2]]:=dd.rest
 unfold Do at b
 refine Am 1 J<|Al fun _ de=>wp 1 J<|bB b fun k df b=>A7 J call56 (CD h g c d (i.rsto (hS.sel [0,1] J)) 4 (hS.sel [1] J).base0 _ df) J ?_
 rintro _ w4 ⟨rfl,dg,bj⟩
 refine ⟨_,rfl,?_⟩
 have dh:=hS.takeB [1] J (M:=[Av c 91 [d,iv g.2.1,.int .u64 g.2.2]]) J hB dg bj
 have di:Sp (wE h) w4 [Av c 91 [d,iv k.2.2.1,.int .u64 k.2.2.2],A5 h (AP [Av c 91 [d,iv g.2.1,.int .u64 g.2.2]])]:=hS.take [1] [0] J (M:=[Av c 91 [d,iv g.2.1,.int .u64 g.2.2]]) J bj hB.size
 refine bB b fun v dj b=>Bn J call69 dh di (Fc w4 k.1 _ dj) J fun dk _ bk aq=>wp 1 J<|bB b fun m dl b=>A7 J call56 (CD dk (g.1,k.2.2.1,k.2.2.2) c d (i.rsto (aq.sel [1,0] J)) 4 (aq.sel [0] J).base0 _ dl) J ?_
 rintro _ bl ⟨rfl,dm,bm⟩
 refine ⟨_,rfl,?_⟩
 have dn:=aq.takeB [0] J (M:=[Av c 91 [d,iv k.2.2.1,.int .u64 k.2.2.2]]) J bk dm bm
 have dp:Sp (wE h) bl [Av c 91 [d,iv m.2.2.1,.int .u64 m.2.2.2],A5 h (AP [Av c 91 [d,iv g.2.1,.int .u64 g.2.2]])]:=aq.take [0] [1] J (M:=[Av c 91 [d,iv k.2.2.1,.int .u64 k.2.2.2]]) J bm bk.size
 refine bB b fun w dq b=>Bn J call69 dn dp (Fc bl m.1 _ dq) J fun im _ dr ds=>An 2 J<|de<|Al fun _ dt=>wp 1 J<|AZ (vs:=[iv 0,iv 8,iv 24,iv 32,iv 80,iv 1280,iv 1281]) (l:=[0,8,24,32,80,1280,1281]) Cl underlying36 J J J J J J dr ds fun ar a0 du _ bn x=>bB b fun n dv b=>A7 J call70 (KM du (g.1,m.2.2.1,m.2.2.2) c d (i.rsto (x.sel [2,1] J)) [0,8,24,32,80,1280,1281] ar (IK (x.sel [0,1] J)) (x.sel [1] J).base0 _ dv) J ?_
 rintro _ bo ⟨rfl,dw,bp⟩
 refine ⟨_,rfl,?_⟩
 have dx:=x.takeB [1] J (M:=[Av c 91 [d,iv m.2.2.1,.int .u64 m.2.2.2]]) J bn dw bp
 have dy:Sp (wE h) bo [Av c 91 [d,iv n.2.2.1,.int .u64 n.2.2.2],Ab As a0 ar [0,8,24,32,80,1280,1281],A5 h (AP [Av c 91 [d,iv g.2.1,.int .u64 g.2.2]])]:=x.take [1] [0,2] J (M:=[Av c 91 [d,iv m.2.2.1,.int .u64 m.2.2.2]]) J bp bn.size
 refine bB b fun bq dz b=>Bn J call69 dx dy (Fc bo n.1 _ dz) J fun io _ d0 d1=>wp 1 J<|AZ (vs:=[iv 0,iv 8,iv 16,iv 32,iv 672,iv 673]) (l:=[0,8,16,32,672,673]) Cl underlying36 J J J J J J d0 d1 fun a1 br d2 _ bs y=>bB b fun o d3 b=>A7 J call70 (KM d2 (g.1,n.2.2.1,n.2.2.2) c d (i.rsto (y.sel [3,1] J)) [0,8,16,32,672,673] a1 (IK (y.sel [0,1] J)) (y.sel [1] J).base0 _ d3) J ?_
 rintro _ bt ⟨rfl,d4,bu⟩
 refine ⟨_,rfl,?_⟩
 have d5:=y.takeB [1] J (M:=[Av c 91 [d,iv n.2.2.1,.int .u64 n.2.2.2]]) J bs d4 bu
 have d6:Sp (wE h) bt [Av c 91 [d,iv o.2.2.1,.int .u64 o.2.2.2],Ab As br a1 [0,8,16,32,672,673],Ab As a0 ar [0,8,24,32,80,1280,1281],A5 h (AP [Av c 91 [d,iv g.2.1,.int .u64 g.2.2]])]:=y.take [1] [0,2,3] J (M:=[Av c 91 [d,iv n.2.2.1,.int .u64 n.2.2.2]]) J bu bs.size
 refine bB b fun bv d7 b=>Bn J call69 d5 d6 (Fc bt o.1 _ d7) J fun d8 _ bw au=>An 2 J<|dt<|Ao fun _ d9=>Al fun _ ea=>wp 1 J<|bB b fun f eb b=>A7 J call56 (CD d8 (g.1,o.2.2.1,o.2.2.2) c d (i.rsto (au.sel [3,0] J)) 20 (au.sel [0] J).base0 _ eb) J ?_
 rintro _ ec ⟨rfl,ed,bx⟩
 refine ⟨_,rfl,?_⟩
 have a2:=au.takeB [0] J (M:=[Av c 91 [d,iv o.2.2.1,.int .u64 o.2.2.2]]) J bw ed bx
 have a3:Sp (wE h) ec [Av c 91 [d,iv f.2.2.1,.int .u64 f.2.2.2],Ab As br a1 [0,8,16,32,672,673],Ab As a0 ar [0,8,24,32,80,1280,1281],A5 h (AP [Av c 91 [d,iv g.2.1,.int .u64 g.2.2]])]:=au.take [0] [1,2,3] J (M:=[Av c 91 [d,iv o.2.2.1,.int .u64 o.2.2.2]]) J bx bw.size
 refine Ai<|ea<|A0<|Ao fun ee ef=>?_
 obtain ⟨eg,eh,b⟩:=Cb b
 have a4:∀(a5:Bool)(av:Af)(_:eg a5=some r)(_:Bl (wE h) av)(_:Sp (wE h) av [A5 h (AP [Av c 91 [d,iv g.2.1,.int .u64 g.2.2]]),Av c 91 [d,iv f.2.2.1,.int .u64 f.2.2.2]]),∀ a,St 139 [(0,.pointer (some ⟨c,0,none⟩)),(3,.string (AL v)),(4,.string (AL w)),(5,.string (AL bq)),(6,.string (AL bv)),(22,iv f.1),(23,.bool a5)] a→ee a av:=by
  intro a5 av b a6 a7
  subst eh
  refine ef<|A3 J b (fun _ b=>?_)<|fun _ b=>?_
  refine Al fun _ ei=>?_
  refine wp 1 J<|bB b fun ip ej b=>BA J J J ej<|bB b fun iq ek b=>BA J J J ek<|wp 1 J<|bB b fun ir el b=>BA J J J el<|An 1 J<|ei<|Aw<|rt j J J<|by cases b; exact ⟨rfl,a6,a7.sel [0,1] J⟩
  refine Ao fun em en=>?_
  obtain ⟨eo,ep,b⟩:=Cb b
  have bz:∀(a8:Bool)(aw:Af)(_:eo a8=some r)(_:Bl (wE h) aw)(_:Sp (wE h) aw [A5 h (AP [Av c 91 [d,iv g.2.1,.int .u64 g.2.2]]),Av c 91 [d,iv f.2.2.1,.int .u64 f.2.2.2]]),∀ a,St 139 [(0,.pointer (some ⟨c,0,none⟩)),(3,.string (AL v)),(4,.string (AL w)),(5,.string (AL bq)),(6,.string (AL bv)),(22,iv f.1),(32,.bool a8)] a→em a aw:=by
   intro a8 aw b z aa
   subst ep
   refine en<|A3 J b (fun _ b=>?_)<|fun _ b=>?_
   refine Al fun _ eq=>?_
   refine wp 1 J<|bB b fun it er b=>BA J J J er<|bB b fun iu es b=>BA J J J es<|wp 1 J<|bB b fun iw et b=>BA J J J et<|bB b fun ix eu b=>BA J J J eu<|wp 1 J<|bB b fun iy ev b=>BA J J J ev<|An 1 J<|eq<|Aw<|rt j J J<|by cases b; exact ⟨rfl,z,aa.sel [0,1] J⟩
   refine Am 2 J ?_
   refine A3 J b (fun _ b=>?_)<|fun _ b=>?_
   refine Al fun _ ew=>?_
   refine wp 1 J<|AZ (vs:=[.string (AL [109,105,114,114,111,114]),.string (AL [107,101,101,112]),.string (AL [107,101,101,112]),.string (AL [115,117,109]),.string (AL [108,101,97,115,116])]) (l:=[[109,105,114,114,111,114],[107,101,101,112],[107,101,101,112],[115,117,109],[108,101,97,115,116]]) Gl underlying61 J J J J J J z aa fun b1 ex ey _ b2 ab=>bB b fun b3 ez b=>A7 J call71 (Cw ey (g.1,f.2.2.1,f.2.2.2) c d (i.rsto (ab.sel [1,2] J)) [[109,105,114,114,111,114],[107,101,101,112],[107,101,101,112],[115,117,109],[108,101,97,115,116]] b1 (IK (ab.sel [0,2] J)) (ab.sel [2] J).base0 _ ez) J ?_
   rintro _ e0 ⟨rfl,e1,b4⟩
   refine ⟨_,rfl,?_⟩
   have e2:=ab.takeB [2] J (M:=[Av c 91 [d,iv f.2.2.1,.int .u64 f.2.2.2]]) J b2 e1 b4
   have e3:Sp (wE h) e0 [Av c 91 [d,iv b3.2.2.1,.int .u64 b3.2.2.2],Ab BK ex b1 [[109,105,114,114,111,114],[107,101,101,112],[107,101,101,112],[115,117,109],[108,101,97,115,116]],A5 h (AP [Av c 91 [d,iv g.2.1,.int .u64 g.2.2]])]:=ab.take [2] [0,1] J (M:=[Av c 91 [d,iv f.2.2.1,.int .u64 f.2.2.2]]) J b4 b2.size
   refine An 1 J<|ew<|Aw<|rt j J J<|by cases b; exact ⟨rfl,e2,e3.sel [2,0] J⟩
   refine Am 2 J ?_
   refine A3 J b (fun _ b=>?_)<|fun _ b=>?_
   refine Al fun _ e4=>?_
   refine wp 1 J<|AZ (vs:=[.string (AL [49]),.string (AL [52]),.string (AL [56]),.string (AL [49,54]),.string (AL [49,55]),.string (AL [54,52]),.string (AL [54,53])]) (l:=[[49],[52],[56],[49,54],[49,55],[54,52],[54,53]]) Gl underlying61 J J J J J J z aa fun b5 e5 e6 _ b6 ac=>bB b fun b7 e7 b=>A7 J call71 (Cw e6 (g.1,f.2.2.1,f.2.2.2) c d (i.rsto (ac.sel [1,2] J)) [[49],[52],[56],[49,54],[49,55],[54,52],[54,53]] b5 (IK (ac.sel [0,2] J)) (ac.sel [2] J).base0 _ e7) J ?_
   rintro _ e8 ⟨rfl,e9,b8⟩
   refine ⟨_,rfl,?_⟩
   have fa:=ac.takeB [2] J (M:=[Av c 91 [d,iv f.2.2.1,.int .u64 f.2.2.2]]) J b6 e9 b8
   have fb:Sp (wE h) e8 [Av c 91 [d,iv b7.2.2.1,.int .u64 b7.2.2.2],Ab BK e5 b5 [[49],[52],[56],[49,54],[49,55],[54,52],[54,53]],A5 h (AP [Av c 91 [d,iv g.2.1,.int .u64 g.2.2]])]:=ac.take [2] [0,1] J (M:=[Av c 91 [d,iv f.2.2.1,.int .u64 f.2.2.2]]) J b8 b6.size
   refine bB b fun iz fc b=>BA J J J fc<|An 1 J<|e4<|Aw<|rt j J J<|by cases b; exact ⟨rfl,fa,fb.sel [2,0] J⟩
   refine Ao fun fd fe=>?_
   obtain ⟨ff,fg,b⟩:=Cb b
   have b9:∀(a9:Bool)(ax:Af)(_:ff a9=some r)(_:Bl (wE h) ax)(_:Sp (wE h) ax [A5 h (AP [Av c 91 [d,iv g.2.1,.int .u64 g.2.2]]),Av c 91 [d,iv f.2.2.1,.int .u64 f.2.2.2]]),∀ a,St 139 [(0,.pointer (some ⟨c,0,none⟩)),(3,.string (AL v)),(4,.string (AL w)),(22,iv f.1),(54,.bool a9)] a→fd a ax:=by
    intro a9 ax b ad ae
    subst fg
    refine fe<|A3 J b (fun _ b=>?_)<|fun _ b=>?_
    refine Al fun _ fh=>?_
    refine wp 1 J<|AZ (vs:=[.string (AL [99,108,111,115,101,32]),.string (AL [107,105,110,100,32])]) (l:=[[99,108,111,115,101,32],[107,105,110,100,32]]) Gl underlying61 J J J J J J ad ae fun ba ca fi _ cb af=>bB b fun p fj b=>A7 J call71 (Cw fi (g.1,f.2.2.1,f.2.2.2) c d (i.rsto (af.sel [1,2] J)) [[99,108,111,115,101,32],[107,105,110,100,32]] ba (IK (af.sel [0,2] J)) (af.sel [2] J).base0 _ fj) J ?_
    rintro _ fk ⟨rfl,fl,cc⟩
    refine ⟨_,rfl,?_⟩
    have fm:=af.takeB [2] J (M:=[Av c 91 [d,iv f.2.2.1,.int .u64 f.2.2.2]]) J cb fl cc
    have fn:Sp (wE h) fk [Av c 91 [d,iv p.2.2.1,.int .u64 p.2.2.2],Ab BK ca ba [[99,108,111,115,101,32],[107,105,110,100,32]],A5 h (AP [Av c 91 [d,iv g.2.1,.int .u64 g.2.2]])]:=af.take [2] [0,1] J (M:=[Av c 91 [d,iv f.2.2.1,.int .u64 f.2.2.2]]) J cc cb.size
    refine wp 1 J<|AZ (vs:=[.string (AL [48]),.string (AL [56]),.string (AL [49,54]),.string (AL [56,48]),.string (AL [56,49])]) (l:=[[48],[56],[49,54],[56,48],[56,49]]) Gl underlying61 J J J J J J fm fn fun cd fo fp _ ce ag=>bB b fun cf fq b=>A7 J call71 (Cw fp (g.1,p.2.2.1,p.2.2.2) c d (i.rsto (ag.sel [3,1] J)) [[48],[56],[49,54],[56,48],[56,49]] cd (IK (ag.sel [0,1] J)) (ag.sel [1] J).base0 _ fq) J ?_
    rintro _ fr ⟨rfl,fs,cg⟩
    refine ⟨_,rfl,?_⟩
    have ft:=ag.takeB [1] J (M:=[Av c 91 [d,iv p.2.2.1,.int .u64 p.2.2.2]]) J ce fs cg
    have fu:Sp (wE h) fr [Av c 91 [d,iv cf.2.2.1,.int .u64 cf.2.2.2],Ab BK fo cd [[48],[56],[49,54],[56,48],[56,49]],Ab BK ca ba [[99,108,111,115,101,32],[107,105,110,100,32]],A5 h (AP [Av c 91 [d,iv g.2.1,.int .u64 g.2.2]])]:=ag.take [1] [0,2,3] J (M:=[Av c 91 [d,iv p.2.2.1,.int .u64 p.2.2.2]]) J cg ce.size
    refine bB b fun i0 fv b=>BA J J J fv<|An 1 J<|fh<|Aw<|rt j J J<|by cases b; exact ⟨rfl,ft,fu.sel [3,0] J⟩
    refine Am 2 J ?_
    refine A3 J b (fun _ b=>?_)<|fun _ b=>?_
    refine Al fun _ fw=>?_
    refine wp 1 J<|bB b fun i1 fx b=>BA J J J fx<|An 1 J<|fw<|Aw<|rt j J J<|by cases b; exact ⟨rfl,ad,ae.sel [0,1] J⟩
    refine Am 2 J ?_
    refine A3 J b (fun _ b=>?_)<|fun _ b=>?_
    refine Al fun _ fy=>?_
    refine wp 1 J<|bB b fun i2 fz b=>BA J J J fz<|bB b fun i3 f0 b=>BA J J J f0<|wp 1 J<|bB b fun i4 f1 b=>BA J J J f1<|An 1 J<|fy<|Aw<|rt j J J<|by cases b; exact ⟨rfl,ad,ae.sel [0,1] J⟩
    refine Ao fun f2 f3=>?_
    obtain ⟨f4,f5,b⟩:=Cb b
    have ch:∀(bb:Bool)(ay:Af)(_:f4 bb=some r)(_:Bl (wE h) ay)(_:Sp (wE h) ay [A5 h (AP [Av c 91 [d,iv g.2.1,.int .u64 g.2.2]]),Av c 91 [d,iv f.2.2.1,.int .u64 f.2.2.2]]),∀ a,St 139 [(0,.pointer (some ⟨c,0,none⟩)),(3,.string (AL v)),(4,.string (AL w)),(22,iv f.1),(75,.bool bb)] a→f2 a ay:=by
     intro bb ay b t u
     subst f5
     refine f3<|A3 J b (fun _ b=>?_)<|fun _ b=>?_
     refine Al fun _ f6=>?_
     refine wp 1 J<|AZ (vs:=[.string (AL [52]),.string (AL [51]),.string (AL [49,50]),.string (AL [49,51])]) (l:=[[52],[51],[49,50],[49,51]]) Gl underlying61 J J J J J J t u fun bc ci f7 _ cj ah=>bB b fun q f8 b=>A7 J call71 (Cw f7 (g.1,f.2.2.1,f.2.2.2) c d (i.rsto (ah.sel [1,2] J)) [[52],[51],[49,50],[49,51]] bc (IK (ah.sel [0,2] J)) (ah.sel [2] J).base0 _ f8) J ?_
     rintro _ f9 ⟨rfl,ga,ck⟩
     refine ⟨_,rfl,?_⟩
     have gb:=ah.takeB [2] J (M:=[Av c 91 [d,iv f.2.2.1,.int .u64 f.2.2.2]]) J cj ga ck
     have gc:Sp (wE h) f9 [Av c 91 [d,iv q.2.2.1,.int .u64 q.2.2.2],Ab BK ci bc [[52],[51],[49,50],[49,51]],A5 h (AP [Av c 91 [d,iv g.2.1,.int .u64 g.2.2]])]:=ah.take [2] [0,1] J (M:=[Av c 91 [d,iv f.2.2.1,.int .u64 f.2.2.2]]) J ck cj.size
     refine bB b fun i5 gd b=>BA J J J gd<|bB b fun i6 ge b=>BA J J J ge<|wp 1 J<|AZ (vs:=[.string (AL [54,48]),.string (AL [49,50,48]),.string (AL [50,50,49])]) (l:=[[54,48],[49,50,48],[50,50,49]]) Gl underlying61 J J J J J J gb gc fun cl gf gg _ cm ai=>bB b fun cn gh b=>A7 J call71 (Cw gg (g.1,q.2.2.1,q.2.2.2) c d (i.rsto (ai.sel [3,1] J)) [[54,48],[49,50,48],[50,50,49]] cl (IK (ai.sel [0,1] J)) (ai.sel [1] J).base0 _ gh) J ?_
     rintro _ gi ⟨rfl,gj,co⟩
     refine ⟨_,rfl,?_⟩
     have gk:=ai.takeB [1] J (M:=[Av c 91 [d,iv q.2.2.1,.int .u64 q.2.2.2]]) J cm gj co
     have gl:Sp (wE h) gi [Av c 91 [d,iv cn.2.2.1,.int .u64 cn.2.2.2],Ab BK gf cl [[54,48],[49,50,48],[50,50,49]],Ab BK ci bc [[52],[51],[49,50],[49,51]],A5 h (AP [Av c 91 [d,iv g.2.1,.int .u64 g.2.2]])]:=ai.take [1] [0,2,3] J (M:=[Av c 91 [d,iv q.2.2.1,.int .u64 q.2.2.2]]) J co cm.size
     refine bB b fun i7 gm b=>BA J J J gm<|An 1 J<|f6<|Aw<|rt j J J<|by cases b; exact ⟨rfl,gk,gl.sel [3,0] J⟩
     refine Am 2 J ?_
     refine A3 J b (fun _ b=>?_)<|fun _ b=>?_
     refine Al fun _ gn=>?_
     refine wp 1 J<|AZ (vs:=[.string (AL [48]),.string (AL [52]),.string (AL [53]),.string (AL [56]),.string (AL [57,57])]) (l:=[[48],[52],[53],[56],[57,57]]) Gl underlying61 J J J J J J t u fun cp go gp _ cq aj=>bB b fun cr gq b=>A7 J call71 (Cw gp (g.1,f.2.2.1,f.2.2.2) c d (i.rsto (aj.sel [1,2] J)) [[48],[52],[53],[56],[57,57]] cp (IK (aj.sel [0,2] J)) (aj.sel [2] J).base0 _ gq) J ?_
     rintro _ gr ⟨rfl,gs,cs⟩
     refine ⟨_,rfl,?_⟩
     have gt:=aj.takeB [2] J (M:=[Av c 91 [d,iv f.2.2.1,.int .u64 f.2.2.2]]) J cq gs cs
     have gu:Sp (wE h) gr [Av c 91 [d,iv cr.2.2.1,.int .u64 cr.2.2.2],Ab BK go cp [[48],[52],[53],[56],[57,57]],A5 h (AP [Av c 91 [d,iv g.2.1,.int .u64 g.2.2]])]:=aj.take [2] [0,1] J (M:=[Av c 91 [d,iv f.2.2.1,.int .u64 f.2.2.2]]) J cs cq.size
     refine bB b fun i8 gv b=>BA J J J gv<|An 1 J<|gn<|Aw<|rt j J J<|by cases b; exact ⟨rfl,gt,gu.sel [2,0] J⟩
     refine Am 2 J ?_
     refine A3 J b (fun _ b=>?_)<|fun _ b=>?_
     refine Al fun _ gw=>?_
     refine wp 1 J<|bB b fun i9 gx b=>BA J J J gx<|bB b fun ja gy b=>BA J J J gy<|wp 1 J<|bB b fun jb gz b=>BA J J J gz<|bB b fun jc g0 b=>BA J J J g0<|wp 1 J<|AZ (vs:=[.string (AL [48]),.string (AL [52]),.string (AL [56])]) (l:=[[48],[52],[56]]) Gl underlying61 J J J J J J t u fun bd ct g1 _ cu ak=>bB b fun s g2 b=>A7 J call71 (Cw g1 (g.1,f.2.2.1,f.2.2.2) c d (i.rsto (ak.sel [1,2] J)) [[48],[52],[56]] bd (IK (ak.sel [0,2] J)) (ak.sel [2] J).base0 _ g2) J ?_
     rintro _ g3 ⟨rfl,g4,cv⟩
     refine ⟨_,rfl,?_⟩
     have g5:=ak.takeB [2] J (M:=[Av c 91 [d,iv f.2.2.1,.int .u64 f.2.2.2]]) J cu g4 cv
     have g6:Sp (wE h) g3 [Av c 91 [d,iv s.2.2.1,.int .u64 s.2.2.2],Ab BK ct bd [[48],[52],[56]],A5 h (AP [Av c 91 [d,iv g.2.1,.int .u64 g.2.2]])]:=ak.take [2] [0,1] J (M:=[Av c 91 [d,iv f.2.2.1,.int .u64 f.2.2.2]]) J cv cu.size
     refine bB b fun jd g7 b=>BA J J J g7<|bB b fun je g8 b=>BA J J J g8<|wp 1 J<|AZ (vs:=[.string (AL [54]),.string (AL [49,50]),.string (AL [49,48,48,49])]) (l:=[[54],[49,50],[49,48,48,49]]) Gl underlying61 J J J J J J g5 g6 fun cw g9 ha _ cx al=>bB b fun cy hb b=>A7 J call71 (Cw ha (g.1,s.2.2.1,s.2.2.2) c d (i.rsto (al.sel [3,1] J)) [[54],[49,50],[49,48,48,49]] cw (IK (al.sel [0,1] J)) (al.sel [1] J).base0 _ hb) J ?_
     rintro _ hc ⟨rfl,hd,cz⟩
     refine ⟨_,rfl,?_⟩
     have he:=al.takeB [1] J (M:=[Av c 91 [d,iv s.2.2.1,.int .u64 s.2.2.2]]) J cx hd cz
     have hf:Sp (wE h) hc [Av c 91 [d,iv cy.2.2.1,.int .u64 cy.2.2.2],Ab BK g9 cw [[54],[49,50],[49,48,48,49]],Ab BK ct bd [[48],[52],[56]],A5 h (AP [Av c 91 [d,iv g.2.1,.int .u64 g.2.2]])]:=al.take [1] [0,2,3] J (M:=[Av c 91 [d,iv s.2.2.1,.int .u64 s.2.2.2]]) J cz cx.size
     refine bB b fun jf hg b=>BA J J J hg<|An 1 J<|gw<|Aw<|rt j J J<|by cases b; exact ⟨rfl,he,hf.sel [3,0] J⟩
     refine Am 2 J ?_
     refine A3 J b (fun _ b=>?_)<|fun _ b=>?_
     refine Al fun _ hh=>?_
     refine wp 1 J<|bB b fun jg hi b=>BA J J J hi<|bB b fun jh hj b=>BA J J J hj<|wp 1 J<|AZ (vs:=[.string (AL [48]),.string (AL [53]),.string (AL [57]),.string (AL [49,48,48,48])]) (l:=[[48],[53],[57],[49,48,48,48]]) Gl underlying61 J J J J J J t u fun c0 hk hl _ c1 am=>bB b fun c2 hm b=>A7 J call71 (Cw hl (g.1,f.2.2.1,f.2.2.2) c d (i.rsto (am.sel [1,2] J)) [[48],[53],[57],[49,48,48,48]] c0 (IK (am.sel [0,2] J)) (am.sel [2] J).base0 _ hm) J ?_
     rintro _ hn ⟨rfl,ho,c3⟩
     refine ⟨_,rfl,?_⟩
     have hp:=am.takeB [2] J (M:=[Av c 91 [d,iv f.2.2.1,.int .u64 f.2.2.2]]) J c1 ho c3
     have hq:Sp (wE h) hn [Av c 91 [d,iv c2.2.2.1,.int .u64 c2.2.2.2],Ab BK hk c0 [[48],[53],[57],[49,48,48,48]],A5 h (AP [Av c 91 [d,iv g.2.1,.int .u64 g.2.2]])]:=am.take [2] [0,1] J (M:=[Av c 91 [d,iv f.2.2.1,.int .u64 f.2.2.2]]) J c3 c1.size
     refine bB b fun ji hr b=>BA J J J hr<|An 1 J<|hh<|Aw<|rt j J J<|by cases b; exact ⟨rfl,hp,hq.sel [2,0] J⟩
     refine Ao fun hs ht=>?_
     obtain ⟨hu,hv,b⟩:=Cb b
     have c4:∀(be:Bool)(az:Af)(_:hu be=some r)(_:Bl (wE h) az)(_:Sp (wE h) az [A5 h (AP [Av c 91 [d,iv g.2.1,.int .u64 g.2.2]]),Av c 91 [d,iv f.2.2.1,.int .u64 f.2.2.2]]),∀ a,St 139 [(0,.pointer (some ⟨c,0,none⟩)),(3,.string (AL v)),(4,.string (AL w)),(22,iv f.1),(119,.bool be)] a→hs a az:=by
      intro be az b bf bg
      subst hv
      refine ht<|A3 J b (fun _ b=>?_)<|fun _ b=>?_
      refine Al fun _ hw=>?_
      refine wp 1 J<|bB b fun jj hx b=>BA J J J hx<|bB b fun jk hy b=>BA J J J hy<|wp 1 J<|bB b fun jl hz b=>BA J J J hz<|bB b fun jm h0 b=>BA J J J h0<|wp 1 J<|AZ (vs:=[.string (AL [48]),.string (AL [55]),.string (AL [57,57,57]),.string (AL [49,48,48,48])]) (l:=[[48],[55],[57,57,57],[49,48,48,48]]) Gl underlying61 J J J J J J bf bg fun c5 h1 h2 _ c6 an=>bB b fun c7 h3 b=>A7 J call71 (Cw h2 (g.1,f.2.2.1,f.2.2.2) c d (i.rsto (an.sel [1,2] J)) [[48],[55],[57,57,57],[49,48,48,48]] c5 (IK (an.sel [0,2] J)) (an.sel [2] J).base0 _ h3) J ?_
      rintro _ h4 ⟨rfl,h5,c8⟩
      refine ⟨_,rfl,?_⟩
      have h6:=an.takeB [2] J (M:=[Av c 91 [d,iv f.2.2.1,.int .u64 f.2.2.2]]) J c6 h5 c8
      have h7:Sp (wE h) h4 [Av c 91 [d,iv c7.2.2.1,.int .u64 c7.2.2.2],Ab BK h1 c5 [[48],[55],[57,57,57],[49,48,48,48]],A5 h (AP [Av c 91 [d,iv g.2.1,.int .u64 g.2.2]])]:=an.take [2] [0,1] J (M:=[Av c 91 [d,iv f.2.2.1,.int .u64 f.2.2.2]]) J c8 c6.size
      refine bB b fun jn h8 b=>BA J J J h8<|An 1 J<|hw<|Aw<|rt j J J<|by cases b; exact ⟨rfl,h6,h7.sel [2,0] J⟩
      refine Am 2 J ?_
      refine A3 J b (fun _ b=>?_)<|fun _ b=>?_
      refine Al fun _ h9=>?_
      refine wp 1 J<|bB b fun jo ia b=>BA J J J ia<|An 1 J<|h9<|Aw<|rt j J J<|by cases b; exact ⟨rfl,bf,bg.sel [0,1] J⟩
      refine Au<|d9 ?_
      refine Al fun _ ib=>wp 1 J<|AZ (vs:=[.string (AL [102,108,121]),.string (AL []),.string (AL [115,112,111,116,32,49]),.string (AL [115,112,111,116,32,120,32,49]),.string (AL [112,108,97,99,101,32,48,32,49]),.string (AL [109,105,114,114,111,114,32,49]),.string (AL [116,105,109,101,32,48,49]),.string (AL [116,105,109,101,32,49,48,48,48,48,48]),.string (AL [118,101,114,115,105,111,110,32,45,32,49,32,49]),.string (AL [119,104,111,32,49])]) (l:=[[102,108,121],[],[115,112,111,116,32,49],[115,112,111,116,32,120,32,49],[112,108,97,99,101,32,48,32,49],[109,105,114,114,111,114,32,49],[116,105,109,101,32,48,49],[116,105,109,101,32,49,48,48,48,48,48],[118,101,114,115,105,111,110,32,45,32,49,32,49],[119,104,111,32,49]]) Gl underlying61 J J J J J J bf bg fun c9 ic ie _ da ao=>bB b fun db ig b=>A7 J call71 (Cw ie (g.1,f.2.2.1,f.2.2.2) c d (i.rsto (ao.sel [1,2] J)) [[102,108,121],[],[115,112,111,116,32,49],[115,112,111,116,32,120,32,49],[112,108,97,99,101,32,48,32,49],[109,105,114,114,111,114,32,49],[116,105,109,101,32,48,49],[116,105,109,101,32,49,48,48,48,48,48],[118,101,114,115,105,111,110,32,45,32,49,32,49],[119,104,111,32,49]] c9 (IK (ao.sel [0,2] J)) (ao.sel [2] J).base0 _ ig) J ?_
      rintro _ ih ⟨rfl,ii,dc⟩
      refine ⟨_,rfl,?_⟩
      have ij:=ao.takeB [2] J (M:=[Av c 91 [d,iv f.2.2.1,.int .u64 f.2.2.2]]) J da ii dc
      have ik:Sp (wE h) ih [Av c 91 [d,iv db.2.2.1,.int .u64 db.2.2.2],Ab BK ic c9 [[102,108,121],[],[115,112,111,116,32,49],[115,112,111,116,32,120,32,49],[112,108,97,99,101,32,48,32,49],[109,105,114,114,111,114,32,49],[116,105,109,101,32,48,49],[116,105,109,101,32,49,48,48,48,48,48],[118,101,114,115,105,111,110,32,45,32,49,32,49],[119,104,111,32,49]],A5 h (AP [Av c 91 [d,iv g.2.1,.int .u64 g.2.2]])]:=ao.take [2] [0,1] J (M:=[Av c 91 [d,iv f.2.2.1,.int .u64 f.2.2.2]]) J dc da.size
      refine An 1 J<|ib<|Aw<|rt j J J<|by cases b; exact ⟨rfl,ij,ik.sel [2,0] J⟩
     refine Am 2 J<|A3 J b (fun _ b=>?_)<|fun _ b=>?_
     refine Au ?_
     exact jx (c4 (f.1==16) _ b t (u.sel [0,1] J)) J
     refine Aq ?_
     refine An 2 J ?_
     exact jx (c4 (f.1==17) _ b t (u.sel [0,1] J)) J
    refine Am 2 J<|A3 J b (fun _ b=>?_)<|fun _ b=>?_
    refine Au ?_
    exact jx (ch (f.1==11) _ b ad (ae.sel [0,1] J)) J
    refine Aq ?_
    refine An 2 J ?_
    exact jx (ch (f.1==12) _ b ad (ae.sel [0,1] J)) J
   refine Am 2 J<|A3 J b (fun _ b=>?_)<|fun _ b=>?_
   refine Au ?_
   exact jx (b9 (f.1==7) _ b z (aa.sel [0,1] J)) J
   refine Aq ?_
   refine An 2 J ?_
   exact jx (b9 (f.1==8) _ b z (aa.sel [0,1] J)) J
  refine Am 2 J<|A3 J b (fun _ b=>?_)<|fun _ b=>?_
  refine Au ?_
  exact jx (bz (f.1==3) _ b a6 (a7.sel [0,1] J)) J
  refine Aq ?_
  refine An 2 J ?_
  exact jx (bz (f.1==4) _ b a6 (a7.sel [0,1] J)) J
 refine Am 2 J<|A3 J b (fun _ b=>?_)<|fun _ b=>?_
 refine Au ?_
 exact jx (a4 (f.1==0) _ b a2 (a3.sel [3,0] J)) J
 refine Am 2 J ?_
 refine A3 J b (fun _ b=>?_)<|fun _ b=>?_
 refine Au ?_
 exact jx (a4 (f.1==1) _ b a2 (a3.sel [3,0] J)) J
 refine Aq ?_
 refine An 2 J ?_
 exact jx (a4 (f.1==2) _ b a2 (a3.sel [3,0] J)) J
theorem NT(f:Af)(h:List Int)(c:Ac)(p:RO H2 f c h)(r:List Ag)(b:Ga h=some r) :
  A2 34 [c] f fun e w'=>e=.returned (.string (AL r))∧Bl f w':=by
 refine cm func34 ntmps34 J fun Q hQ hP hB hS=>?_
 unfold Ga at b
 refine Am 1 J<|Al fun _ bg=>wp 1 J<|DS (zs:=[.slice none 0 0,iv 0,.int .u64 0]) (out:=[c,iv 0,.int .u64 0]) (vs:=[c]) (css:=[[c]]) Af2 Af8 J J (by simp only [List.map_cons,List.map_nil,Ch ((p.ro hB).one)] <;> rfl) J J<|CV J hB hS fun d w4 _ an ad=>An 1 J<|bg<|Am 1 J<|Ao fun K9 bj=>?_
 obtain ⟨bk,bl,b⟩:=jE3 b
 have az:∀(q s:Int)(ae:List Ag)(v:Af)(_:bk q s ae=some r)(_:Bl f v)(_:Sp f v [Av d 91 [c,iv q,.int .u64 s]]),∀ a,St 61 [(3,.pointer (some ⟨d,0,none⟩)),(4,.string (AL ae))] a→K9 a v:=by
  intro q s ae v b ao af
  subst bl
  refine bj<|Ao fun _ bm=>Al fun _ bn=>wp 1 J<|bB b fun w bo b=>A7 J call56 (CD v (h,q,s) d c (p.oldo ao (af.sel [0] J)) 18 (af.sel [0] J).base0 _ bo) J ?_
  rintro _ bp ⟨rfl,bq,a0⟩
  refine ⟨_,rfl,?_⟩
  have br:=af.takeB [0] J (M:=[Av d 91 [c,iv q,.int .u64 s]]) J ao bq a0
  have bs:Sp f bp [Av d 91 [c,iv w.2.2.1,.int .u64 w.2.2.2]]:=af.take [0] [] J (M:=[Av d 91 [c,iv q,.int .u64 s]]) J a0 ao.size
  refine An 1 J<|bn<|A0<|AN (fun m a x=>∃(i j:Int)(ag:List Ag)(ah:Int),St 61 [(3,.pointer (some ⟨d,0,none⟩)),(4,.string (AL ag)),(5,iv ah)] a∧Bl f x∧Sp f x [Av d 91 [c,iv i,.int .u64 j]]∧D2 h m i j ag ah=some r) FU ?_ ?_
  exact fun a ha=>⟨w.2.2.1,w.2.2.2,ae,w.1,ha.sb J,br,bs.sel [0] J,b⟩
  rintro y a x ⟨i,j,ag,ah,ha,t,o,b⟩ da bt
  refine BC ?_ ha
  cases y with
  | zero=>exact Be b
  | succ y =>
   obtain ⟨db,a1⟩:∃ k,k=D2 h y:=⟨_,rfl⟩
   rw [D2,← a1] at b
   refine Ao fun _ bu=>Am 2 J<|A3 J b (fun _ b=>?_)<|fun _ b=>?_
   refine Au<|bu ?_
   refine Ao fun _ bv=>A0<|Aq<|wp 2 J<|bB b fun ai bw b=>A7 J call57 (Jq x (h,i,j) d c (p.oldo t (o.sel [0] J)) (o.sel [0] J).base0 _ bw) J ?_
   rintro _ bx ⟨rfl,bz,a2⟩
   refine ⟨_,rfl,?_⟩
   have b0:=o.takeB [0] J (M:=[Av d 91 [c,iv i,.int .u64 j]]) J t bz a2
   have b1:Sp f bx [Av d 91 [c,iv ai.2.2.1,.int .u64 ai.2.2.2]]:=o.take [0] [] J (M:=[Av d 91 [c,iv i,.int .u64 j]]) J a2 t.size
   refine bB b fun dc b2 b=>BA J J J b2<|bB b fun b4 b5 b=>BA J J J b5<|An 1 J<|bv<|Aq<|An 3 J ?_
   rw [a1] at b
   exact fun a ha=>bt a _ y (AB y) ⟨ai.2.2.1,ai.2.2.2,b4,Ah (ah-1),ha.sb J,b0,b1.sel [0] J,b⟩
   refine Bb<|bm ?_
   refine Ao fun b6 b7=>?_
   obtain ⟨z,b8,b⟩:=Cb b
   have ap:∀(aq:List Ag)(aj:Af)(_:z aq=some r)(_:Bl f aj)(_:Sp f aj []),∀ a,St 61 [(4,.string (AL aq))] a→b6 a aj:=by
    intro aq aj b b9 dd
    subst b8
    refine b7<|Am 2 J<|Aw<|rt hQ J J<|by cases b; exact ⟨rfl,b9⟩
   refine Al fun _ ca=>wp 1 J<|bB b fun g cb b=>A7 J call56 (CD x (h,i,j) d c (p.oldo t (o.sel [0] J)) 30 (o.sel [0] J).base0 _ cb) J ?_
   rintro _ ar ⟨rfl,cc,a3⟩
   refine ⟨_,rfl,?_⟩
   have l:=o.takeB [0] J (M:=[Av d 91 [c,iv i,.int .u64 j]]) J t cc a3
   have n:Sp f ar [Av d 91 [c,iv g.2.2.1,.int .u64 g.2.2.2]]:=o.take [0] [] J (M:=[Av d 91 [c,iv i,.int .u64 j]]) J a3 t.size
   refine Ai<|ca<|A0<|Am 2 J<|A3 J b (fun _ b=>?_)<|fun _ b=>?_
   refine Al fun _ cd=>?_
   refine wp 2 J<|Dl underlying9 J J<|wp 1 J<|bB b fun de ce b=>I2 underlying9 J J ce (.inl ⟨rfl,rfl⟩) (.inr ⟨_,_,rfl,rfl⟩)<|An 1 J<|cd<|Aw<|rt hQ J J<|by cases b; exact ⟨rfl,l⟩
   refine Am 2 J ?_
   refine A3 J b (fun _ b=>?_)<|fun _ b=>?_
   refine Am 1 J ?_
   refine Al fun _ cf=>wp 1 J<|bB b fun au cg b=>A7 J call56 (CD ar (h,g.2.2.1,g.2.2.2) d c (p.oldo l (n.sel [0] J)) 2 (n.sel [0] J).base0 _ cg) J ?_
   rintro _ ch ⟨rfl,ci,a4⟩
   refine ⟨_,rfl,?_⟩
   have cj:=n.takeB [0] J (M:=[Av d 91 [c,iv g.2.2.1,.int .u64 g.2.2.2]]) J l ci a4
   have ck:Sp f ch [Av d 91 [c,iv au.2.2.1,.int .u64 au.2.2.2]]:=n.take [0] [] J (M:=[Av d 91 [c,iv g.2.2.1,.int .u64 g.2.2.2]]) J a4 l.size
   refine An 2 J<|cf<|A0<|AN (fun m a av=>∃(ak:List Ag)(al:Int),St 61 [(4,.string (AL ak)),(6,iv al)] a∧Bl f av∧Sp f av []∧DW z m ak al=some r) FU ?_ ?_
   exact fun a ha=>⟨[],Ah (40+au.1),ha.sb J,cj,ck.sel [] J,b⟩
   rintro aa a av ⟨ak,al,ha,a5,a6,b⟩ df cl
   refine BC ?_ ha
   cases aa with
   | zero=>exact Be b
   | succ aa =>
    obtain ⟨dg,a7⟩:∃ k,k=DW z aa:=⟨_,rfl⟩
    rw [DW,← a7] at b
    refine Ao fun _ cn=>Am 2 J<|A3 J b (fun _ b=>?_)<|fun _ b=>?_
    refine Au<|cn ?_
    refine Ao fun _ co=>A0<|Aq<|wp 1 J<|bB b fun cp cq b=>BA J J J cq<|An 1 J<|co<|Aq<|An 3 J ?_
    rw [a7] at b
    exact fun a ha=>cl a _ aa (AB aa) ⟨cp,Ah (al-1),ha.sb J,a5,a6.sel [] J,b⟩
    refine Bb ?_
    exact jx (ap ak _ b a5 (a6.sel [] J)) J
   refine Am 2 J ?_
   refine A3 J b (fun _ b=>?_)<|fun _ b=>?_
   refine Am 1 J ?_
   refine Aw<|rt hQ J J<|by cases b; exact ⟨rfl,l⟩
   refine Am 2 J ?_
   refine A3 J b (fun _ b=>?_)<|fun _ b=>?_
   refine Am 1 J ?_
   refine Ao fun _ cr=>Al fun _ cs=>wp 1 J<|bB b fun ab ct b=>A7 J call56 (CD ar (h,g.2.2.1,g.2.2.2) d c (p.oldo l (n.sel [0] J)) 2 (n.sel [0] J).base0 _ ct) J ?_
   rintro _ cu ⟨rfl,cv,a8⟩
   refine ⟨_,rfl,?_⟩
   have cw:=n.takeB [0] J (M:=[Av d 91 [c,iv g.2.2.1,.int .u64 g.2.2.2]]) J l cv a8
   have cx:Sp f cu [Av d 91 [c,iv ab.2.2.1,.int .u64 ab.2.2.2]]:=n.take [0] [] J (M:=[Av d 91 [c,iv g.2.2.1,.int .u64 g.2.2.2]]) J a8 l.size
   refine An 2 J<|cs<|A0<|AN (fun m a aw=>∃(ax:List Ag),St 61 [(4,.string (AL ax)),(7,iv (Ah (1999+ab.1)))] a∧Bl f aw∧Sp f aw []∧DV ab z m ax=some r) FU ?_ ?_
   exact fun a ha=>⟨[107,101,101,112,10],ha.sb J,cw,cx.sel [] J,b⟩
   rintro ac a aw ⟨ax,ha,a9,ba,b⟩ dh cy
   refine BC ?_ ha
   cases ac with
   | zero=>exact Be b
   | succ ac =>
    obtain ⟨di,bb⟩:∃ k,k=DV ab z ac:=⟨_,rfl⟩
    rw [DV,← bb] at b
    refine Ao fun _ cz=>Al fun _ c0=>wp 1 J<|Dl underlying9 J J<|An 2 J<|c0<|A3 J b (fun _ b=>?_)<|fun _ b=>?_
    refine Au<|cz ?_
    refine A0<|Aq<|wp 1 J<|bB b fun c1 c2 b=>BA J J J c2<|An 1 J ?_
    rw [bb] at b
    exact fun a ha=>cy a _ ac (AB ac) ⟨c1,ha.sb J,a9,ba.sel [] J,b⟩
    refine Bb<|cr ?_
    refine Aq<|wp 1 J<|bB b fun c3 c4 b=>BA J J J c4<|An 1 J ?_
    exact jx (ap c3 _ b a9 (ba.sel [] J)) J
   refine Au ?_
   exact jx (ap ag _ b l (n.sel [] J)) J
 refine Al fun _ c5=>wp 1 J<|bB b fun u c6 b=>A7 J call55 (Lp w4 (h,0,0) d c (p.oldo an (ad.sel [0] J)) 5 (ad.sel [0] J).base0 _ c6) J ?_
 rintro _ c7 ⟨rfl,c8,bc⟩
 refine ⟨_,rfl,?_⟩
 have bd:=ad.takeB [0] J (M:=[Av d 91 [c,iv 0,.int .u64 0]]) J an c8 bc
 have be:Sp f c7 [Av d 91 [c,iv u.2.2.1,.int .u64 u.2.2.2]]:=ad.take [0] [] J (M:=[Av d 91 [c,iv 0,.int .u64 0]]) J bc an.size
 refine An 1 J<|c5<|A3 J b (fun _ b=>?_)<|fun _ b=>?_
 refine Aq ?_
 refine An 1 J ?_
 exact jx (az (u.2.2.1) (u.2.2.2) ([115,112,111,116,32,50,52,32,51,50,10,115,112,111,116,32,52,56,32,51,50,10,107,101,101,112,10,109,101,97,115,117,114,101,32,52,32,54,48,10,112,108,97,99,101,32,49,32,52,56,32,48,10,112,108,97,99,101,32,50,32,50,52,32,51,50,10]) _ b bd (be.sel [0] J)) J
 refine Au ?_
 exact jx (az (u.2.2.1) (u.2.2.2) ([]) _ b bd (be.sel [0] J)) J
theorem QO(g:Af)(h:List Int)(c:Ac)(i:RO H2 g c h)(r:(List Ag)×List Ag)(b:FF h=some r) :
  A2 35 [c] g fun e w'=>e=.returned (.tuple #[.string (AL r.1),.string (AL r.2)])∧Bl g w':=by
 refine cm func35 ntmps35 J fun Q z hP p hS=>?_
 unfold FF at b
 refine Am 2 J<|Al fun _ ab=>wp 1 J<|DS (zs:=[.slice none 0 0,iv 0,.int .u64 0]) (out:=[c,iv 0,.int .u64 0]) (vs:=[c]) (css:=[[c]]) Af2 Af8 J J (by simp only [List.map_cons,List.map_nil,Ch ((i.ro p).one)] <;> rfl) J J<|CV J p hS fun d w4 _ q ad=>An 1 J<|ab<|Al fun _ ae=>wp 1 J<|bB b fun u9 ag b=>Bn J call34 q ad (NT w4 h c (i.ro q) _ ag) J fun ah _ m j=>wp 1 J<|bB b fun f ai b=>A7 J call57 (Jq ah (h,0,0) d c (i.oldo m (j.sel [0] J)) (j.sel [0] J).base0 _ ai) J ?_
 rintro _ s ⟨rfl,aj,t⟩
 refine ⟨_,rfl,?_⟩
 have n:=j.takeB [0] J (M:=[Av d 91 [c,iv 0,.int .u64 0]]) J m aj t
 have k:Sp g s [Av d 91 [c,iv f.2.2.1,.int .u64 f.2.2.2]]:=j.take [0] [] J (M:=[Av d 91 [c,iv 0,.int .u64 0]]) J t m.size
 refine bB b fun ak al b=>BA J J J al<|An 2 J<|ae<|Ao fun am an=>?_
 obtain ⟨ao,ap,b⟩:=Cb b
 have u:∀(o:List Ag)(l:Af)(_:ao o=some r)(_:Bl g l)(_:Sp g l []),∀ a,St 19 [(5,.string (AL u9)),(6,.string (AL o))] a→am a l:=by
  intro o l b aq ay
  subst ap
  refine an<|Am 4 J<|Aw<|rt z J J<|by cases b; exact ⟨rfl,aq⟩
 refine Al fun _ ar=>wp 1 J<|bB b fun v au b=>A7 J call55 (Lp s (h,f.2.2.1,f.2.2.2) d c (i.oldo n (k.sel [0] J)) 10 (k.sel [0] J).base0 _ au) J ?_
 rintro _ av ⟨rfl,aw,w⟩
 refine ⟨_,rfl,?_⟩
 have x:=k.takeB [0] J (M:=[Av d 91 [c,iv f.2.2.1,.int .u64 f.2.2.2]]) J n aw w
 have y:Sp g av [Av d 91 [c,iv v.2.2.1,.int .u64 v.2.2.2]]:=k.take [0] [] J (M:=[Av d 91 [c,iv f.2.2.1,.int .u64 f.2.2.2]]) J w n.size
 refine Ai<|ar<|A3 J b (fun _ b=>?_)<|fun _ b=>?_
 refine Aq ?_
 refine An 1 J ?_
 exact jx (u ([107,101,101,112]) _ b x (y.sel [] J)) J
 refine Au ?_
 exact jx (u ak _ b x (y.sel [] J)) J
theorem Tn(f:Af)(g h:List Ag)(r:(List Ag)×Bool)(b:IH g h=some r) :
  A2 36 [.string (AL g),.string (AL h)] f fun e w'=>e=.returned (.tuple #[.string (AL r.1),.bool r.2])∧Bl f w':=by
 refine cm func36 ntmps36 J fun Q n hP p q=>?_
 unfold IH at b
 refine Am 2 J<|Al fun _ s=>wp 1 J<|bB b fun t u b=>Ds J call58 p q (KF f g _ u) J fun v4 F5 v _ _ w x=>An 5 J<|s<|Al fun _ y=>wp 1 J<|bB b fun z aa b=>Ds J call58 w x (KF v h _ aa) J fun av aw ab _ _ ac ad=>An 5 J<|y<|Al fun _ ae=>wp 2 J<|bB b fun af ag b=>BA J J J ag<|bB b fun ah ai b=>Ds J call58 ac ad (KF ab af _ ai) J fun ax ay az _ _ j k=>An 5 J<|ae<|Ao fun _ aj=>Ao fun ak al=>?_
 obtain ⟨am,an,b⟩:=Cb b
 have l:∀(m:Bool)(i:Af)(_:am m=some r)(_:Bl f i)(_:Sp f i []),∀ a,St 42 [(0,.string (AL g)),(1,.string (AL h)),(38,.bool m)] a→ak a i:=by
  intro m i b o a0
  subst an
  refine al<|A3 J b (fun _ b=>?_)<|fun _ b=>?_
  refine Am 2 J ?_
  refine Aw<|rt n J J<|by cases b; exact ⟨rfl,o⟩
  refine Au<|aj ?_
  refine Al fun _ ao=>wp 2 J<|bB b fun a1 ap b=>BA J J J ap<|An 2 J<|ao<|Aw<|rt n J J<|by cases b; exact ⟨rfl,o⟩
 refine Aq<|wp 3 J ?_
 rcases bE (!t.2) with c|c
 replace b:=Bw c b
 refine wo J c<|wo J c<|A8 J J c J<|wp 1 J<|wo J J<|wo J J<|A8 J J J J<|Ai ?_
 exact jx (l true _ b j (k.sel [] J)) J
 replace b:=BI c b
 refine wn J c<|wp 1 J<|wn J c<|wp 1 J<|Ak J J c J<|wp 1 J ?_
 rcases bE (!z.2) with d|d
 replace b:=Bw d b
 refine wo J d<|wo J d<|A8 J J d J<|Ai ?_
 exact jx (l true _ b j (k.sel [] J)) J
 replace b:=BI d b
 refine wn J d<|wp 1 J<|wn J d<|wp 1 J<|Ak J J d J<|Ai ?_
 exact jx (l (!ah.2) _ b j (k.sel [] J)) J
theorem Tf(f:Af)(g h:List Ag)(r:(List Ag)×Bool)(b:IB g h=some r) :
  A2 37 [.string (AL g),.string (AL h)] f fun e w'=>e=.returned (.tuple #[.string (AL r.1),.bool r.2])∧Bl f w':=by
 refine cm func37 ntmps37 J fun Q n hP p q=>?_
 unfold IB at b
 refine Am 2 J<|Al fun _ s=>wp 1 J<|bB b fun t u b=>Ds J call59 p q (M1 f g _ u) J fun v4 F5 v _ _ w x=>An 5 J<|s<|Al fun _ y=>wp 1 J<|bB b fun z aa b=>Ds J call59 w x (M1 v h _ aa) J fun av aw ab _ _ ac ad=>An 5 J<|y<|Al fun _ ae=>wp 2 J<|bB b fun af ag b=>BA J J J ag<|bB b fun ah ai b=>Ds J call59 ac ad (M1 ab af _ ai) J fun ax ay az _ _ j k=>An 5 J<|ae<|Ao fun _ aj=>Ao fun ak al=>?_
 obtain ⟨am,an,b⟩:=Cb b
 have l:∀(m:Bool)(i:Af)(_:am m=some r)(_:Bl f i)(_:Sp f i []),∀ a,St 42 [(0,.string (AL g)),(1,.string (AL h)),(38,.bool m)] a→ak a i:=by
  intro m i b o a0
  subst an
  refine al<|A3 J b (fun _ b=>?_)<|fun _ b=>?_
  refine Am 2 J ?_
  refine Aw<|rt n J J<|by cases b; exact ⟨rfl,o⟩
  refine Au<|aj ?_
  refine Al fun _ ao=>wp 2 J<|bB b fun a1 ap b=>BA J J J ap<|An 2 J<|ao<|Aw<|rt n J J<|by cases b; exact ⟨rfl,o⟩
 refine Aq<|wp 3 J ?_
 rcases bE (!t.2) with c|c
 replace b:=Bw c b
 refine wo J c<|wo J c<|A8 J J c J<|wp 1 J<|wo J J<|wo J J<|A8 J J J J<|Ai ?_
 exact jx (l true _ b j (k.sel [] J)) J
 replace b:=BI c b
 refine wn J c<|wp 1 J<|wn J c<|wp 1 J<|Ak J J c J<|wp 1 J ?_
 rcases bE (!z.2) with d|d
 replace b:=Bw d b
 refine wo J d<|wo J d<|A8 J J d J<|Ai ?_
 exact jx (l true _ b j (k.sel [] J)) J
 replace b:=BI d b
 refine wn J d<|wp 1 J<|wn J d<|wp 1 J<|Ak J J d J<|Ai ?_
 exact jx (l (!ah.2) _ b j (k.sel [] J)) J
theorem Z0(f:Af)(g:List Int)(n:Ac)(o:RO As f n g)(i:List Int)(p:Ac)(t:RO As f p i)(r:Bool)(b:NH g i=some r) :
  A2 38 [n,p] f fun e w'=>e=.returned (.bool r)∧Bl f w':=by
 refine cm func38 ntmps38 J fun Q q c u x=>?_
 unfold NH at b
 refine Am 1 J<|Ao fun _ y=>Al fun _ z=>wp 1 J<|BO o underlying36 J<|wp 1 J<|BO t underlying36 J<|An 1 J<|z<|A3 J b (fun _ b=>?_)<|fun _ b=>?_
 refine Am 1 J ?_
 refine Aw<|rt q J J<|by cases b; exact ⟨rfl,u⟩
 refine Au<|y ?_
 refine Ao fun _ aa=>Al fun _ ab=>wp 1 J<|BO o underlying36 J<|An 1 J<|ab<|A0<|AN (fun m a s=>∃(j:Int),St 26 [(0,n),(1,p),(12,iv (List.length g:Int)),(13,iv j)] a∧Bl f s∧Sp f s []∧IR g i m j=some r) FU ?_ ?_
 exact fun a ha=>⟨0,ha.sb J,u,x.sel [] J,b⟩
 rintro h a s ⟨j,ha,v,ac,b⟩ an ad
 refine BC ?_ ha
 cases h with
 | zero=>exact Be b
 | succ h =>
  obtain ⟨ao,w⟩:∃ k,k=IR g i h:=⟨_,rfl⟩
  rw [IR,← w] at b
  refine Am 1 J<|Ao fun _ ae=>A3 J b (fun _ b=>?_)<|fun _ b=>?_
  refine Au<|ae ?_
  refine Ao fun _ af=>A0<|Am 2 J<|Ao fun _ ag=>AQ B1 [] v ac fun ah _ l ai=>?_
  have d:=KeepX.refl ah []
  refine Ay 0 J c d<|Ay 1 J c d<|bB b fun ap aj b=>Ad 2 J c d<|B7 (e:=As) underlying36 J J J o aj ?_
  rintro aq _ rfl ak
  refine Ad 3 J c d<|BR A9 J (ak.kx l (by simp)) J<|Ay 4 J c d<|Ay 5 J c d<|bB b fun ar al b=>Ad 6 J c d<|B7 (e:=As) underlying36 J J J t al ?_
  rintro au _ rfl am
  refine Ad 7 J c d<|BR A9 J (am.kx l (by simp)) J<|Ad 8 J c d<|Acw J J J<|Bc<|ag<|A3 J b (fun _ b=>?_)<|fun _ b=>?_
  refine Am 1 J ?_
  refine Aw<|rt q J J<|by cases b; exact ⟨rfl,l⟩
  refine Au<|af ?_
  refine Aq<|An 2 J ?_
  rw [w] at b
  exact fun a ha=>ad a _ h (AB h) ⟨Ah (j+1),ha.sb J,l,ai.sel [] J,b⟩
  refine Bb<|aa ?_
  refine Am 1 J<|Aw<|rt q J J<|by cases b; exact ⟨rfl,v⟩
theorem ZQ(c:Af)(d:List Int)(j:Ac)(n:RO As c j d)(f:Int)(r:Bool)(b:MK d f=some r) :
  A2 39 [j,iv f] c fun e w'=>e=.returned (.bool r)∧Bl c w':=by
 refine cm func39 ntmps39 J fun Q o hP q s=>?_
 unfold MK at b
 refine Am 1 J<|Ao fun _ t=>Al fun _ u=>wp 1 J<|BO n underlying36 J<|An 1 J<|u<|A0<|AN (fun m a l=>∃(h:Int),St 17 [(1,iv f),(7,j),(8,iv (List.length d:Int)),(9,iv h)] a∧Bl c l∧Sp c l []∧Ht d f m h=some r) FU ?_ ?_
 exact fun a ha=>⟨0,ha.sb J,q,s.sel [] J,b⟩
 rintro g a l ⟨h,ha,i,v,b⟩ ad w
 refine BC ?_ ha
 cases g with
 | zero=>exact Be b
 | succ g =>
  obtain ⟨ae,p⟩:∃ k,k=Ht d f g:=⟨_,rfl⟩
  rw [Ht,← p] at b
  refine Am 1 J<|Ao fun _ x=>A3 J b (fun _ b=>?_)<|fun _ b=>?_
  refine Au<|x ?_
  refine Ao fun _ y=>A0<|Al fun _ z=>bB b fun af aa b=>BT (e:=As) underlying36 J J J n aa ?_
  rintro ag _ rfl ab
  refine BZ A9 J (ab.ro i) J<|An 1 J<|z<|Am 3 J<|A3 J b (fun _ b=>?_)<|fun _ b=>?_
  refine Am 1 J ?_
  refine Aw<|rt o J J<|by cases b; exact ⟨rfl,i⟩
  refine Au<|y ?_
  refine Aq<|An 2 J ?_
  rw [p] at b
  exact fun a ha=>w a _ g (AB g) ⟨Ah (h+1),ha.sb J,i,v.sel [] J,b⟩
  refine Bb<|t ?_
  refine Am 1 J<|Aw<|rt o J J<|by cases b; exact ⟨rfl,i⟩
theorem Sl(f:Af)(g:Akg)(n:Ac)(o:RO At f n g)(i:Akg)(p:Ac)(t:RO At f p i)(r:Bool)(b:Jc g i=some r) :
  A2 40 [n,p] f fun e w'=>e=.returned (.bool r)∧Bl f w':=by
 refine cm func40 ntmps40 J fun Q q c u x=>?_
 unfold Jc at b
 refine Am 1 J<|Ao fun _ y=>Al fun _ z=>wp 1 J<|BO o underlying26 J<|wp 1 J<|BO t underlying26 J<|An 1 J<|z<|A3 J b (fun _ b=>?_)<|fun _ b=>?_
 refine Am 1 J ?_
 refine Aw<|rt q J J<|by cases b; exact ⟨rfl,u⟩
 refine Au<|y ?_
 refine Ao fun _ aa=>Al fun _ ab=>wp 1 J<|BO o underlying26 J<|An 1 J<|ab<|A0<|AN (fun m a s=>∃(j:Int),St 26 [(0,n),(1,p),(12,iv (List.length g:Int)),(13,iv j)] a∧Bl f s∧Sp f s []∧Gw g i m j=some r) FU ?_ ?_
 exact fun a ha=>⟨0,ha.sb J,u,x.sel [] J,b⟩
 rintro h a s ⟨j,ha,v,ac,b⟩ ap ad
 refine BC ?_ ha
 cases h with
 | zero=>exact Be b
 | succ h =>
  obtain ⟨aq,w⟩:∃ k,k=Gw g i h:=⟨_,rfl⟩
  rw [Gw,← w] at b
  refine Am 1 J<|Ao fun _ ae=>A3 J b (fun _ b=>?_)<|fun _ b=>?_
  refine Au<|ae ?_
  refine Ao fun _ af=>A0<|Am 2 J<|Ao fun _ ag=>AQ B1 [] v ac fun ah _ l ai=>?_
  have d:=KeepX.refl ah []
  refine Ay 0 J c d<|Ay 1 J c d<|bB b fun aj ak b=>Ad 2 J c d<|B7 (e:=At) underlying26 J J J o ak ?_
  rintro ar _ rfl al
  refine Ad 3 J c d<|BR Bt J (al.kx l (by simp)) J<|Ay 4 J c d<|Ay 5 J c d<|bB b fun am an b=>Ad 6 J c d<|B7 (e:=At) underlying26 J J J t an ?_
  rintro au _ rfl ao
  refine Ad 7 J c d<|BR Bt J (ao.kx l (by simp)) J<|Ad 8 J c d<|Y8 Tryz.eqGuardType79 (Abl aj am) J J J<|Bc<|ag<|A3 J b (fun _ b=>?_)<|fun _ b=>?_
  refine Am 1 J ?_
  refine Aw<|rt q J J<|by cases b; exact ⟨rfl,l⟩
  refine Au<|af ?_
  refine Aq<|An 2 J ?_
  rw [w] at b
  exact fun a ha=>ad a _ h (AB h) ⟨Ah (j+1),ha.sb J,l,ai.sel [] J,b⟩
  refine Bb<|aa ?_
  refine Am 1 J<|Aw<|rt q J J<|by cases b; exact ⟨rfl,v⟩
theorem Sm(f:Af)(g:Akg)(n:Ac)(o:RO BN f n g)(i:Akg)(p:Ac)(t:RO BN f p i)(r:Bool)(b:Kl g i=some r) :
  A2 41 [n,p] f fun e w'=>e=.returned (.bool r)∧Bl f w':=by
 refine cm func41 ntmps41 J fun Q q c u x=>?_
 unfold Kl at b
 refine Am 1 J<|Ao fun _ y=>Al fun _ z=>wp 1 J<|BO o underlying31 J<|wp 1 J<|BO t underlying31 J<|An 1 J<|z<|A3 J b (fun _ b=>?_)<|fun _ b=>?_
 refine Am 1 J ?_
 refine Aw<|rt q J J<|by cases b; exact ⟨rfl,u⟩
 refine Au<|y ?_
 refine Ao fun _ aa=>Al fun _ ab=>wp 1 J<|BO o underlying31 J<|An 1 J<|ab<|A0<|AN (fun m a s=>∃(j:Int),St 26 [(0,n),(1,p),(12,iv (List.length g:Int)),(13,iv j)] a∧Bl f s∧Sp f s []∧Gx g i m j=some r) FU ?_ ?_
 exact fun a ha=>⟨0,ha.sb J,u,x.sel [] J,b⟩
 rintro h a s ⟨j,ha,v,ac,b⟩ ap ad
 refine BC ?_ ha
 cases h with
 | zero=>exact Be b
 | succ h =>
  obtain ⟨aq,w⟩:∃ k,k=Gx g i h:=⟨_,rfl⟩
  rw [Gx,← w] at b
  refine Am 1 J<|Ao fun _ ae=>A3 J b (fun _ b=>?_)<|fun _ b=>?_
  refine Au<|ae ?_
  refine Ao fun _ af=>A0<|Am 2 J<|Ao fun _ ag=>AQ B1 [] v ac fun ah _ l ai=>?_
  have d:=KeepX.refl ah []
  refine Ay 0 J c d<|Ay 1 J c d<|bB b fun aj ak b=>Ad 2 J c d<|B7 (e:=BN) underlying31 J J J o ak ?_
  rintro ar _ rfl al
  refine Ad 3 J c d<|BR Hb J (al.kx l (by simp)) J<|Ay 4 J c d<|Ay 5 J c d<|bB b fun am an b=>Ad 6 J c d<|B7 (e:=BN) underlying31 J J J t an ?_
  rintro au _ rfl ao
  refine Ad 7 J c d<|BR Hb J (ao.kx l (by simp)) J<|Ad 8 J c d<|Y8 Tryz.eqGuardType82 (Aje aj am) J J J<|Bc<|ag<|A3 J b (fun _ b=>?_)<|fun _ b=>?_
  refine Am 1 J ?_
  refine Aw<|rt q J J<|by cases b; exact ⟨rfl,l⟩
  refine Au<|af ?_
  refine Aq<|An 2 J ?_
  rw [w] at b
  exact fun a ha=>ad a _ h (AB h) ⟨Ah (j+1),ha.sb J,l,ai.sel [] J,b⟩
  refine Bb<|aa ?_
  refine Am 1 J<|Aw<|rt q J J<|by cases b; exact ⟨rfl,v⟩
theorem PV(f:Af)(g:Akj)(n:Ac)(o:RO Cg f n g)(i:Akj)(p:Ac)(t:RO Cg f p i)(r:Bool)(b:It g i=some r) :
  A2 42 [n,p] f fun e w'=>e=.returned (.bool r)∧Bl f w':=by
 refine cm func42 ntmps42 J fun Q q c u x=>?_
 unfold It at b
 refine Am 1 J<|Ao fun _ y=>Al fun _ z=>wp 1 J<|BO o underlying41 J<|wp 1 J<|BO t underlying41 J<|An 1 J<|z<|A3 J b (fun _ b=>?_)<|fun _ b=>?_
 refine Am 1 J ?_
 refine Aw<|rt q J J<|by cases b; exact ⟨rfl,u⟩
 refine Au<|y ?_
 refine Ao fun _ aa=>Al fun _ ab=>wp 1 J<|BO o underlying41 J<|An 1 J<|ab<|A0<|AN (fun m a s=>∃(j:Int),St 26 [(0,n),(1,p),(12,iv (List.length g:Int)),(13,iv j)] a∧Bl f s∧Sp f s []∧EM g i m j=some r) FU ?_ ?_
 exact fun a ha=>⟨0,ha.sb J,u,x.sel [] J,b⟩
 rintro h a s ⟨j,ha,v,ac,b⟩ ap ad
 refine BC ?_ ha
 cases h with
 | zero=>exact Be b
 | succ h =>
  obtain ⟨aq,w⟩:∃ k,k=EM g i h:=⟨_,rfl⟩
  rw [EM,← w] at b
  refine Am 1 J<|Ao fun _ ae=>A3 J b (fun _ b=>?_)<|fun _ b=>?_
  refine Au<|ae ?_
  refine Ao fun _ af=>A0<|Am 2 J<|Ao fun _ ag=>AQ B1 [] v ac fun ah _ l ai=>?_
  have d:=KeepX.refl ah []
  refine Ay 0 J c d<|Ay 1 J c d<|bB b fun aj ak b=>Ad 2 J c d<|B7 (e:=Cg) underlying41 J J J o ak ?_
  rintro ar _ rfl al
  refine Ad 3 J c d<|BR LR J (al.kx l (by simp)) J<|Ay 4 J c d<|Ay 5 J c d<|bB b fun am an b=>Ad 6 J c d<|B7 (e:=Cg) underlying41 J J J t an ?_
  rintro au _ rfl ao
  refine Ad 7 J c d<|BR LR J (ao.kx l (by simp)) J<|Ad 8 J c d<|Y8 Tryz.eqGuardType87 (Ajd aj am) J J J<|Bc<|ag<|A3 J b (fun _ b=>?_)<|fun _ b=>?_
  refine Am 1 J ?_
  refine Aw<|rt q J J<|by cases b; exact ⟨rfl,l⟩
  refine Au<|af ?_
  refine Aq<|An 2 J ?_
  rw [w] at b
  exact fun a ha=>ad a _ h (AB h) ⟨Ah (j+1),ha.sb J,l,ai.sel [] J,b⟩
  refine Bb<|aa ?_
  refine Am 1 J<|Aw<|rt q J J<|by cases b; exact ⟨rfl,v⟩
theorem UJ(f:Af)(p:Tab f)(x0:List Int)(bo:Ac)(b9:RO H2 f bo x0)(x1:List Int)(bq:Ac)(ca:RO H2 f bq x1)(r:Bool)(b:Iu x0 x1=some r) :
  A2 9 [bo,bq] f fun e w'=>e=.returned (.bool r)∧Bl f w':=by
 refine cm func9 ntmps9 J fun Q hQ hP hB hS=>?_
 unfold Iu at b
 refine Am 1 J<|Ao fun _ dh=>Al fun _ di=>wp 1 J<|BO b9 underlying46 J<|wp 1 J<|BO ca underlying46 J<|An 2 J<|di<|A3 J b (fun _ b=>?_)<|fun _ b=>?_
 refine Am 1 J ?_
 refine Aw<|rt hQ J J<|by cases b; exact ⟨rfl,hB⟩
 refine Au<|dh ?_
 refine Al fun _ dj=>wp 1 J<|bB b fun g dk b=>Bn J call34 hB hS (NT f x0 bo (b9.ro hB) _ dk) J fun w8 _ cb dm=>An 1 J<|dj<|Al fun _ dn=>wp 1 J<|bB b fun ba dp b=>Bn J call11 cb dm (NL w8 (p.st cb) g _ dp) J fun dq _ dr ds=>An 1 J<|dn<|Al fun _ dt=>wp 1 J<|bB b fun du dv b=>Bn J call10 dr ds (VS dq g _ dv) J fun dw _ cc dx=>An 1 J<|dt<|Al fun _ dy=>wp 1 J<|bB b fun az dz b=>Ds J call25 cc dx (To dw (p.st cc) g _ dz) J fun d0 h5 d1 _ _ d2 d3=>An 5 J<|dy<|Al fun _ d4=>wp 1 J<|bB b fun o d5 b=>Ds J call24 d2 d3 (Tg d1 g _ d5) J fun l ar d6 _ _ cd d7=>An 5 J<|d4<|Al fun _ d8=>wp 1 J<|bB b fun au d9 b=>Bn J call35 cd d7 (QO d6 x1 bq (ca.ro cd) _ d9) J fun ea _ eb ec=>An 5 J<|d8<|Al fun _ ed=>wp 2 J<|bB b fun a0 ee b=>Bn J call36 eb ec (Tn ea au.1 au.2 _ ee) J fun ef _ eg eh=>An 5 J<|ed<|Al fun _ ei=>wp 2 J<|bB b fun ce ej b=>Bn J call37 eg eh (Tf ef au.1 au.2 _ ej) J fun ek _ bs a1=>An 5 J<|ei<|Ao fun _ el=>Ao fun em en=>?_
 obtain ⟨eo,ep,b⟩:=Cb b
 have a2:∀(bt:Bool)(a3:Af)(_:eo bt=some r)(_:Bl f a3)(_:Sp f a3 [Ab As ar l o.1]),∀ a,St 293 [(5,.string (AL g)),(6,.string (AL ba)),(9,.bool az.2),(10,l),(12,.string (AL au.1)),(14,.string (AL a0.1)),(15,.bool a0.2),(107,.bool bt)] a→em a a3:=by
  intro bt a3 b bb cf
  subst ep
  refine en<|A3 J b (fun _ b=>?_)<|fun _ b=>?_
  refine Am 1 J ?_
  refine Aw<|rt hQ J J<|by cases b; exact ⟨rfl,bb⟩
  refine Au<|el ?_
  refine Ao fun eq er=>?_
  obtain ⟨es,et,b⟩:=jE0 b
  have cg:∀(bc:Af)(_:es=some r)(_:Bl f bc)(_:Sp f bc [Ab As ar l o.1]),∀ a,St 293 [(5,.string (AL g)),(6,.string (AL ba)),(9,.bool az.2),(10,l)] a→eq a bc:=by
   intro bc b ch eu
   subst et
   refine er<|Ao fun _ ev=>Am 2 J<|A3 J b (fun _ b=>?_)<|fun _ b=>?_
   refine Al fun _ ew=>?_
   refine wp 1 J<|AR J J J<|An 1 J<|ew<|Aw<|rt hQ J J<|by cases b; exact ⟨rfl,ch⟩
   refine Au<|ev ?_
   refine Am 2 J<|Ao fun _ ex=>Am 1 J<|A0<|AN (fun m a a4=>∃(ae:List Ag)(ad av:Int),St 293 [(5,.string (AL g)),(10,l),(20,.string (AL ae)),(21,iv ad),(22,iv av)] a∧Bl f a4∧Sp f a4 [Ab As ar l o.1]∧CH g o m ae ad av=some r) FU ?_ ?_
   exact fun a ha=>⟨[],1,0,ha.sb J,ch,eu.sel [0] J,b⟩
   rintro a5 a a4 ⟨ae,ad,av,ha,bu,bv,b⟩ h6 ey
   refine BC ?_ ha
   cases a5 with
   | zero=>exact Be b
   | succ a5 =>
    obtain ⟨h7,ci⟩:∃ k,k=CH g o a5:=⟨_,rfl⟩
    rw [CH,← ci] at b
    refine Ao fun _ ez=>Al fun _ e0=>wp 2 J<|Dl underlying9 J J<|An 1 J<|e0<|A3 J b (fun _ b=>?_)<|fun _ b=>?_
    refine Au<|ez ?_
    refine Ao fun e1 e2=>?_
    obtain ⟨e3,e4,b⟩:=Np b
    have cj:∀(bd:List Ag)(be:Int)(bf:Af)(_:e3 bd be=some r)(_:Bl f bf)(_:Sp f bf [Ab As ar l o.1]),∀ a,St 293 [(5,.string (AL g)),(10,l),(20,.string (AL bd)),(21,iv be),(22,iv av)] a→e1 a bf:=by
     intro bd be bf b e5 e6
     subst e4
     refine e2<|Aq<|An 3 J ?_
     rw [ci] at b
     exact fun a ha=>ey a _ a5 (AB a5) ⟨bd,be,Ah (av+1),ha.sb J,e5,e6.sel [0] J,b⟩
    refine A0<|Ao fun e7 e8=>?_
    obtain ⟨e9,fa,b⟩:=Cb b
    have ck:∀(a6:List Ag)(bg:Af)(_:e9 a6=some r)(_:Bl f bg)(_:Sp f bg [Ab As ar l o.1]),∀ a,St 293 [(5,.string (AL g)),(10,l),(20,.string (AL a6)),(21,iv ad),(22,iv av)] a→e7 a bg:=by
     intro a6 bg b cl cn
     subst fa
     refine e8<|Al fun _ fb=>wp 2 J<|bB b fun h8 fc b=>Fd underlying9 J J J fc<|An 1 J<|fb<|A3 J b (fun _ b=>?_)<|fun _ b=>?_
     refine Aq ?_
     refine An 3 J ?_
     exact jx (cj a6 (Ah (ad+1)) _ b cl (cn.sel [0] J)) J
     refine Au ?_
     exact jx (cj a6 ad _ b cl (cn.sel [0] J)) J
    refine Al fun _ fd=>wp 2 J<|bB b fun h9 fe b=>Bn J call39 bu bv (ZQ a4 o.1 l (bv.own_ro (i:=0) J) ad _ fe) J fun ia _ co cp=>An 1 J<|fd<|A3 J b (fun _ b=>?_)<|fun _ b=>?_
    refine Aq ?_
    refine wp 5 J<|bB b fun ib ff b=>I2 underlying9 J J ff (.inr ⟨_,_,rfl,rfl⟩) (.inr ⟨_,_,rfl,rfl⟩)<|bB b fun fg fh b=>BA J J J fh<|An 1 J ?_
    exact jx (ck fg _ b co (cp.sel [0] J)) J
    refine Au ?_
    exact jx (ck ae _ b co (cp.sel [0] J)) J
    refine Bb<|ex ?_
    refine Al fun _ fi=>wp 1 J<|bB b fun bw fj b=>Ds J call15 bu bv (OW a4 (p.st bu) g _ fj) J fun cq ic fk _ _ cr fl=>An 5 J<|fi<|Al fun _ fm=>wp 1 J<|bB b fun cs fn b=>Ds J call15 cr fl (OW fk (p.st cr) ae _ fn) J fun fo ie fp _ _ fq fr=>An 5 J<|fm<|Al fun _ fs=>wp 1 J<|bB b fun bx ft b=>Ds J call14 fq fr (TN fp g _ ft) J fun ct ig fu _ _ cu fv=>An 5 J<|fs<|Al fun _ fw=>wp 1 J<|bB b fun bz fx b=>Ds J call20 cu fv (OV fu (p.st cu) g _ fx) J fun cv ih fy _ _ cw fz=>An 5 J<|fw<|Al fun _ f0=>wp 1 J<|bB b fun cx f1 b=>Ds J call20 cw fz (OV fy (p.st cw) ae _ f1) J fun f2 ii f3 _ _ f4 f5=>An 5 J<|f0<|Al fun _ f6=>wp 1 J<|bB b fun b0 f7 b=>Ds J call19 f4 f5 (TM f3 g _ f7) J fun cy ij f8 _ _ cz f9=>An 5 J<|f6<|Al fun _ ga=>wp 1 J<|bB b fun b1 gb b=>Ds J call30 cz f9 (NK f8 (p.st cz) g _ gb) J fun c0 ik gc _ _ c1 gd=>An 5 J<|ga<|Al fun _ ge=>wp 1 J<|bB b fun c2 gf b=>Ds J call30 c1 gd (NK gc (p.st c1) ae _ gf) J fun gg il gh _ _ gi gj=>An 5 J<|ge<|Al fun _ gk=>wp 1 J<|bB b fun b2 gl b=>Ds J call29 gi gj (RR gh g _ gl) J fun c3 im gm _ _ c4 gn=>An 5 J<|gk<|Al fun _ go=>wp 1 J<|bB b fun aw gp b=>Bn J call13 c4 gn (Sw gm (p.st c4) g _ gp) J fun gq _ bh ax=>An 9 J<|go<|Ao fun gr gs=>?_
    obtain ⟨gt,gu,b⟩:=Cb b
    have c:∀(b3:Bool)(bi:Af)(_:gt b3=some r)(_:Bl f bi)(_:Sp f bi []),∀ a,St 293 [(4,.bool b3)] a→gr a bi:=by
     intro b3 bi b gv io
     subst gu
     refine gs<|Aw<|rt hQ J J<|by cases b; exact ⟨rfl,gv⟩
    refine Aq<|wp 2 J ?_
    rcases bE bw.2 with af|af
    replace b:=Bw af b
    refine wn J af<|wp 1 J<|A8 J J af J<|wp 1 J ?_
    rcases bE cs.2 with ag|ag
    replace b:=Bw ag b
    refine wn J ag<|wp 1 J<|A8 J J ag J<|wp 1 J ?_
    rcases bE bx.2 with q|q
    replace b:=Bw q b
    refine wn J q<|wp 1 J<|wn J q<|wp 1 J<|wn J q<|bB b fun gw gx b=>Bn J call40 bh ax (Sl gq bw.1 cq (ax.own_ro (i:=8) J) bx.1 ct (ax.own_ro (i:=6) J) _ gx) J fun gy _ c5 bj=>A8 J J q J<|wp 1 J ?_
    rcases bE gw with s|s
    replace b:=Bw s b
    refine wn J s<|wp 1 J<|wn J s<|wp 1 J<|wn J s<|bB b fun gz g0 b=>Bn J call40 c5 bj (Sl gy cs.1 fo (bj.own_ro (i:=7) J) bx.1 ct (bj.own_ro (i:=6) J) _ g0) J fun g1 _ a7 ah=>A8 J J s J<|wp 1 J ?_
    rcases bE gz with ai|ai
    replace b:=Bw ai b
    refine wn J ai<|wp 1 J<|A8 J J ai J<|wp 1 J ?_
    rcases bE bz.2 with aj|aj
    replace b:=Bw aj b
    refine wn J aj<|wp 1 J<|A8 J J aj J<|wp 1 J ?_
    rcases bE cx.2 with ak|ak
    replace b:=Bw ak b
    refine wn J ak<|wp 1 J<|A8 J J ak J<|wp 1 J ?_
    rcases bE b0.2 with t|t
    replace b:=Bw t b
    refine wn J t<|wp 1 J<|wn J t<|wp 1 J<|wn J t<|bB b fun g2 g3 b=>Bn J call41 a7 ah (Sm g1 bz.1 cv (ah.own_ro (i:=5) J) b0.1 cy (ah.own_ro (i:=3) J) _ g3) J fun g4 _ c6 bk=>A8 J J t J<|wp 1 J ?_
    rcases bE g2 with u|u
    replace b:=Bw u b
    refine wn J u<|wp 1 J<|wn J u<|wp 1 J<|wn J u<|bB b fun g5 g6 b=>Bn J call41 c6 bk (Sm g4 cx.1 f2 (bk.own_ro (i:=4) J) b0.1 cy (bk.own_ro (i:=3) J) _ g6) J fun g7 _ a8 al=>A8 J J u J<|wp 1 J ?_
    rcases bE g5 with am|am
    replace b:=Bw am b
    refine wn J am<|wp 1 J<|A8 J J am J<|wp 1 J ?_
    rcases bE b1.2 with an|an
    replace b:=Bw an b
    refine wn J an<|wp 1 J<|A8 J J an J<|wp 1 J ?_
    rcases bE c2.2 with ao|ao
    replace b:=Bw ao b
    refine wn J ao<|wp 1 J<|A8 J J ao J<|wp 1 J ?_
    rcases bE b2.2 with v|v
    replace b:=Bw v b
    refine wn J v<|wp 1 J<|wn J v<|wp 1 J<|wn J v<|bB b fun g8 g9 b=>Bn J call42 a8 al (PV g7 b1.1 c0 (al.own_ro (i:=2) J) b2.1 c3 (al.own_ro (i:=0) J) _ g9) J fun hb _ c7 bl=>A8 J J v J<|wp 1 J ?_
    rcases bE g8 with w|w
    replace b:=Bw w b
    refine wn J w<|wp 1 J<|wn J w<|wp 1 J<|wn J w<|bB b fun hc hd b=>Bn J call42 c7 bl (PV hb c2.1 gg (bl.own_ro (i:=1) J) b2.1 c3 (bl.own_ro (i:=0) J) _ hd) J fun he _ a9 ap=>A8 J J w J<|wp 1 J ?_
    rcases bE hc with aq|aq
    replace b:=Bw aq b
    refine wn J aq<|wp 1 J<|A8 J J aq J<|wp 1 J ?_
    rcases bE aw.2.2.2 with h|h
    replace b:=Bw h b
    refine wn J h<|wp 1 J<|wn J h<|wp 1 J<|wn J h<|wp 1 J<|wn J h<|wp 1 J<|wn J h<|BO (ap.own_ro (i:=9) J) underlying36 J<|wn J h<|wp 1 J<|A8 J J h J<|wp 1 J ?_
    rcases bE ((Ah (aw.1+aw.2.1))==(List.length o.1:Int)) with d|d
    replace b:=Bw d b
    refine wn J d<|wp 1 J<|wn J d<|wp 1 J<|wn J d<|wp 1 J<|wn J d<|wp 1 J<|wn J d<|wp 1 J<|wn J d<|wp 1 J<|wn J d<|wp 1 J<|wn J d<|wp 1 J<|A8 J J d J<|wp 1 J ?_
    rcases bE ((Ah ((Ah (aw.1+aw.2.1))+aw.2.2.1))==(Ah (ad-1))) with aa|aa
    replace b:=Bw aa b
    refine wn J aa<|wp 1 J<|wn J aa<|bB b fun hf hg b=>Bn J call43 a9 ap (GA he bw.1 cq (ap.own_ro (i:=8) J) _ hg) J fun hh _ c8 b4=>A8 J J aa J<|wp 1 J ?_
    rcases bE hf with ab|ab
    replace b:=Bw ab b
    refine wn J ab<|wp 1 J<|wn J ab<|bB b fun hi hj b=>Bn J call44 c8 b4 (Oq hh bz.1 cv (b4.own_ro (i:=5) J) _ hj) J fun hk _ c9 b5=>A8 J J ab J<|wp 1 J ?_
    rcases bE hi with ac|ac
    replace b:=Bw ac b
    refine wn J ac<|wp 1 J<|wn J ac<|bB b fun hl hm b=>Bn J call45 c9 b5 (KH hk b1.1 c0 (b5.own_ro (i:=2) J) _ hm) J fun ip _ hn ho=>A8 J J ac J<|An 1 J ?_
    exact jx (c hl _ b hn (ho.sel [] J)) J
    replace b:=BI ac b
    refine wo J ac<|wo J ac<|Ak J J ac J<|An 1 J ?_
    exact jx (c false _ b c9 (b5.sel [] J)) J
    replace b:=BI ab b
    refine wo J ab<|wo J ab<|Ak J J ab J<|wp 1 J<|wo J J<|wo J J<|Ak J J J J<|An 1 J ?_
    exact jx (c false _ b c8 (b4.sel [] J)) J
    replace b:=BI aa b
    refine wo J aa<|wo J aa<|Ak J J aa J<|wp 1 J<|wo J J<|wo J J<|Ak J J J J<|wp 1 J<|wo J J<|wo J J<|Ak J J J J<|An 1 J ?_
    exact jx (c false _ b a9 (ap.sel [] J)) J
    replace b:=BI d b
    refine wo J d<|wo J d<|wo J d<|wo J d<|wo J d<|wo J d<|wo J d<|wo J d<|Ak J J d J<|wp 1 J<|wo J J<|wo J J<|Ak J J J J<|wp 1 J<|wo J J<|wo J J<|Ak J J J J<|wp 1 J<|wo J J<|wo J J<|Ak J J J J<|An 1 J ?_
    exact jx (c false _ b a9 (ap.sel [] J)) J
    replace b:=BI h b
    refine wo J h<|wo J h<|wo J h<|wo J h<|wo J h<|wo J h<|Ak J J h J<|wp 1 J<|wo J J<|wo J J<|wo J J<|wo J J<|wo J J<|wo J J<|wo J J<|wo J J<|Ak J J J J<|wp 1 J<|wo J J<|wo J J<|Ak J J J J<|wp 1 J<|wo J J<|wo J J<|Ak J J J J<|wp 1 J<|wo J J<|wo J J<|Ak J J J J<|An 1 J ?_
    exact jx (c false _ b a9 (ap.sel [] J)) J
    replace b:=BI aq b
    refine wo J aq<|Ak J J aq J<|wp 1 J<|wo J J<|wo J J<|wo J J<|wo J J<|wo J J<|wo J J<|Ak J J J J<|wp 1 J<|wo J J<|wo J J<|wo J J<|wo J J<|wo J J<|wo J J<|wo J J<|wo J J<|Ak J J J J<|wp 1 J<|wo J J<|wo J J<|Ak J J J J<|wp 1 J<|wo J J<|wo J J<|Ak J J J J<|wp 1 J<|wo J J<|wo J J<|Ak J J J J<|An 1 J ?_
    exact jx (c false _ b a9 (ap.sel [] J)) J
    replace b:=BI w b
    refine wo J w<|wo J w<|wo J w<|Ak J J w J<|wp 1 J<|wo J J<|Ak J J J J<|wp 1 J<|wo J J<|wo J J<|wo J J<|wo J J<|wo J J<|wo J J<|Ak J J J J<|wp 1 J<|wo J J<|wo J J<|wo J J<|wo J J<|wo J J<|wo J J<|wo J J<|wo J J<|Ak J J J J<|wp 1 J<|wo J J<|wo J J<|Ak J J J J<|wp 1 J<|wo J J<|wo J J<|Ak J J J J<|wp 1 J<|wo J J<|wo J J<|Ak J J J J<|An 1 J ?_
    exact jx (c false _ b c7 (bl.sel [] J)) J
    replace b:=BI v b
    refine wo J v<|wo J v<|wo J v<|Ak J J v J<|wp 1 J<|wo J J<|wo J J<|wo J J<|Ak J J J J<|wp 1 J<|wo J J<|Ak J J J J<|wp 1 J<|wo J J<|wo J J<|wo J J<|wo J J<|wo J J<|wo J J<|Ak J J J J<|wp 1 J<|wo J J<|wo J J<|wo J J<|wo J J<|wo J J<|wo J J<|wo J J<|wo J J<|Ak J J J J<|wp 1 J<|wo J J<|wo J J<|Ak J J J J<|wp 1 J<|wo J J<|wo J J<|Ak J J J J<|wp 1 J<|wo J J<|wo J J<|Ak J J J J<|An 1 J ?_
    exact jx (c false _ b a8 (al.sel [] J)) J
    replace b:=BI ao b
    refine wo J ao<|Ak J J ao J<|wp 1 J<|wo J J<|wo J J<|wo J J<|Ak J J J J<|wp 1 J<|wo J J<|wo J J<|wo J J<|Ak J J J J<|wp 1 J<|wo J J<|Ak J J J J<|wp 1 J<|wo J J<|wo J J<|wo J J<|wo J J<|wo J J<|wo J J<|Ak J J J J<|wp 1 J<|wo J J<|wo J J<|wo J J<|wo J J<|wo J J<|wo J J<|wo J J<|wo J J<|Ak J J J J<|wp 1 J<|wo J J<|wo J J<|Ak J J J J<|wp 1 J<|wo J J<|wo J J<|Ak J J J J<|wp 1 J<|wo J J<|wo J J<|Ak J J J J<|An 1 J ?_
    exact jx (c false _ b a8 (al.sel [] J)) J
    replace b:=BI an b
    refine wo J an<|Ak J J an J<|wp 1 J<|wo J J<|Ak J J J J<|wp 1 J<|wo J J<|wo J J<|wo J J<|Ak J J J J<|wp 1 J<|wo J J<|wo J J<|wo J J<|Ak J J J J<|wp 1 J<|wo J J<|Ak J J J J<|wp 1 J<|wo J J<|wo J J<|wo J J<|wo J J<|wo J J<|wo J J<|Ak J J J J<|wp 1 J<|wo J J<|wo J J<|wo J J<|wo J J<|wo J J<|wo J J<|wo J J<|wo J J<|Ak J J J J<|wp 1 J<|wo J J<|wo J J<|Ak J J J J<|wp 1 J<|wo J J<|wo J J<|Ak J J J J<|wp 1 J<|wo J J<|wo J J<|Ak J J J J<|An 1 J ?_
    exact jx (c false _ b a8 (al.sel [] J)) J
    replace b:=BI am b
    refine wo J am<|Ak J J am J<|wp 1 J<|wo J J<|Ak J J J J<|wp 1 J<|wo J J<|Ak J J J J<|wp 1 J<|wo J J<|wo J J<|wo J J<|Ak J J J J<|wp 1 J<|wo J J<|wo J J<|wo J J<|Ak J J J J<|wp 1 J<|wo J J<|Ak J J J J<|wp 1 J<|wo J J<|wo J J<|wo J J<|wo J J<|wo J J<|wo J J<|Ak J J J J<|wp 1 J<|wo J J<|wo J J<|wo J J<|wo J J<|wo J J<|wo J J<|wo J J<|wo J J<|Ak J J J J<|wp 1 J<|wo J J<|wo J J<|Ak J J J J<|wp 1 J<|wo J J<|wo J J<|Ak J J J J<|wp 1 J<|wo J J<|wo J J<|Ak J J J J<|An 1 J ?_
    exact jx (c false _ b a8 (al.sel [] J)) J
    replace b:=BI u b
    refine wo J u<|wo J u<|wo J u<|Ak J J u J<|wp 1 J<|wo J J<|Ak J J J J<|wp 1 J<|wo J J<|Ak J J J J<|wp 1 J<|wo J J<|Ak J J J J<|wp 1 J<|wo J J<|wo J J<|wo J J<|Ak J J J J<|wp 1 J<|wo J J<|wo J J<|wo J J<|Ak J J J J<|wp 1 J<|wo J J<|Ak J J J J<|wp 1 J<|wo J J<|wo J J<|wo J J<|wo J J<|wo J J<|wo J J<|Ak J J J J<|wp 1 J<|wo J J<|wo J J<|wo J J<|wo J J<|wo J J<|wo J J<|wo J J<|wo J J<|Ak J J J J<|wp 1 J<|wo J J<|wo J J<|Ak J J J J<|wp 1 J<|wo J J<|wo J J<|Ak J J J J<|wp 1 J<|wo J J<|wo J J<|Ak J J J J<|An 1 J ?_
    exact jx (c false _ b c6 (bk.sel [] J)) J
    replace b:=BI t b
    refine wo J t<|wo J t<|wo J t<|Ak J J t J<|wp 1 J<|wo J J<|wo J J<|wo J J<|Ak J J J J<|wp 1 J<|wo J J<|Ak J J J J<|wp 1 J<|wo J J<|Ak J J J J<|wp 1 J<|wo J J<|Ak J J J J<|wp 1 J<|wo J J<|wo J J<|wo J J<|Ak J J J J<|wp 1 J<|wo J J<|wo J J<|wo J J<|Ak J J J J<|wp 1 J<|wo J J<|Ak J J J J<|wp 1 J<|wo J J<|wo J J<|wo J J<|wo J J<|wo J J<|wo J J<|Ak J J J J<|wp 1 J<|wo J J<|wo J J<|wo J J<|wo J J<|wo J J<|wo J J<|wo J J<|wo J J<|Ak J J J J<|wp 1 J<|wo J J<|wo J J<|Ak J J J J<|wp 1 J<|wo J J<|wo J J<|Ak J J J J<|wp 1 J<|wo J J<|wo J J<|Ak J J J J<|An 1 J ?_
    exact jx (c false _ b a7 (ah.sel [] J)) J
    replace b:=BI ak b
    refine wo J ak<|Ak J J ak J<|wp 1 J<|wo J J<|wo J J<|wo J J<|Ak J J J J<|wp 1 J<|wo J J<|wo J J<|wo J J<|Ak J J J J<|wp 1 J<|wo J J<|Ak J J J J<|wp 1 J<|wo J J<|Ak J J J J<|wp 1 J<|wo J J<|Ak J J J J<|wp 1 J<|wo J J<|wo J J<|wo J J<|Ak J J J J<|wp 1 J<|wo J J<|wo J J<|wo J J<|Ak J J J J<|wp 1 J<|wo J J<|Ak J J J J<|wp 1 J<|wo J J<|wo J J<|wo J J<|wo J J<|wo J J<|wo J J<|Ak J J J J<|wp 1 J<|wo J J<|wo J J<|wo J J<|wo J J<|wo J J<|wo J J<|wo J J<|wo J J<|Ak J J J J<|wp 1 J<|wo J J<|wo J J<|Ak J J J J<|wp 1 J<|wo J J<|wo J J<|Ak J J J J<|wp 1 J<|wo J J<|wo J J<|Ak J J J J<|An 1 J ?_
    exact jx (c false _ b a7 (ah.sel [] J)) J
    replace b:=BI aj b
    refine wo J aj<|Ak J J aj J<|wp 1 J<|wo J J<|Ak J J J J<|wp 1 J<|wo J J<|wo J J<|wo J J<|Ak J J J J<|wp 1 J<|wo J J<|wo J J<|wo J J<|Ak J J J J<|wp 1 J<|wo J J<|Ak J J J J<|wp 1 J<|wo J J<|Ak J J J J<|wp 1 J<|wo J J<|Ak J J J J<|wp 1 J<|wo J J<|wo J J<|wo J J<|Ak J J J J<|wp 1 J<|wo J J<|wo J J<|wo J J<|Ak J J J J<|wp 1 J<|wo J J<|Ak J J J J<|wp 1 J<|wo J J<|wo J J<|wo J J<|wo J J<|wo J J<|wo J J<|Ak J J J J<|wp 1 J<|wo J J<|wo J J<|wo J J<|wo J J<|wo J J<|wo J J<|wo J J<|wo J J<|Ak J J J J<|wp 1 J<|wo J J<|wo J J<|Ak J J J J<|wp 1 J<|wo J J<|wo J J<|Ak J J J J<|wp 1 J<|wo J J<|wo J J<|Ak J J J J<|An 1 J ?_
    exact jx (c false _ b a7 (ah.sel [] J)) J
    replace b:=BI ai b
    refine wo J ai<|Ak J J ai J<|wp 1 J<|wo J J<|Ak J J J J<|wp 1 J<|wo J J<|Ak J J J J<|wp 1 J<|wo J J<|wo J J<|wo J J<|Ak J J J J<|wp 1 J<|wo J J<|wo J J<|wo J J<|Ak J J J J<|wp 1 J<|wo J J<|Ak J J J J<|wp 1 J<|wo J J<|Ak J J J J<|wp 1 J<|wo J J<|Ak J J J J<|wp 1 J<|wo J J<|wo J J<|wo J J<|Ak J J J J<|wp 1 J<|wo J J<|wo J J<|wo J J<|Ak J J J J<|wp 1 J<|wo J J<|Ak J J J J<|wp 1 J<|wo J J<|wo J J<|wo J J<|wo J J<|wo J J<|wo J J<|Ak J J J J<|wp 1 J<|wo J J<|wo J J<|wo J J<|wo J J<|wo J J<|wo J J<|wo J J<|wo J J<|Ak J J J J<|wp 1 J<|wo J J<|wo J J<|Ak J J J J<|wp 1 J<|wo J J<|wo J J<|Ak J J J J<|wp 1 J<|wo J J<|wo J J<|Ak J J J J<|An 1 J ?_
    exact jx (c false _ b a7 (ah.sel [] J)) J
    replace b:=BI s b
    refine wo J s<|wo J s<|wo J s<|Ak J J s J<|wp 1 J<|wo J J<|Ak J J J J<|wp 1 J<|wo J J<|Ak J J J J<|wp 1 J<|wo J J<|Ak J J J J<|wp 1 J<|wo J J<|wo J J<|wo J J<|Ak J J J J<|wp 1 J<|wo J J<|wo J J<|wo J J<|Ak J J J J<|wp 1 J<|wo J J<|Ak J J J J<|wp 1 J<|wo J J<|Ak J J J J<|wp 1 J<|wo J J<|Ak J J J J<|wp 1 J<|wo J J<|wo J J<|wo J J<|Ak J J J J<|wp 1 J<|wo J J<|wo J J<|wo J J<|Ak J J J J<|wp 1 J<|wo J J<|Ak J J J J<|wp 1 J<|wo J J<|wo J J<|wo J J<|wo J J<|wo J J<|wo J J<|Ak J J J J<|wp 1 J<|wo J J<|wo J J<|wo J J<|wo J J<|wo J J<|wo J J<|wo J J<|wo J J<|Ak J J J J<|wp 1 J<|wo J J<|wo J J<|Ak J J J J<|wp 1 J<|wo J J<|wo J J<|Ak J J J J<|wp 1 J<|wo J J<|wo J J<|Ak J J J J<|An 1 J ?_
    exact jx (c false _ b c5 (bj.sel [] J)) J
    replace b:=BI q b
    refine wo J q<|wo J q<|wo J q<|Ak J J q J<|wp 1 J<|wo J J<|wo J J<|wo J J<|Ak J J J J<|wp 1 J<|wo J J<|Ak J J J J<|wp 1 J<|wo J J<|Ak J J J J<|wp 1 J<|wo J J<|Ak J J J J<|wp 1 J<|wo J J<|wo J J<|wo J J<|Ak J J J J<|wp 1 J<|wo J J<|wo J J<|wo J J<|Ak J J J J<|wp 1 J<|wo J J<|Ak J J J J<|wp 1 J<|wo J J<|Ak J J J J<|wp 1 J<|wo J J<|Ak J J J J<|wp 1 J<|wo J J<|wo J J<|wo J J<|Ak J J J J<|wp 1 J<|wo J J<|wo J J<|wo J J<|Ak J J J J<|wp 1 J<|wo J J<|Ak J J J J<|wp 1 J<|wo J J<|wo J J<|wo J J<|wo J J<|wo J J<|wo J J<|Ak J J J J<|wp 1 J<|wo J J<|wo J J<|wo J J<|wo J J<|wo J J<|wo J J<|wo J J<|wo J J<|Ak J J J J<|wp 1 J<|wo J J<|wo J J<|Ak J J J J<|wp 1 J<|wo J J<|wo J J<|Ak J J J J<|wp 1 J<|wo J J<|wo J J<|Ak J J J J<|An 1 J ?_
    exact jx (c false _ b bh (ax.sel [] J)) J
    replace b:=BI ag b
    refine wo J ag<|Ak J J ag J<|wp 1 J<|wo J J<|wo J J<|wo J J<|Ak J J J J<|wp 1 J<|wo J J<|wo J J<|wo J J<|Ak J J J J<|wp 1 J<|wo J J<|Ak J J J J<|wp 1 J<|wo J J<|Ak J J J J<|wp 1 J<|wo J J<|Ak J J J J<|wp 1 J<|wo J J<|wo J J<|wo J J<|Ak J J J J<|wp 1 J<|wo J J<|wo J J<|wo J J<|Ak J J J J<|wp 1 J<|wo J J<|Ak J J J J<|wp 1 J<|wo J J<|Ak J J J J<|wp 1 J<|wo J J<|Ak J J J J<|wp 1 J<|wo J J<|wo J J<|wo J J<|Ak J J J J<|wp 1 J<|wo J J<|wo J J<|wo J J<|Ak J J J J<|wp 1 J<|wo J J<|Ak J J J J<|wp 1 J<|wo J J<|wo J J<|wo J J<|wo J J<|wo J J<|wo J J<|Ak J J J J<|wp 1 J<|wo J J<|wo J J<|wo J J<|wo J J<|wo J J<|wo J J<|wo J J<|wo J J<|Ak J J J J<|wp 1 J<|wo J J<|wo J J<|Ak J J J J<|wp 1 J<|wo J J<|wo J J<|Ak J J J J<|wp 1 J<|wo J J<|wo J J<|Ak J J J J<|An 1 J ?_
    exact jx (c false _ b bh (ax.sel [] J)) J
    replace b:=BI af b
    refine wo J af<|Ak J J af J<|wp 1 J<|wo J J<|Ak J J J J<|wp 1 J<|wo J J<|wo J J<|wo J J<|Ak J J J J<|wp 1 J<|wo J J<|wo J J<|wo J J<|Ak J J J J<|wp 1 J<|wo J J<|Ak J J J J<|wp 1 J<|wo J J<|Ak J J J J<|wp 1 J<|wo J J<|Ak J J J J<|wp 1 J<|wo J J<|wo J J<|wo J J<|Ak J J J J<|wp 1 J<|wo J J<|wo J J<|wo J J<|Ak J J J J<|wp 1 J<|wo J J<|Ak J J J J<|wp 1 J<|wo J J<|Ak J J J J<|wp 1 J<|wo J J<|Ak J J J J<|wp 1 J<|wo J J<|wo J J<|wo J J<|Ak J J J J<|wp 1 J<|wo J J<|wo J J<|wo J J<|Ak J J J J<|wp 1 J<|wo J J<|Ak J J J J<|wp 1 J<|wo J J<|wo J J<|wo J J<|wo J J<|wo J J<|wo J J<|Ak J J J J<|wp 1 J<|wo J J<|wo J J<|wo J J<|wo J J<|wo J J<|wo J J<|wo J J<|wo J J<|Ak J J J J<|wp 1 J<|wo J J<|wo J J<|Ak J J J J<|wp 1 J<|wo J J<|wo J J<|Ak J J J J<|wp 1 J<|wo J J<|wo J J<|Ak J J J J<|An 1 J ?_
    exact jx (c false _ b bh (ax.sel [] J)) J
  refine Am 1 J<|A3 J b (fun _ b=>?_)<|fun _ b=>?_
  refine Al fun _ hp=>?_
  refine wp 1 J<|bB b fun da hq b=>Bn J call11 bb cf (NL a3 (p.st bb) au.1 _ hq) J fun hr _ db hs=>wp 1 J<|bB b fun ht hu b=>Bn J call11 db hs (NL hr (p.st db) a0.1 _ hu) J fun iq _ dc dd=>An 2 J<|hp<|Ao fun hv hw=>?_
  obtain ⟨hx,hy,b⟩:=Cb b
  have de:∀(b6:Bool)(bm:Af)(_:hx b6=some r)(_:Bl f bm)(_:Sp f bm [Ab As ar l o.1]),∀ a,St 293 [(5,.string (AL g)),(6,.string (AL ba)),(9,.bool az.2),(10,l),(125,.bool b6)] a→hv a bm:=by
   intro b6 bm b df hz
   subst hy
   refine hw<|A3 J b (fun _ b=>?_)<|fun _ b=>?_
   refine Am 1 J ?_
   refine Aw<|rt hQ J J<|by cases b; exact ⟨rfl,df⟩
   refine Au ?_
   exact jx (cg _ b df (hz.sel [0] J)) J
  refine Aq<|wp 1 J<|Dl underlying9 J J<|wp 1 J<|Dl underlying9 J J<|wp 2 J ?_
  rcases bE (decide ((List.length ht:Int)<(List.length da:Int))) with j|j
  replace b:=Bw j b
  refine wo J j<|wo J j<|wo J j<|wo J j<|wo J j<|wo J j<|A8 J J j J<|Ai ?_
  exact jx (de true _ b dc (dd.sel [0] J)) J
  replace b:=BI j b
  refine wn J j<|wp 1 J<|wn J j<|wp 1 J<|wn J j<|Dl underlying9 J J<|wn J j<|bB b fun h0 h1 b=>I2 underlying9 J J h1 (.inl ⟨rfl,rfl⟩) (.inr ⟨_,_,rfl,rfl⟩)<|wn J j<|wp 1 J<|wn J j<|Qe J J J<|Ak J J j J<|Ai ?_
  exact jx (de (h0 != da) _ b dc (dd.sel [0] J)) J
  refine Au ?_
  exact jx (cg _ b bb (cf.sel [0] J)) J
 refine Aq<|wp 2 J<|Qe J J J<|wp 1 J ?_
 rcases bE (ba != du) with x|x
 replace b:=Bw x b
 refine wo J x<|wo J x<|wo J x<|A8 J J x J<|wp 1 J<|wo J J<|wo J J<|wo J J<|wo J J<|A8 J J J J<|wp 1 J<|wo J J<|wo J J<|wo J J<|A8 J J J J<|wp 1 J<|wo J J<|wo J J<|wo J J<|A8 J J J J<|Ai ?_
 exact jx (a2 true _ b bs (a1.sel [0] J)) J
 replace b:=BI x b
 refine wn J x<|wp 1 J<|wn J x<|wp 1 J<|wn J x<|ZS underlying4 J J J<|Ak J J x J<|wp 1 J ?_
 rcases bE (az.2 != o.2) with n|n
 replace b:=Bw n b
 refine wo J n<|wo J n<|wo J n<|wo J n<|A8 J J n J<|wp 1 J<|wo J J<|wo J J<|wo J J<|A8 J J J J<|wp 1 J<|wo J J<|wo J J<|wo J J<|A8 J J J J<|Ai ?_
 exact jx (a2 true _ b bs (a1.sel [0] J)) J
 replace b:=BI n b
 refine wn J n<|wp 1 J<|wn J n<|wp 1 J<|wn J n<|bB b fun h2 h3 b=>Bn J call38 bs a1 (Z0 ek az.1 d0 (a1.own_ro (i:=1) J) o.1 l (a1.own_ro (i:=0) J) _ h3) J fun ir _ b7 b8=>wn J n<|wp 1 J<|Ak J J n J<|wp 1 J ?_
 rcases bE (!h2) with y|y
 replace b:=Bw y b
 refine wo J y<|wo J y<|wo J y<|A8 J J y J<|wp 1 J<|wo J J<|wo J J<|wo J J<|A8 J J J J<|Ai ?_
 exact jx (a2 true _ b b7 (b8.sel [0] J)) J
 replace b:=BI y b
 refine wn J y<|wp 1 J<|wn J y<|wp 1 J<|wn J y<|ZS underlying4 J J J<|Ak J J y J<|wp 1 J ?_
 rcases bE (a0.2 != ce.2) with z|z
 replace b:=Bw z b
 refine wo J z<|wo J z<|wo J z<|A8 J J z J<|Ai ?_
 exact jx (a2 true _ b b7 (b8.sel [0] J)) J
 replace b:=BI z b
 refine wn J z<|wp 1 J<|wn J z<|wp 1 J<|wn J z<|Qe J J J<|Ak J J z J<|Ai ?_
 exact jx (a2 (a0.1 != ce.1) _ b b7 (b8.sel [0] J)) J
end Go.Proofs.YtellehgihceicaaGreatDoor
