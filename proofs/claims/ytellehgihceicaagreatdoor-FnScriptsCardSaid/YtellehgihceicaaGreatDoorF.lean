/-
 THE FUNCTIONS of this seat as plain functions, by program (gen.py).
-/
import Derived.Test.YtellehgihceicaaGreatDoorCore20
import Derived.Test.YtellehgihceicaaGreatDoorLibF
set_option linter.unusedVariables false
set_option linter.unusedSimpArgs false
set_option maxRecDepth 100000
set_option maxHeartbeats 1600000
namespace Go.Proofs.YtellehgihceicaaGreatDoor
open Go
def Lv(x y:(Int×Int)):Bool:=(x.1==y.1)&&(x.2==y.2)
def MG(x y:(Int×Int)):Bool:=(x.1==y.1)&&(x.2==y.2)
def MF(x y:(Int×Int×Int)):Bool:=(x.1==y.1)&&(x.2.1==y.2.1)&&(x.2.2==y.2.2)
def Mw : Ae (Akg×Akg×Int×Akg×Akh×Akj×(List Int)×(List Int)×Int) :=
 some ([(0,0)],[(0,0)],8,[(4,120)],[],[((-1),0,0)],[],[],0)
def DN(a:(List Ag))(e:Int):Nat→(List (List Ag))→Int→Int→Ae (List (List Ag))
 | 0,_,_,_=>none
 | m+1,c,d,b=>(if (decide (b<(a.length:Int)))=true then Fx (fun (g:(List (List Ag))) (h:Int)=>(DN a e m) (g) (h) ((Ah (b+1)))) (fun f=>(AG a b).bind fun i =>
 (if ((UInt8.toNat i:Int)==e)=true then (sl a d b).bind fun j =>
 (BB c [j]).bind fun k =>
 f (k) ((Ah (b+1))) else f (c) (d))) else (sl a d (a.length:Int)).bind fun l =>
 (BB c [l]).bind fun n =>
 some n)
def E3(a:(List Ag))(b:Int):Ae (List (List Ag)) :=
 DN a b FU ([]) (0) (0)
def FE(a:(List Ag)):Ae ((List (List Ag))×Bool) :=
 Bf (fun (e:Bool)=>(if e=true then some ([],false) else (E3 a 10).bind fun c =>
 (sl c 0 (Ah ((c.length:Int)-1))).bind fun d =>
 (if (decide (40<(d.length:Int)))=true then some ([],false) else some (d,true)))) (fun b=>(if (decide (2000<(a.length:Int)))=true then b (true) else (if (a != [])=true then (AG a (Ah ((a.length:Int)-1))).bind fun f =>
 b (((UInt8.toNat f:Int) != 10)) else b (false))))
def Hp(a:(List Ag)):Ae Int :=
 Bf (fun (f:Bool)=>(if f=true then some 0 else Bf (fun (g:Bool)=>(if g=true then some 1 else Bf (fun (h:Bool)=>(if h=true then some 2 else Bf (fun (i:Bool)=>(if i=true then some 3 else (if (a==[99,97,114,114,121])=true then some 4 else some (-1)))) (fun e=>(if (a==[112,108,97,99,101])=true then e ((a==[112,108,97,99,101])) else e ((a==[118,101,114,115,105,111,110])))))) (fun c=>(if (a==[115,112,111,116])=true then c ((a==[115,112,111,116])) else (if (a==[115,111,117,110,100])=true then c ((a==[115,111,117,110,100])) else (if (a==[109,101,97,115,117,114,101])=true then c ((a==[109,101,97,115,117,114,101])) else c ((a==[119,104,111])))))))) (fun b=>(if (a==[99,111,117,110,116,115])=true then b ((a==[99,111,117,110,116,115])) else (if (a==[99,108,111,115,101])=true then b ((a==[99,108,111,115,101])) else (if (a==[107,105,110,100])=true then b ((a==[107,105,110,100])) else (if (a==[116,101,120,116])=true then b ((a==[116,101,120,116])) else (if (a==[116,105,109,101])=true then b ((a==[116,105,109,101])) else b ((a==[115,116,97,116,101])))))))))) (fun d=>(if (a==[109,105,114,114,111,114])=true then d ((a==[109,105,114,114,111,114])) else (if (a==[107,101,101,112])=true then d ((a==[107,101,101,112])) else (if (a==[115,117,109])=true then d ((a==[115,117,109])) else d ((a==[108,101,97,115,116]))))))
def Ca(a c d:Int):Ae Bool :=
 Bf (fun (e:Bool)=>some e) (fun b=>(if (decide (c≤a))=true then b ((decide (a≤d))) else b (false)))
def Gt(a:(List Ag)):Nat→Int→Int→Ae Int
 | 0,_,_=>none
 | m+1,c,b=>(if (decide (b<(a.length:Int)))=true then Bf (fun (e:Bool)=>(if e=true then some (-1) else (AG a b).bind fun f =>
 (Gt a m) ((Ah ((Ah (10*c))+(Ah (NP ((UInt8.toNat f:Int)-48)))))) ((Ah (b+1))))) (fun d=>(AG a b).bind fun g =>
 (if (decide ((UInt8.toNat g:Int)<48))=true then d (true) else (AG a b).bind fun h =>
 d ((decide (57<(UInt8.toNat h:Int)))))) else some c)
def L6(a:(List Ag)):Ae Int :=
 Bf (fun (c:Bool)=>(if c=true then some (-1) else Gt a FU (0) (0))) (fun b=>(Ca (a.length:Int) 1 6).bind fun d =>
 (if (!d)=true then b (true) else (AG a 0).bind fun e =>
 (if ((UInt8.toNat e:Int)==48)=true then b ((decide (1<(a.length:Int)))) else b (false))))
def GX(a:Akg):Ae Akg :=
 (BB [] a).bind fun b =>
 some b
def IZ(a:(Int×Int)):Ae Bool :=
 Bf (fun (c:Bool)=>some c) (fun b=>(Ca a.1 0 1280).bind fun d =>
 (if d=true then (Ca a.2 0 672).bind fun e =>
 b (e) else b (false)))
def Gu(a:Akg)(c:(Int×Int))(d:(Int→Ae Bool))(e:Int):Nat→Int→Ae Bool
 | 0,_=>none
 | m+1,b=>(if (decide (b<(a.length:Int)))=true then (AG a b).bind fun f =>
 (if (Lv c f)=true then some false else (Gu a c d e m) ((Ah (b+1)))) else d ((Ah (e+1))))
def EG(a:Akg):Nat→Int→Ae Bool
 | 0,_=>none
 | m+1,b=>(if (decide (b<(a.length:Int)))=true then (AG a b).bind fun c =>
 (IZ c).bind fun d =>
 (if (!d)=true then some false else (sl a 0 b).bind fun e =>
 Gu e c (EG a m) b FU (0)) else (Ca (a.length:Int) 1 12).bind fun f =>
 some f)
def G3(a:Akg):Ae Bool :=
 EG a FU (0)
def Ft(a:(Akg×Akg×Int×Akg×Akh×Akj×(List Int)×(List Int)×Int))(d:Akg)(b:Bool):Ae (Bool×(Akg×Akg×Int×Akg×Akh×Akj×(List Int)×(List Int)×Int)) :=
 Bf (fun (e:(Akg×Akg×Int×Akg×Akh×Akj×(List Int)×(List Int)×Int))=>some (b,e)) (fun c=>(if b=true then c ((d,a.2.1,a.2.2.1,a.2.2.2.1,a.2.2.2.2.1,a.2.2.2.2.2.1,a.2.2.2.2.2.2.1,a.2.2.2.2.2.2.2.1,a.2.2.2.2.2.2.2.2)) else c (a)))
def NG(a:Akg)(c:Int):Ae Bool :=
 Bf (fun (d:Bool)=>some d) (fun b=>(G3 a).bind fun e =>
 (if e=true then (Ca c 0 (Ah ((a.length:Int)-1))).bind fun f =>
 b (f) else b (false)))
def HO(a:Akg):Ae (Akg×Bool) :=
 (G3 a).bind fun b =>
 (if (!b)=true then some ([],false) else some (a,true))
def Hs(b:Akg)(a:Int)(d:(Int×Int)):Ae (Akg×Bool) :=
 (NG b a).bind fun e =>
 (if (!e)=true then some ([],false) else (GX b).bind fun c =>
 (AG c a).bind fun g =>
 (HO (BL c a d)).bind fun f =>
 some f)
def LT(a:(Int×Int)):Ae (Int×Int) :=
 some ((Ah (1280-a.1)),a.2)
def En(a:Akg):Nat→Akg→Int→Ae (Akg×Bool)
 | 0,_,_=>none
 | m+1,c,b=>(if (decide (b<(a.length:Int)))=true then (AG a b).bind fun d =>
 (LT d).bind fun e =>
 (BB c [e]).bind fun f =>
 (En a m) (f) ((Ah (b+1))) else some (c,true))
def IA(a:Akg):Ae (Akg×Bool) :=
 (G3 a).bind fun b =>
 (if (!b)=true then some ([],false) else En a FU ([]) (0))
def JG(a:(Int×Int)):Ae Bool :=
 Bf (fun (c:Bool)=>some c) (fun b=>(Ca a.1 1 12).bind fun d =>
 (if d=true then (Ca a.2 40 220).bind fun e =>
 b (e) else b (false)))
def Gr(a:Akg):Nat→Int→Ae Bool
 | 0,_=>none
 | m+1,b=>(if (decide (b<(a.length:Int)))=true then (AG a b).bind fun c =>
 (JG c).bind fun d =>
 (if (!d)=true then some false else (Gr a m) ((Ah (b+1)))) else (Ca (a.length:Int) 1 40).bind fun e =>
 some e)
def Kf(a:Akg):Ae Bool :=
 Gr a FU (0)
def IQ(a b:(Int×Int×Int×Int)):Ae Bool :=
 Bf (fun (d:Bool)=>some d) (fun c=>(if (decide (a.2.2.1<b.2.2.1))=true then c (true) else (if (a.2.2.1==b.2.2.1)=true then c ((decide (a.2.1<b.2.1))) else c (false))))
def K0(a:Int):Ae Bool :=
 (Ca a 1 12).bind fun b =>
 some b
def Kj(a:Int):Ae Bool :=
 (Ca a 1 9).bind fun b =>
 some b
def Fv(c:Akh)(a:(Int×Int×Int×Int))(f:(Int→Ae Bool))(g:Int):Nat→Int→Ae Bool
 | 0,_=>none
 | m+1,d=>(if (decide (d<(c.length:Int)))=true then (AG c d).bind fun b =>
 Bf (fun (h:Bool)=>(if h=true then some false else (Fv c a f g m) ((Ah (d+1))))) (fun e=>(if (b.2.1==a.2.1)=true then e ((decide (a.2.2.1<b.2.2.2))) else (if (b.1==a.1)=true then e ((decide (a.2.2.1<b.2.2.2))) else e (false)))) else f ((Ah (g+1))))
def DG(b:Akh):Nat→Int→Ae Bool
 | 0,_=>none
 | m+1,c=>(if (decide (c<(b.length:Int)))=true then (AG b c).bind fun a =>
 Bf (fun (e:Bool)=>(if e=true then some false else (sl b 0 c).bind fun f =>
 Fv f a (DG b m) c FU (0))) (fun d=>(K0 a.1).bind fun g =>
 (if (!g)=true then d (true) else (Kj a.2.1).bind fun h =>
 (if (!h)=true then d (true) else (Ca a.2.2.1 0 999).bind fun i =>
 (if (!i)=true then d (true) else (Ca a.2.2.2 (Ah (a.2.2.1+1)) 1000).bind fun j =>
 (if (!j)=true then d (true) else (if (decide (0<c))=true then (AG b (Ah (c-1))).bind fun k =>
 (IQ k a).bind fun l =>
 d ((!l)) else d (false))))))) else some (decide ((b.length:Int)≤40)))
def Kk(a:Akh):Ae Bool :=
 DG a FU (0)
def Gv(a:Akh)(c:(Int×Int×Int×Int))(d:(Akh→Ae (Akh×Bool))):Nat→Int→Ae (Akh×Bool)
 | 0,_=>none
 | m+1,b=>Bf (fun (f:Bool)=>(if f=true then (Gv a c d m) ((Ah (b-1))) else (sl a 0 b).bind fun u64 =>
 (sl a b (a.length:Int)).bind fun g =>
 (BB [] u64).bind fun h =>
 (BB h [c]).bind fun i =>
 (BB i g).bind fun j =>
 d (j))) (fun e=>(if (decide (0<b))=true then (AG a (Ah (b-1))).bind fun k =>
 (IQ c k).bind fun l =>
 e (l) else e (false)))
def Fu(b:Akh):Nat→Akh→Int→Ae (Akh×Bool)
 | 0,_,_=>none
 | m+1,a,c=>(if (decide (c<(b.length:Int)))=true then Bf (fun (d:Akh)=>(Fu b m) (d) ((Ah (c+1)))) (fun e=>(AG b c).bind fun f =>
 Gv a f e FU ((a.length:Int))) else (Kk a).bind fun g =>
 (if (!g)=true then some ([],false) else some (a,true)))
def Ki(a:Akh):Ae (Akh×Bool) :=
 Fu a FU ([]) (0)
def Gp(d:Akj):Nat→Int→Ae Bool
 | 0,_=>none
 | m+1,c=>(if (decide (c<(d.length:Int)))=true then (AG d c).bind fun a =>
 Bf (fun (e:Bool)=>(if e=true then some false else (Gp d m) ((Ah (c+1))))) (fun b=>(Ca a.1 0 (Ah (c-1))).bind fun f =>
 (if (!f)=true then (if (decide (0<c))=true then b (true) else (if (a.1 != (-1))=true then b (true) else (Ca a.2.1 0 7).bind fun g =>
 (if (!g)=true then b (true) else (Ca a.2.2 0 999).bind fun h =>
 b ((!h))))) else (Ca a.2.1 0 7).bind fun i =>
 (if (!i)=true then b (true) else (Ca a.2.2 0 999).bind fun j =>
 b ((!j))))) else (Ca (d.length:Int) 1 60).bind fun k =>
 some k)
def IY(a:Akj):Ae Bool :=
 Gp a FU (0)
def Jj(a:Akj)(d:(Int×Int×Int)):Ae (Akj×Bool) :=
 Bf (fun (b:Akj)=>Bf (fun (e:Bool)=>(if e=true then some ([],false) else some (b,true))) (fun c=>(IY a).bind fun f =>
 (if (!f)=true then c (true) else (IY b).bind fun g =>
 c ((!g))))) (fun h=>(BB [] a).bind fun i =>
 (BB i [d]).bind fun j =>
 h (j))
def CB(a:(Akg×Akg×Int×Akg×Akh×Akj×(List Int)×(List Int)×Int))(f:(List Ag))(b:(List Int)):Ae (Bool×(Akg×Akg×Int×Akg×Akh×Akj×(List Int)×(List Int)×Int)) :=
 Fx (fun (s:(Akg×Akg×Int×Akg×Akh×Akj×(List Int)×(List Int)×Int)) (t:Bool)=>some (t,s)) (fun c=>(if (f==[115,112,111,116])=true then (AG b 0).bind fun u =>
 (AG b 1).bind fun v =>
 (GX a.1).bind fun w =>
 (BB w [(u,v)]).bind fun x =>
 (HO x).bind fun k =>
 (Ft a k.1 k.2).bind fun l =>
 c (l.2) (l.1) else (if (f==[112,108,97,99,101])=true then (AG b 0).bind fun y =>
 (AG b 1).bind fun z =>
 (AG b 2).bind fun aa =>
 (Hs a.1 y (z,aa)).bind fun m =>
 (Ft a m.1 m.2).bind fun n =>
 c (n.2) (n.1) else (if (f==[109,105,114,114,111,114])=true then (IA a.1).bind fun o =>
 (Ft a o.1 o.2).bind fun p =>
 c (p.2) (p.1) else (if (f==[107,101,101,112])=true then (GX a.1).bind fun ab =>
 c ((a.1,ab,a.2.2.1,a.2.2.2.1,a.2.2.2.2.1,a.2.2.2.2.2.1,a.2.2.2.2.2.2.1,a.2.2.2.2.2.2.2.1,a.2.2.2.2.2.2.2.2)) (true) else (if (f==[99,111,117,110,116,115])=true then (AG b 0).bind fun ac =>
 (Ca ac 1 64).bind fun h =>
 (if h=true then (AG b 0).bind fun ad =>
 c ((a.1,a.2.1,ad,a.2.2.2.1,a.2.2.2.2.1,a.2.2.2.2.2.1,a.2.2.2.2.2.2.1,a.2.2.2.2.2.2.2.1,a.2.2.2.2.2.2.2.2)) (h) else c (a) (h)) else (if (f==[109,101,97,115,117,114,101])=true then Fx (fun (d:(Akg×Akg×Int×Akg×Akh×Akj×(List Int)×(List Int)×Int)) (q:Akg)=>(Kf q).bind fun i =>
 (if i=true then c ((d.1,d.2.1,d.2.2.1,q,d.2.2.2.2.1,d.2.2.2.2.2.1,d.2.2.2.2.2.2.1,d.2.2.2.2.2.2.2.1,d.2.2.2.2.2.2.2.2)) (i) else c (d) (i))) (fun ae=>(AG b 0).bind fun af =>
 (AG b 1).bind fun ag =>
 (BB [] a.2.2.2.1).bind fun ah =>
 (BB ah [(af,ag)]).bind fun ai =>
 ae (a) (ai)) else (if (f==[99,97,114,114,121])=true then Sa (fun (e:(Akg×Akg×Int×Akg×Akh×Akj×(List Int)×(List Int)×Int)) (aj:Akh) (j:Bool)=>(if j=true then c ((e.1,e.2.1,e.2.2.1,e.2.2.2.1,aj,e.2.2.2.2.2.1,e.2.2.2.2.2.2.1,e.2.2.2.2.2.2.2.1,e.2.2.2.2.2.2.2.2)) (j) else c (e) (j))) (fun ak=>(AG b 0).bind fun al =>
 (AG b 1).bind fun am =>
 (AG b 2).bind fun an =>
 (AG b 3).bind fun ao =>
 (BB [] a.2.2.2.2.1).bind fun ap =>
 (BB ap [(al,am,an,ao)]).bind fun aq =>
 (Ki aq).bind fun r =>
 ak (a) (r.1) (r.2)) else (if (f==[118,101,114,115,105,111,110])=true then (AG b 0).bind fun ar =>
 (AG b 1).bind fun au =>
 (AG b 2).bind fun av =>
 (Jj a.2.2.2.2.2.1 (ar,au,av)).bind fun g =>
 (if g.2=true then c ((a.1,a.2.1,a.2.2.1,a.2.2.2.1,a.2.2.2.2.1,g.1,a.2.2.2.2.2.2.1,a.2.2.2.2.2.2.2.1,a.2.2.2.2.2.2.2.2)) (g.2) else c (a) (g.2)) else c (a) (true))))))))))
def Kg(a:Bool):Ae (List Ag) :=
 (if (!a)=true then some ([110,111]) else some ([111,107]))
def Kh(b c:Akg):Ae Bool :=
 Bf (fun (d:Bool)=>some d) (fun a=>(G3 b).bind fun e =>
 (if e=true then (G3 c).bind fun f =>
 (if f=true then a (((b.length:Int)==(c.length:Int))) else a (false)) else a (false)))
def J8(b c:Akg)(d:Int):Ae Bool :=
 Bf (fun (e:Bool)=>some e) (fun a=>(Kh b c).bind fun f =>
 (if f=true then (Ca d 1 64).bind fun g =>
 a (g) else a (false)))
def HA(a b:(Int×Int)):Ae Int :=
 some (Ah ((Ah ((Ah (a.1-b.1))*(Ah (a.1-b.1))))+(Ah ((Ah (a.2-b.2))*(Ah (a.2-b.2))))))
def FT(a:Akg)(c:(Int×Int))(d:Akl)(e:(Akl→Int→Ae Akl))(f:Int):Nat→(List Int)→Int→Ae Akl
 | 0,_,_=>none
 | m+1,g,b=>(if (decide (b<(a.length:Int)))=true then (AG a b).bind fun h =>
 (HA c h).bind fun u64 =>
 (BB g [u64]).bind fun i =>
 (FT a c d e f m) (i) ((Ah (b+1))) else (BB d [g]).bind fun j =>
 e (j) ((Ah (f+1))))
def EU(a c:Akg):Nat→Akl→Int→Ae Akl
 | 0,_,_=>none
 | m+1,d,b=>(if (decide (b<(a.length:Int)))=true then (AG a b).bind fun e =>
 FT c e d (EU a c m) b FU ([]) (0) else some d)
def Ld(a b:Akg):Ae Akl :=
 EU a b FU ([]) (0)
def FD(a b:Int):Ae Int :=
 (if (decide (a<b))=true then some a else some b)
def DM(d:(List Int))(a:Int)(e:((List Int)→Int→Ae (List Int))):Nat→(List Int)→Int→Ae (List Int)
 | 0,_,_=>none
 | m+1,b,c=>(if (decide (c<(d.length:Int)))=true then Bf (fun (g:(List Int))=>(DM d a e m) (g) ((Ah (c+1)))) (fun f=>(AG d c).bind fun h =>
 (if (decide (0≤(Bi c)))=true then (if ((B8 .i64 (Bu .i64 a (Bi c)) 1)==1)=true then (AG b a).bind fun i =>
 (AG b (Up .i64 a (LL .i64 1 (Bi c)))).bind fun j =>
 (FD i (Ah (h+j))).bind fun k =>
 (AG b a).bind fun l =>
 f ((BL b a k)) else f (b)) else none)) else e (b) ((Ah (a+1))))
def ET(b:Akl)(a:Int)(d:(List Int))(e:((List Int)→Int→Ae (List Int))):Nat→Int→Int→Ae (List Int)
 | 0,_,_=>none
 | m+1,f,c=>(if (decide (c<(b.length:Int)))=true then (if (decide (0≤(Bi c)))=true then (ET b a d e m) ((Ah (f+(B8 .i64 (Bu .i64 a (Bi c)) 1)))) ((Ah (c+1))) else none) else (AG d a).bind fun h =>
 (AG b (Ah ((b.length:Int)-f))).bind fun g =>
 DM g a e FU ((BL d a 1000000000)) (0))
def FN(a:Akl):Nat→(List Int)→Int→Ae (List Int)
 | 0,_,_=>none
 | m+1,b,c=>(if (decide (c<(LL .i64 1 (Bi (a.length:Int)))))=true then ET a c b (FN a m) FU (0) (0) else some b)
def KY(a:Akl):Ae (List Int) :=
 (if (decide (0≤(Bi (a.length:Int))))=true then (Uh (LL .i64 1 (Bi (a.length:Int))) 0).bind fun b =>
 FN a FU (b) (1) else none)
def FO(d:(List Int))(b:Int)(e g:(List Int))(h:(Int→(List Int)→Int→Ae Akn))(i:Int):Nat→Int→Int→Ae Akn
 | 0,_,_=>none
 | m+1,c,a=>(if (decide (a<(d.length:Int)))=true then Bf (fun (k:Int)=>(FO d b e g h i m) (k) ((Ah (a+1)))) (fun j=>(AG d a).bind fun l =>
 Bf (fun (n:Bool)=>(if n=true then j (a) else j (c))) (fun f=>(if (decide (c<0))=true then (if (decide (0≤(Bi a)))=true then (if ((B8 .i64 (Bu .i64 b (Bi a)) 1)==1)=true then (AG e b).bind fun o =>
 (AG e (Up .i64 b (LL .i64 1 (Bi a)))).bind fun p =>
 f (((Ah (l+p))==o)) else f (false)) else none) else f (false)))) else (BB g [c]).bind fun q =>
 (if (decide (0≤(Bi c)))=true then h ((Up .i64 b (LL .i64 1 (Bi c)))) (q) ((Ah (i+1))) else none))
def Ez(b:Akl)(a:(List Int)):Nat→Int→(List Int)→Int→Ae Akn
 | 0,_,_,_=>none
 | m+1,e,d,c=>(if (decide (c<(b.length:Int)))=true then (AG b c).bind fun f =>
 FO f e a d (Ez b a m) c FU ((-1)) (0) else (AG a (Ah ((a.length:Int)-1))).bind fun g =>
 some (d,g))
def KZ(a:Akl):Ae Akn :=
 (KY a).bind fun b =>
 Ez a b FU ((Ah ((b.length:Int)-1))) ([]) (0)
def JH(a:(List Int)):Ae (List Int) :=
 (BB [] a).bind fun b =>
 some b
def Ja(a b:Akg)(c:Int)(d:(List Int)):Ae (Akg×Akg×Int×(List Int)) :=
 (GX a).bind fun u8 =>
 (GX b).bind fun e =>
 (JH d).bind fun f =>
 some (u8,e,c,f)
def GZ(a b:Akg)(c:Int):Ae ((Akg×Akg×Int×(List Int))×Bool) :=
 (J8 a b c).bind fun d =>
 (if (!d)=true then some (([],[],0,[]),false) else (Ld a b).bind fun e =>
 (KZ e).bind fun f =>
 (Ja a b c f.1).bind fun g =>
 some (g,true))
def GM(a:(List Int))(c:Int):Nat→Int→Ae Bool
 | 0,_=>none
 | m+1,b=>(if (decide (b<(a.length:Int)))=true then (AG a b).bind fun d =>
 (if (d==c)=true then some true else (GM a c m) ((Ah (b+1)))) else some false)
def Mj(a:(List Int))(b:Int):Ae Bool :=
 GM a b FU (0)
def Fl(a:(List Int))(c:Int):Nat→Int→Ae Bool
 | 0,_=>none
 | m+1,b=>(if (decide (b<(a.length:Int)))=true then (AG a b).bind fun d =>
 Bf (fun (f:Bool)=>(if f=true then some false else (Fl a c m) ((Ah (b+1))))) (fun e=>(Ca d 0 (Ah (c-1))).bind fun g =>
 (if (!g)=true then e (true) else (sl a 0 b).bind fun h =>
 (Mj h d).bind fun i =>
 e (i))) else some ((a.length:Int)==c))
def Ky(a:(List Int))(b:Int):Ae Bool :=
 Fl a b FU (0)
def Jb(a:(Akg×Akg×Int×(List Int))):Ae Bool :=
 Bf (fun (c:Bool)=>some c) (fun b=>(Kh a.1 a.2.1).bind fun d =>
 (if d=true then (Ca a.2.2.1 1 64).bind fun e =>
 (if e=true then (Ky a.2.2.2 (a.1.length:Int)).bind fun f =>
 b (f) else b (false)) else b (false)))
def FSx(a:(Akg×Akg×Int×(List Int))):Nat→(List Aki)→Int→Ae (List Aki)
 | 0,_,_=>none
 | m+1,c,b=>(if (decide (b<(a.2.2.2.length:Int)))=true then (AG a.2.2.2 b).bind fun d =>
 (AG a.1 b).bind fun e =>
 (AG a.2.1 d).bind fun f =>
 (BB c [(e,f,a.2.2.1)]).bind fun g =>
 (FSx a m) (g) ((Ah (b+1))) else some c)
def Hr(a:(Akg×Akg×Int×(List Int))):Ae (List Aki) :=
 FSx a FU ([]) (0)
def GO(a:(List Aki)):Nat→Int→Int→Ae Int
 | 0,_,_=>none
 | m+1,c,b=>(if (decide (b<(a.length:Int)))=true then (AG a b).bind fun d =>
 (HA d.1 d.2.1).bind fun e =>
 (GO a m) ((Ah (c+e))) ((Ah (b+1))) else some c)
def Mk(a:(Akg×Akg×Int×(List Int))):Ae Int :=
 (Hr a).bind fun b =>
 GO b FU (0) (0)
def Ir(a:(Akg×Akg×Int×(List Int))):Ae (Int×Bool) :=
 (Jb a).bind fun b =>
 (if (!b)=true then some (0,false) else (Mk a).bind fun c =>
 some (c,true))
def G7:Nat→Int→Ae (List Ag)
 | 0,_=>none
 | m+1,a=>(if (decide (a<10))=true then some (LJ [(NP (Ah (48+a)))]) else Bf (fun (b:(List Ag))=>some b) (fun c=>(G7 m (Ah (Int.tdiv a 10))).bind fun d =>
 (BB d (LJ [(NP (Ah (48+(Int.tmod a 10))))])).bind fun e =>
 c (e)))
def CL(a:Int):Ae (List Ag) :=
 G7 FU a
def NE(a:Int):Ae (List Ag) :=
 (if (decide (a<0))=true then (CL (Ah (0-a))).bind fun b =>
 (BB [45] b).bind fun c =>
 some c else (CL a).bind fun d =>
 some d)
def Ge(a:Int)(b:Bool):Ae (List Ag) :=
 (if (!b)=true then some ([110,111]) else (NE a).bind fun c =>
 some c)
def Du(a c:Akg)(d:Int):Nat→(List Int)→Int→Ae ((Akg×Akg×Int×(List Int))×Bool)
 | 0,_,_=>none
 | m+1,e,b=>(if (decide (b<(a.length:Int)))=true then (BB e [b]).bind fun f =>
 (Du a c d m) (f) ((Ah (b+1))) else (Ja a c d e).bind fun g =>
 some (g,true))
def GY(a b:Akg)(c:Int):Ae ((Akg×Akg×Int×(List Int))×Bool) :=
 (J8 a b c).bind fun d =>
 (if (!d)=true then some (([],[],0,[]),false) else Du a b c FU ([]) (0))
def Fp(a:(Akg×Akg×Int×Akg×Akh×Akj×(List Int)×(List Int)×Int)):Ae ((Akg×Akg×Int×(List Int))×Bool) :=
 (GY a.2.1 a.1 a.2.2.1).bind fun b =>
 some b
def HP(a:Int):Ae Bool :=
 (Ca a 0 80).bind fun b =>
 some b
def Mx(b:(Akg×Akg×Int×(List Int)))(c:Int):Ae Bool :=
 Bf (fun (d:Bool)=>some d) (fun a=>(Jb b).bind fun e =>
 (if e=true then (HP c).bind fun f =>
 a (f) else a (false)))
def LA(a b:Aki):Ae (Int×Int×Int×Int) :=
 some ((Ah (a.1.1-b.1.1)),(Ah (a.1.2-b.1.2)),(Ah (a.2.1.1-b.2.1.1)),(Ah (a.2.1.2-b.2.1.2)))
def Mz(c d:Aki):Ae (Int×Int) :=
 (LA c d).bind fun a =>
 Bf (fun (e:Bool)=>(if e=true then some (0,0) else some ((Ah (0-(Ah ((Ah (a.1*(Ah (a.2.2.1-a.1))))+(Ah (a.2.1*(Ah (a.2.2.2-a.2.1)))))))),(Ah ((Ah ((Ah (a.2.2.1-a.1))*(Ah (a.2.2.1-a.1))))+(Ah ((Ah (a.2.2.2-a.2.1))*(Ah (a.2.2.2-a.2.1))))))))) (fun b=>(if (decide ((Ah (0-(Ah ((Ah (a.1*(Ah (a.2.2.1-a.1))))+(Ah (a.2.1*(Ah (a.2.2.2-a.2.1))))))))≤0))=true then b (true) else b ((decide ((Ah ((Ah ((Ah (a.2.2.1-a.1))*(Ah (a.2.2.1-a.1))))+(Ah ((Ah (a.2.2.2-a.2.1))*(Ah (a.2.2.2-a.2.1))))))≤(Ah (0-(Ah ((Ah (a.1*(Ah (a.2.2.1-a.1))))+(Ah (a.2.1*(Ah (a.2.2.2-a.2.1)))))))))))))
def HY(a b:Int):Ae Int :=
 (if (decide (b<a))=true then some a else some b)
def NF(a:Int):Ae Int :=
 (HY a (Ah (0-a))).bind fun b =>
 some b
def Hh(c d:Int):Nat→Int→Int→Ae (Int×Int)
 | 0,_,_=>none
 | m+1,a,b=>(if (decide (0<b))=true then (if b=0 then none else (Hh c d m) (b) ((Int.tmod a b))) else (if a=0 then none else (if a=0 then none else some ((Ah (Int.tdiv c a)),(Ah (Int.tdiv d a))))))
def Ke(a b:Int):Ae (Int×Int) :=
 (NF a).bind fun c =>
 Hh a b FU (c) (b)
def Le(b c:Aki):Ae (Int×Int) :=
 (LA b c).bind fun a =>
 (Mz b c).bind fun d =>
 (if (decide (0<d.2))=true then (Ke (Ah ((Ah ((Ah (a.1*a.2.2.2))-(Ah (a.2.1*a.2.2.1))))*(Ah ((Ah (a.1*a.2.2.2))-(Ah (a.2.1*a.2.2.1)))))) d.2).bind fun e =>
 some e else (FD (Ah ((Ah (a.1*a.1))+(Ah (a.2.1*a.2.1)))) (Ah ((Ah (a.2.2.1*a.2.2.1))+(Ah (a.2.2.2*a.2.2.2))))).bind fun f =>
 some (f,1))
def L8(c d:Aki)(a:Int):Ae Bool :=
 (Le c d).bind fun b =>
 some (decide ((Ah ((Ah (a*a))*b.2))≤b.1))
def FQ(u8:(List Aki))(d:Aki)(e b:Int)(f:(Akl→Int→Ae Akl)):Nat→Akl→Int→Ae Akl
 | 0,_,_=>none
 | m+1,c,a=>(if (decide (a<(u8.length:Int)))=true then Bf (fun (h:Akl)=>(FQ u8 d e b f m) (h) ((Ah (a+1)))) (fun g=>(AG u8 a).bind fun i =>
 (L8 d i e).bind fun j =>
 (if (!j)=true then (BB c [[b,a]]).bind fun k =>
 g (k) else g (c))) else f (c) ((Ah (b+1))))
def FR(u8:(List Aki))(b:Int):Nat→Akl→Int→Ae Akl
 | 0,_,_=>none
 | m+1,c,a=>(if (decide (a<(u8.length:Int)))=true then (AG u8 a).bind fun d =>
 FQ u8 d b a (FR u8 b m) FU (c) ((Ah (a+1))) else some c)
def Lc(a:(Akg×Akg×Int×(List Int)))(b:Int):Ae Akl :=
 (Hr a).bind fun u8 =>
 FR u8 b FU ([]) (0)
def HD(a:(Akg×Akg×Int×(List Int)))(b:Int):Ae (Akl×Bool) :=
 (Mx a b).bind fun c =>
 (if (!c)=true then some ([],false) else (Lc a b).bind fun d =>
 some (d,true))
def Dd(c:(Akl×Bool)):Nat→(List Ag)→Int→Ae (List Ag)
 | 0,_,_=>none
 | m+1,a,b=>(if (decide (b<(c.1.length:Int)))=true then (AG c.1 b).bind fun d =>
 Bf (fun (f:(List Ag))=>(AG d 0).bind fun g =>
 (AG d 1).bind fun h =>
 (CL g).bind fun i =>
 (BB i [45]).bind fun j =>
 (CL h).bind fun k =>
 (BB j k).bind fun l =>
 (BB f l).bind fun n =>
 (Dd c m) (n) ((Ah (b+1)))) (fun e=>(if (decide (0<b))=true then (BB a [32]).bind fun o =>
 e (o) else e (a))) else (if (a==[])=true then some ([110,111,110,101]) else some a))
def Ia(d:(Akg×Akg×Int×Akg×Akh×Akj×(List Int)×(List Int)×Int))(e:Int):Ae (List Ag) :=
 (Fp d).bind fun a =>
 (HD a.1 e).bind fun b =>
 Bf (fun (f:Bool)=>(if f=true then some ([110,111]) else Dd b FU ([]) (0))) (fun c=>(if (!a.2)=true then c (true) else c ((!b.2))))
def MR(a:(Akg×Akg×Int×(List Int))):Ae Bool :=
 Bf (fun (c:Bool)=>some c) (fun b=>(Jb a).bind fun d =>
 (if d=true then (if (decide (a.2.2.1≤16))=true then b ((decide ((a.1.length:Int)≤6))) else b (false)) else b (false)))
def MJ(a:Aki)(b:Int):Ae (Int×Int) :=
 some ((Ah ((Ah (a.1.1*a.2.2))+(Ah ((Ah (a.2.1.1-a.1.1))*b)))),(Ah ((Ah (a.1.2*a.2.2))+(Ah ((Ah (a.2.1.2-a.1.2))*b)))))
def Jy(a:Aki)(b c:Int):Ae (Int×Int) :=
 (FD a.2.2 (Ah (c-b))).bind fun d =>
 (HY 0 d).bind fun e =>
 (MJ a e).bind fun f =>
 some f
def L5(a b c d:Int):Ae (Int×Int) :=
 Bf (fun (f:Bool)=>(if f=true then some ((Ah ((Ah ((Ah (a*d))-(Ah (b*c))))*(Ah ((Ah (a*d))-(Ah (b*c)))))),(Ah ((Ah ((Ah (c-a))*(Ah (c-a))))+(Ah ((Ah (d-b))*(Ah (d-b))))))) else (FD (Ah ((Ah (a*a))+(Ah (b*b)))) (Ah ((Ah (c*c))+(Ah (d*d))))).bind fun g =>
 some (g,1))) (fun e=>(if (decide (0<(Ah (0-(Ah ((Ah (a*(Ah (c-a))))+(Ah (b*(Ah (d-b))))))))))=true then e ((decide ((Ah (0-(Ah ((Ah (a*(Ah (c-a))))+(Ah (b*(Ah (d-b))))))))<(Ah ((Ah ((Ah (c-a))*(Ah (c-a))))+(Ah ((Ah (d-b))*(Ah (d-b))))))))) else e (false)))
def L9(c a d b:Int):Ae Bool :=
 (if a=0 then none else (if b=0 then none else (if ((Ah (Int.tdiv c a)) != (Ah (Int.tdiv d b)))=true then (if a=0 then none else (if b=0 then none else some (decide ((Ah (Int.tdiv c a))<(Ah (Int.tdiv d b)))))) else (if a=0 then none else (if b=0 then none else some (decide ((Ah ((Int.tmod c a)*b))<(Ah ((Int.tmod d b)*a)))))))))
def FK(c d:Int)(a g:Aki):Nat→Int→Int→Int→Ae (Int×Int)
 | 0,_,_,_=>none
 | m+1,e,h,b=>(HY c d).bind fun p =>
 (if (decide (b<(Ah (a.2.2+p))))=true then Fx (fun (q:Int) (r:Int)=>(FK c d a g m) (q) (r) ((Ah (b+1)))) (fun i=>(Jy a c b).bind fun j =>
 (Jy g d b).bind fun k =>
 (Jy a c (Ah (b+1))).bind fun l =>
 (Jy g d (Ah (b+1))).bind fun n =>
 (L5 (Ah (j.1-k.1)) (Ah (j.2-k.2)) (Ah (l.1-n.1)) (Ah (l.2-n.2))).bind fun f =>
 Bf (fun (s:Bool)=>(if s=true then i (f.1) (f.2) else i (e) (h))) (fun o=>(if (decide (e<0))=true then o (true) else (L9 f.1 f.2 e h).bind fun t =>
 o (t)))) else (Ke e (Ah ((Ah (h*a.2.2))*a.2.2))).bind fun u =>
 some u)
def J6(a b:Aki)(c d:Int):Ae (Int×Int) :=
 FK c d a b FU ((-1)) (1) (0)
def Kd(c d:Aki)(e f b:Int):Ae Bool :=
 (J6 c d e f).bind fun a =>
 (if a.2=0 then none else some (decide ((Ah (b*b))≤(Ah (Int.tdiv a.1 a.2)))))
def FL(u8:(List Aki))(c:(List Int))(b:Int)(e:Aki)(f:Int)(g:(Akl→Int→Ae Akl)):Nat→Akl→Int→Ae Akl
 | 0,_,_=>none
 | m+1,d,a=>(if (decide (a<(u8.length:Int)))=true then Bf (fun (i:Akl)=>(FL u8 c b e f g m) (i) ((Ah (a+1)))) (fun h=>(AG u8 a).bind fun j =>
 (AG c b).bind fun k =>
 (AG c a).bind fun l =>
 (Kd e j k l f).bind fun n =>
 (if (!n)=true then (BB d [[b,a]]).bind fun o =>
 h (o) else h (d))) else g (d) ((Ah (b+1))))
def FM(u8:(List Aki))(b:(List Int))(c:Int):Nat→Akl→Int→Ae Akl
 | 0,_,_=>none
 | m+1,d,a=>(if (decide (a<(u8.length:Int)))=true then (AG u8 a).bind fun e =>
 FL u8 b a e c (FM u8 b c m) FU (d) ((Ah (a+1))) else some d)
def J7(a:(Akg×Akg×Int×(List Int)))(b:(List Int))(c:Int):Ae Akl :=
 (Hr a).bind fun u8 =>
 FM u8 b c FU ([]) (0)
def L7(a:(Akg×Akg×Int×(List Int)))(c d:Int):Ae (Akg×Akg×Int×(List Int)) :=
 (Ja a.1 a.2.1 a.2.2.1 a.2.2.2).bind fun b =>
 (AG a.2.2.2 d).bind fun e =>
 (AG b.2.2.2 c).bind fun g =>
 (AG a.2.2.2 c).bind fun f =>
 (AG (BL b.2.2.2 c e) d).bind fun h =>
 some (b.1,b.2.1,b.2.2.1,(BL (BL b.2.2.2 c e) d f))
def Gq(c:(Akg×Akg×Int×(List Int)))(a:Int)(u8:(List Int))(d:Int)(e:(Int→Ae (Int×Int))):Nat→Int→Ae (Int×Int)
 | 0,_=>none
 | m+1,b=>(if (decide (b<(c.1.length:Int)))=true then (L7 c a b).bind fun f =>
 (J7 f u8 d).bind fun g =>
 (if ((g.length:Int)==0)=true then some (a,b) else (Gq c a u8 d e m) ((Ah (b+1)))) else e ((Ah (a+1))))
def EF(a:(Akg×Akg×Int×(List Int)))(u8:(List Int))(c:Int):Nat→Int→Ae (Int×Int)
 | 0,_=>none
 | m+1,b=>(if (decide (b<(a.1.length:Int)))=true then Gq a b u8 c (EF a u8 c m) FU ((Ah (b+1))) else some ((-1),(-1)))
def L4(a:(Akg×Akg×Int×(List Int)))(b:Int):Ae (Int×Int) :=
 (Uh (a.1.length:Int) 0).bind fun u8 =>
 EF a u8 b FU (0)
def Ho(e:((List Aki)×Int×(List Int)))(a b c d:Int):Ae (Bool×((List Aki)×Int×(List Int))) :=
 Bf (fun (g:((List Aki)×Int×(List Int)))=>(if (decide (0≤a)&&decide (a<6))=true then (if (decide (0≤b)&&decide (b<6))=true then (if (decide (0≤c)&&decide (c<5))=true then (if (decide (0≤d)&&decide (d<5))=true then (g.2.2[a.toNat*150+b.toNat*25+c.toNat*5+d.toNat*1]?).bind fun j =>
 some ((j==1),g) else none) else none) else none) else none)) (fun h=>(if (decide (0≤a)&&decide (a<6))=true then (if (decide (0≤b)&&decide (b<6))=true then (if (decide (0≤c)&&decide (c<5))=true then (if (decide (0≤d)&&decide (d<5))=true then (e.2.2[a.toNat*150+b.toNat*25+c.toNat*5+d.toNat*1]?).bind fun k =>
 (if (k==0)=true then Fx (fun (f:((List Aki)×Int×(List Int))) (l:Int)=>(P5 f.2.2 (a.toNat*150+b.toNat*25+c.toNat*5+d.toNat*1) l).bind fun m =>
 h ((f.1,f.2.1,m))) (fun i=>(AG e.1 a).bind fun n =>
 (AG e.1 b).bind fun o =>
 (Kd n o c d e.2.1).bind fun p =>
 (if p=true then i (e) (1) else i (e) (2))) else h (e)) else none) else none) else none) else none))
def Da(a:(List Int))(b:Int)(f:(((List Aki)×Int×(List Int))→Ae ((List Int)×((List Aki)×Int×(List Int)))))(rec:(((List Aki)×Int×(List Int))→(List Int)→Int→Ae ((List Int)×((List Aki)×Int×(List Int)))))(g:Int):Nat→((List Aki)×Int×(List Int))→Bool→Int→Ae ((List Int)×((List Aki)×Int×(List Int)))
 | 0,_,_,_=>none
 | m+1,c,h,d=>(if (decide (d<(a.length:Int)))=true then Fx (fun (k:((List Aki)×Int×(List Int))) (l:Bool)=>(Da a b f rec g m) (k) (l) ((Ah (d+1)))) (fun i=>(AG a d).bind fun n =>
 (if h=true then (Ho c d (a.length:Int) n b).bind fun j =>
 i (j.2) (j.1) else i (c) (false))) else (if (!h)=true then f (c) else (JH a).bind fun o =>
 (BB o [b]).bind fun p =>
 (rec c p (Ah (g-b))).bind fun e =>
 (if (decide (0<(e.1.length:Int)))=true then some (e.1,e.2) else f (e.2))))
def Db(a:Int)(c:(List Int))(rec:(((List Aki)×Int×(List Int))→(List Int)→Int→Ae ((List Int)×((List Aki)×Int×(List Int))))):Nat→((List Aki)×Int×(List Int))→Int→Ae ((List Int)×((List Aki)×Int×(List Int)))
 | 0,_,_=>none
 | m+1,d,b=>(FD a 4).bind fun e =>
 (if (decide (b≤e))=true then Bf (fun (f:((List Aki)×Int×(List Int)))=>(Db a c rec m) (f) ((Ah (b+1)))) (fun g=>Da c b g rec a FU (d) (true) (0)) else some ([],d))
def GG(rec:((List Aki)×Int×(List Int))→(List Int)→Int→Ae ((List Int)×((List Aki)×Int×(List Int))))(a:((List Aki)×Int×(List Int)))(b:(List Int))(c:Int):Ae ((List Int)×((List Aki)×Int×(List Int))) :=
 (if ((b.length:Int)==(a.1.length:Int))=true then (if (decide (0<c))=true then some ([],a) else some (b,a)) else Db c b rec FU (a) (0))
def Dr:Nat→((List Aki)×Int×(List Int))→(List Int)→Int→Ae ((List Int)×((List Aki)×Int×(List Int)))
 | 0,_,_,_=>none
 | m+1,a,b,c=>GG (Dr m) a b c
def IP(a:((List Aki)×Int×(List Int)))(b:(List Int))(c:Int):Ae ((List Int)×((List Aki)×Int×(List Int))) :=
 Dr FU a b c
def E5(c:(Akg×Akg×Int×(List Int))):Nat→((List Aki)×Int×(List Int))→Int→Ae Akn
 | 0,_,_=>none
 | m+1,d,a=>(if (decide (a≤(Ah (4*(c.1.length:Int)))))=true then (IP d [] a).bind fun b =>
 (if (decide (0<(b.1.length:Int)))=true then some (b.1,a) else (E5 c m) (b.2) ((Ah (a+1)))) else some ([],0))
def Kw(a:(Akg×Akg×Int×(List Int)))(b:Int):Ae Akn :=
 (Hr a).bind fun u8 =>
 E5 a FU ((u8,b,(List.replicate 900 0))) (0)
def Jg(a:(Akg×Akg×Int×(List Int)))(b:Int):Ae (Int×Bool) :=
 Bf (fun (d:Bool)=>(if d=true then some (0,false) else (Uh (a.1.length:Int) 0).bind fun e =>
 (J7 a e b).bind fun f =>
 (if ((f.length:Int)==0)=true then some (0,true) else (L4 a b).bind fun g =>
 (if (decide (0≤g.1))=true then some (1,true) else (Kw a b).bind fun h =>
 (if (decide (0<(h.1.length:Int)))=true then some (2,true) else some (3,true)))))) (fun c=>(MR a).bind fun i =>
 (if (!i)=true then c (true) else (HP b).bind fun j =>
 c ((!j))))
def DP(c:Akg)(e:(Int×Int))(d:Int)(f:(Int→Int→Int→Int→Ae (Int×Int×Int))):Nat→Int→Int→Int→Int→Ae (Int×Int×Int)
 | 0,_,_,_,_=>none
 | m+1,g,h,a,b=>(if (decide (b<(c.length:Int)))=true then Sa (fun (k:Int) (l:Int) (n:Int)=>(DP c e d f m) (k) (l) (n) ((Ah (b+1)))) (fun i=>(AG c b).bind fun o =>
 (HA e o).bind fun u64 =>
 Bf (fun (p:Bool)=>(if p=true then i (d) (b) (u64) else i (g) (h) (a))) (fun j=>(if (decide (a<0))=true then j (true) else j ((decide (u64<a)))))) else f (g) (h) (a) ((Ah (d+1))))
def FP(a:Akg):Nat→Int→Int→Int→Int→Ae (Int×Int×Int)
 | 0,_,_,_,_=>none
 | m+1,c,d,e,b=>(if (decide (b<(a.length:Int)))=true then (AG a b).bind fun f =>
 DP a f b (FP a m) FU (c) (d) (e) ((Ah (b+1))) else some (c,d,e))
def Lb(a:Akg):Ae (Int×Int×Int) :=
 FP a FU (0) (0) ((-1)) (0)
def E7(a:Akg):Ae (Int×Bool) :=
 Bf (fun (c:Bool)=>(if c=true then some (0,false) else (Lb a).bind fun d =>
 some (d.2.2,true))) (fun b=>(G3 a).bind fun e =>
 (if (!e)=true then b (true) else b ((decide ((a.length:Int)<2)))))
def Fk(a:Akg):Nat→Int→Int→Ae Int
 | 0,_,_=>none
 | m+1,c,b=>(if (decide (b<(a.length:Int)))=true then (AG a b).bind fun d =>
 (Fk a m) ((Ah (c+d.1))) ((Ah (b+1))) else some c)
def Kx(a:Akg):Ae Int :=
 Fk a FU (0) (0)
def MS(a:Akg)(c:Int):Ae Bool :=
 Bf (fun (d:Bool)=>some d) (fun b=>(Kf a).bind fun e =>
 (if e=true then (Kx a).bind fun f =>
 (Ca c 0 f).bind fun g =>
 b (g) else b (false)))
def Iq(b a:Int):Ae Int :=
 (if a=0 then none else some (Ah (Int.tdiv (Ah (60000*b)) a)))
def Dy(b:Akg):Nat→Int→Int→Int→Ae Int
 | 0,_,_,_=>none
 | m+1,c,d,e=>(if (decide (e<(b.length:Int)))=true then (AG b e).bind fun a =>
 (if (decide (c<a.1))=true then (Iq c a.2).bind fun f =>
 some (Ah (d+f)) else (Iq a.1 a.2).bind fun g =>
 (Dy b m) ((Ah (c-a.1))) ((Ah (d+g))) ((Ah (e+1)))) else some d)
def Gz(a:Akg)(b:Int):Ae Int :=
 Dy a FU (b) (0) (0)
def LB(a:Akg)(b:Int):Ae (Int×Bool) :=
 (MS a b).bind fun c =>
 (if (!c)=true then some (0,false) else (Gz a b).bind fun d =>
 some (d,true))
def My(a:Int):Ae Bool :=
 (Ca a 0 999).bind fun b =>
 some b
def Hq(f:Akh)(g c d:Int):Nat→Int→Ae Int
 | 0,_=>none
 | m+1,e=>(if (decide (e<(f.length:Int)))=true then (AG f e).bind fun a =>
 Bf (fun (h:Bool)=>(if h=true then some e else (Hq f g c d m) ((Ah (e+1))))) (fun b=>(if (g==0)=true then (if (c==0)=true then (Ca d a.2.2.1 (Ah (a.2.2.2-1))).bind fun i =>
 b (i) else (if (a.1==c)=true then (Ca d a.2.2.1 (Ah (a.2.2.2-1))).bind fun j =>
 b (j) else b (false))) else (if (a.2.1==g)=true then (if (c==0)=true then (Ca d a.2.2.1 (Ah (a.2.2.2-1))).bind fun k =>
 b (k) else (if (a.1==c)=true then (Ca d a.2.2.1 (Ah (a.2.2.2-1))).bind fun l =>
 b (l) else b (false))) else b (false)))) else some (-1))
def LK(a:Akh)(b c d:Int):Ae Int :=
 Hq a b c d FU (0)
def JI(a:Akh)(c d:Int):Ae (Int×Bool) :=
 Bf (fun (e:Bool)=>(if e=true then some (0,false) else (LK a c 0 d).bind fun f =>
 (AG a f).bind fun g =>
 some (g.1,true))) (fun b=>(Kk a).bind fun h =>
 (if (!h)=true then b (true) else (Kj c).bind fun i =>
 (if (!i)=true then b (true) else (My d).bind fun j =>
 (if (!j)=true then b (true) else (LK a c 0 d).bind fun k =>
 b ((decide (k<0)))))))
def NC(a:Akj)(c:Int):Ae Bool :=
 Bf (fun (d:Bool)=>some d) (fun b=>(IY a).bind fun e =>
 (if e=true then (Ca c 0 (Ah ((a.length:Int)-1))).bind fun f =>
 b (f) else b (false)))
def Fg(b:Akj):Nat→Int→(List Int)→Ae (List Int)
 | 0,_,_=>none
 | m+1,a,c=>(if (decide (0≤a))=true then (BB [a] c).bind fun d =>
 (AG b a).bind fun e =>
 (Fg b m) (e.1) (d) else some c)
def Mi(a:Akj)(b:Int):Ae (List Int) :=
 Fg a FU (b) ([])
def FI(a:(List Int))(b:Akj):Nat→(List Int)→Int→Ae (List Int)
 | 0,_,_=>none
 | m+1,c,d=>(if (decide (d<(a.length:Int)))=true then (AG a d).bind fun e =>
 (AG b e).bind fun u64 =>
 (AG b e).bind fun f =>
 (AG c u64.2.1).bind fun g =>
 (FI a b m) ((BL c u64.2.1 f.2.2)) ((Ah (d+1))) else some c)
def FJ(a:Akj)(c:Int):Nat→(List Int)→Ae (List Int)
 | 0,_=>none
 | m+1,b=>(if (decide ((b.length:Int)<8))=true then (BB b [(-1)]).bind fun d =>
 (FJ a c m) (d) else (Mi a c).bind fun e =>
 FI e a FU (b) (0))
def KX(a:Akj)(b:Int):Ae (List Int) :=
 FJ a b FU ([])
def Lf(a:Akj)(b:Int):Ae ((List Int)×Bool) :=
 (NC a b).bind fun c =>
 (if (!c)=true then some ([],false) else (KX a b).bind fun d =>
 some (d,true))
def DO(b:(List Int)):Nat→(List Ag)→Int→Ae (List Ag)
 | 0,_,_=>none
 | m+1,c,a=>(if (decide (a<(b.length:Int)))=true then Bf (fun (h:(List Ag))=>(DO b m) (h) ((Ah (a+1)))) (fun d=>(AG b a).bind fun e =>
 Bf (fun (f:(List Ag))=>(if (decide (e<0))=true then (BB f [45]).bind fun i =>
 d (i) else (CL e).bind fun j =>
 (BB f j).bind fun k =>
 d (k))) (fun g=>(if (decide (0<a))=true then (BB c [32]).bind fun l =>
 g (l) else g (c)))) else some c)
def La(a:(List Int)):Ae (List Ag) :=
 DO a FU ([]) (0)
def Kc(a:Int):Ae (List Ag) :=
 (if ((Int.tmod a 8)==0)=true then (CL (Ah (Int.tdiv a 8))).bind fun b =>
 some b else (CL (Ah (Int.tdiv a 8))).bind fun c =>
 (BB c [43]).bind fun d =>
 (CL (Int.tmod a 8)).bind fun e =>
 (BB d e).bind fun f =>
 some f)
def L2(a:(Int×Int)):Ae (List Ag) :=
 (Kc a.1).bind fun b =>
 (BB b [44]).bind fun c =>
 (Kc a.2).bind fun d =>
 (BB c d).bind fun e =>
 some e
def ND(b c:(Int×Int)):Ae Bool :=
 Bf (fun (d:Bool)=>some d) (fun a=>(IZ b).bind fun e =>
 (if e=true then (IZ c).bind fun f =>
 a (f) else a (false)))
def Fr(c:Int):Nat→Int→Int→Ae Int
 | 0,_,_=>none
 | m+1,a,b=>(if (decide (a<b))=true then (if (decide ((Ah (1000000*c))≤(Ah ((Ah ((Ah (4800*(Ah (Int.tdiv (Ah (a+b)) 2))))*4800))*(Ah (Int.tdiv (Ah (a+b)) 2))))))=true then (Fr c m) (a) ((Ah (Int.tdiv (Ah (a+b)) 2))) else (Fr c m) ((Ah ((Ah (Int.tdiv (Ah (a+b)) 2))+1))) (b)) else some a)
def L3(a:Int):Ae Int :=
 Fr a FU (0) (1000)
def Mv(a b:(Int×Int)):Ae Int :=
 (HA a b).bind fun c =>
 (L3 c).bind fun d =>
 some d
def Is(a b:(Int×Int)):Ae (Int×Bool) :=
 (ND a b).bind fun c =>
 (if (!c)=true then some (0,false) else (Mv a b).bind fun d =>
 some (d,true))
def CM(a:(List Int))(b:(Akg×Akg×Int×Akg×Akh×Akj×(List Int)×(List Int)×Int))(d:(List Ag)):Nat→Int→Ae (List Ag)
 | 0,_=>none
 | m+1,c=>(if (decide (c<(a.length:Int)))=true then (AG a c).bind fun f =>
 (if (decide ((b.1.length:Int)≤f))=true then some ([110,111]) else (CM a b d m) ((Ah (c+1)))) else (if (d==[116,101,120,116])=true then (AG a 0).bind fun g =>
 (AG b.1 g).bind fun h =>
 (L2 h).bind fun i =>
 some i else (AG a 0).bind fun j =>
 (AG b.1 j).bind fun k =>
 (AG a 1).bind fun l =>
 (AG b.1 l).bind fun n =>
 (Is k n).bind fun e =>
 (Ge e.1 e.2).bind fun o =>
 some o))
def CG(a:(Akg×Akg×Int×Akg×Akh×Akj×(List Int)×(List Int)×Int))(b:(List Ag))(c:(List Int)):Ae (List Ag) :=
 (if (b==[115,117,109])=true then jK5 (fun (l:Akg) (m:Akg) (n:Int) (o:(List Int)) (p:Bool)=>(if (!p)=true then some ([110,111]) else (Ir (l,m,n,o)).bind fun e =>
 (Ge e.1 e.2).bind fun q =>
 some q)) (fun r=>(GZ a.2.1 a.1 a.2.2.1).bind fun d =>
 r (d.1.1) (d.1.2.1) (d.1.2.2.1) (d.1.2.2.2) (d.2)) else (if (b==[99,108,111,115,101])=true then (AG c 0).bind fun s =>
 (Ia a s).bind fun t =>
 some t else (if (b==[107,105,110,100])=true then (Fp a).bind fun f =>
 (if (!f.2)=true then some ([110,111]) else (AG c 0).bind fun u =>
 (Jg f.1 u).bind fun g =>
 (Ge g.1 g.2).bind fun v =>
 some v) else (if (b==[108,101,97,115,116])=true then (E7 a.1).bind fun h =>
 (Ge h.1 h.2).bind fun w =>
 some w else (if (b==[116,105,109,101])=true then (AG c 0).bind fun x =>
 (LB a.2.2.2.1 x).bind fun i =>
 (Ge i.1 i.2).bind fun y =>
 some y else (if (b==[119,104,111])=true then (AG c 0).bind fun z =>
 (AG c 1).bind fun aa =>
 (JI a.2.2.2.2.1 z aa).bind fun j =>
 (if (!j.2)=true then some ([110,111,110,101]) else (CL j.1).bind fun ab =>
 some ab) else (if (b==[115,116,97,116,101])=true then (AG c 0).bind fun ac =>
 (Lf a.2.2.2.2.2.1 ac).bind fun k =>
 (if (!k.2)=true then some ([110,111]) else (La k.1).bind fun ad =>
 some ad) else CM c a b FU (0))))))))
def Cd(e:(List (List Ag)))(c:(Akg×Akg×Int×Akg×Akh×Akj×(List Int)×(List Int)×Int))(d:(List (List Ag))):Nat→(List Int)→Int→Ae ((List Ag)×(Akg×Akg×Int×Akg×Akh×Akj×(List Int)×(List Int)×Int))
 | 0,_,_=>none
 | m+1,f,g=>(if (decide (g<(e.length:Int)))=true then (AG e g).bind fun j =>
 (L6 j).bind fun h =>
 (Ca h 0 99999).bind fun k =>
 (if (!k)=true then some ([119,104,97,116],c) else (BB f [h]).bind fun l =>
 (Cd e c d m) (l) ((Ah (g+1)))) else (AG d 0).bind fun a =>
 Bf (fun (n:Bool)=>(if n=true then (AG d 0).bind fun o =>
 (CB c o f).bind fun i =>
 (Kg i.1).bind fun p =>
 some (p,i.2) else (AG d 0).bind fun q =>
 (CG c q f).bind fun r =>
 some (r,c))) (fun b=>(if (a==[115,112,111,116])=true then b ((a==[115,112,111,116])) else (if (a==[112,108,97,99,101])=true then b ((a==[112,108,97,99,101])) else (if (a==[109,105,114,114,111,114])=true then b ((a==[109,105,114,114,111,114])) else (if (a==[107,101,101,112])=true then b ((a==[107,101,101,112])) else (if (a==[99,111,117,110,116,115])=true then b ((a==[99,111,117,110,116,115])) else (if (a==[109,101,97,115,117,114,101])=true then b ((a==[109,101,97,115,117,114,101])) else (if (a==[99,97,114,114,121])=true then b ((a==[99,97,114,114,121])) else b ((a==[118,101,114,115,105,111,110])))))))))))
def E6(b:(Akg×Akg×Int×Akg×Akh×Akj×(List Int)×(List Int)×Int))(c:(List Ag)):Ae ((List Ag)×(Akg×Akg×Int×Akg×Akh×Akj×(List Int)×(List Int)×Int)) :=
 (E3 c 32).bind fun a =>
 (AG a 0).bind fun d =>
 (Hp d).bind fun e =>
 (if ((Ah ((a.length:Int)-1)) != e)=true then some ([119,104,97,116],b) else (sl a 1 (a.length:Int)).bind fun f =>
 Cd f b a FU ([]) (0))
def GN(d:((List (List Ag))×Bool)):Nat→(Akg×Akg×Int×Akg×Akh×Akj×(List Int)×(List Int)×Int)→(List Ag)→Int→Ae ((Akg×Akg×Int×Akg×Akh×Akj×(List Int)×(List Int)×Int)×(List Ag)×Bool)
 | 0,_,_,_=>none
 | m+1,b,f,c=>(if (decide (c<(d.1.length:Int)))=true then (AG d.1 c).bind fun g =>
 (E6 b g).bind fun a =>
 Bf (fun (h:(Akg×Akg×Int×Akg×Akh×Akj×(List Int)×(List Int)×Int))=>(BB a.1 [10]).bind fun i =>
 (BB f i).bind fun j =>
 (GN d m) (h) (j) ((Ah (c+1)))) (fun e=>(if (a.1==[110,111])=true then (BB a.2.2.2.2.2.2.2.1 [(Ah (c+1))]).bind fun k =>
 e ((a.2.1,a.2.2.1,a.2.2.2.1,a.2.2.2.2.1,a.2.2.2.2.2.1,a.2.2.2.2.2.2.1,k,a.2.2.2.2.2.2.2.2.1,a.2.2.2.2.2.2.2.2.2)) else (if (a.1==[119,104,97,116])=true then (BB a.2.2.2.2.2.2.2.2.1 [(Ah (c+1))]).bind fun l =>
 e ((a.2.1,a.2.2.1,a.2.2.2.1,a.2.2.2.2.1,a.2.2.2.2.2.1,a.2.2.2.2.2.2.1,a.2.2.2.2.2.2.2.1,l,a.2.2.2.2.2.2.2.2.2)) else e (a.2)))) else some ((b.1,b.2.1,b.2.2.1,b.2.2.2.1,b.2.2.2.2.1,b.2.2.2.2.2.1,b.2.2.2.2.2.2.1,b.2.2.2.2.2.2.2.1,(d.1.length:Int)),f,true))
def HB(c:(List Ag)):Ae ((Akg×Akg×Int×Akg×Akh×Akj×(List Int)×(List Int)×Int)×(List Ag)×Bool) :=
 (Mw ).bind fun a =>
 (FE c).bind fun b =>
 (if (!b.2)=true then some (a,[],false) else GN b FU (a) ([]) (0))
def KA(a:(List Ag)):Ae (List Ag) :=
 (HB a).bind fun b =>
 some b.2.1
def GF(a:(List Ag))(b:Int):Ae Int :=
 some (MY a b)
def Ig(b a:(List Ag)):Ae Int :=
 Bf (fun (d:Bool)=>(if d=true then some 0 else (if ((a.length:Int)==1)=true then (AG a 0).bind fun e =>
 (GF b (UInt8.toNat e:Int)).bind fun f =>
 some f else (if (decide ((b.length:Int)≤(a.length:Int)))=true then some (-1) else none)))) (fun c=>(if ((a.length:Int)==0)=true then c (true) else c ((a==b))))
def GL(a b:(List Ag)):Ae Int :=
 (Ig a b).bind fun c =>
 some c
def I9(a:(List Ag)):Nat→(List Ag)→Int→Ae Int
 | 0,_,_=>none
 | m+1,b,c=>(GL b a).bind fun d =>
 (if (d==(-1))=true then some c else (sl b (Ah (d+(a.length:Int))) (b.length:Int)).bind fun e =>
 (I9 a m) (e) ((Ah (c+1))))
def H9(b a:(List Ag)):Ae Int :=
 (if ((a.length:Int)==0)=true then none else (if ((a.length:Int)==1)=true then (AG a 0).bind fun c =>
 some (Abr b (UInt8.toNat c:Int)) else I9 a FU (b) (0)))
def Di(g:Int)(h d:(List Ag))(e:((List Ag)→(List (List Ag))→Int→Ae (List (List Ag))))(i:Int):Nat→(List Ag)→(List (List Ag))→Int→Ae (List (List Ag))
 | 0,_,_,_=>none
 | m+1,a,c,b=>(if (decide (b<(Ah ((Fq g (Ah ((h.length:Int)+1)))-1))))=true then (GL a d).bind fun f =>
 (if (decide (f<0))=true then e (a) (c) (b) else (sl a 0 (Ah (f+i))).bind fun j =>
 (AG c b).bind fun l =>
 (sl a (Ah (f+(d.length:Int))) (a.length:Int)).bind fun k =>
 (Di g h d e i m) (k) ((BL c b j)) ((Ah (b+1)))) else e (a) (c) (b))
def I8(a b:(List Ag))(h c:Int):Ae (List (List Ag)) :=
 (if (c==0)=true then some [] else (if (b==[])=true then none else Bf (fun (e:Int)=>(Uh (Fq e (Ah ((a.length:Int)+1))) []).bind fun i =>
 Sa (fun (j:(List Ag)) (f:(List (List Ag))) (d:Int)=>(AG f d).bind fun n =>
 (sl (BL f d j) 0 (Ah (d+1))).bind fun k =>
 some k) (fun l=>Di e a b l h FU (a) (i) (0))) (fun g=>(if (decide (c<0))=true then (H9 a b).bind fun m =>
 g ((Ah (m+1))) else g (c)))))
def Ff(a b:(List Ag)):Ae (List (List Ag)) :=
 (I8 a b 0 (-1)).bind fun c =>
 some c
def JA(a:(List Ag)):Ae ((List (List Ag))×Bool) :=
 (if (a==[])=true then some ([],true) else (AG a (Ah ((a.length:Int)-1))).bind fun b =>
 (if ((UInt8.toNat b:Int) != 10)=true then some ([],false) else (sl a 0 (Ah ((a.length:Int)-1))).bind fun c =>
 (Ff c [10]).bind fun d =>
 some (d,true)))
def DX(c:(List Ag)):Ae ((List (List Ag))×Bool) :=
 (JA c).bind fun a =>
 Bf (fun (d:Bool)=>(if d=true then some ([],false) else some (a.1,true))) (fun b=>(if (!a.2)=true then b (true) else (if (decide (2000<(c.length:Int)))=true then b (true) else b ((decide (40<(a.1.length:Int)))))))
def LU : Ae (Akg×Akg×Int×Akg×Akh×Akj) :=
 some ([(0,0)],[(0,0)],8,[(4,120)],[],[((-1),0,0)])
def FW(a:(List Ag)):Nat→Int→Int→Ae (Int×Bool)
 | 0,_,_=>none
 | m+1,c,b=>(if (decide (b<(a.length:Int)))=true then Bf (fun (e:Bool)=>(if e=true then some (0,false) else (AG a b).bind fun f =>
 (FW a m) ((Ah ((Ah (10*c))+(Ah (NP ((UInt8.toNat f:Int)-48)))))) ((Ah (b+1))))) (fun d=>(AG a b).bind fun g =>
 (if (decide ((UInt8.toNat g:Int)<48))=true then d (true) else (AG a b).bind fun h =>
 d ((decide (57<(UInt8.toNat h:Int)))))) else some (c,true))
def Lh(a:(List Ag)):Ae (Int×Bool) :=
 Bf (fun (c:Bool)=>(if c=true then some (0,false) else FW a FU (0) (0))) (fun b=>(if (a==[])=true then b (true) else (if (decide (9<(a.length:Int)))=true then b (true) else (if (decide (1<(a.length:Int)))=true then (AG a 0).bind fun d =>
 b (((UInt8.toNat d:Int)==48)) else b (false)))))
def KB(a:(List Ag)):Ae Int :=
 Bf (fun (f:Bool)=>(if f=true then some 0 else Bf (fun (g:Bool)=>(if g=true then some 1 else Bf (fun (h:Bool)=>(if h=true then some 2 else Bf (fun (i:Bool)=>(if i=true then some 3 else (if (a==[99,97,114,114,121])=true then some 4 else some (-1)))) (fun e=>(if (a==[112,108,97,99,101])=true then e ((a==[112,108,97,99,101])) else e ((a==[118,101,114,115,105,111,110])))))) (fun c=>(if (a==[115,112,111,116])=true then c ((a==[115,112,111,116])) else (if (a==[115,111,117,110,100])=true then c ((a==[115,111,117,110,100])) else (if (a==[109,101,97,115,117,114,101])=true then c ((a==[109,101,97,115,117,114,101])) else c ((a==[119,104,111])))))))) (fun b=>(if (a==[99,111,117,110,116,115])=true then b ((a==[99,111,117,110,116,115])) else (if (a==[99,108,111,115,101])=true then b ((a==[99,108,111,115,101])) else (if (a==[107,105,110,100])=true then b ((a==[107,105,110,100])) else (if (a==[116,101,120,116])=true then b ((a==[116,101,120,116])) else (if (a==[116,105,109,101])=true then b ((a==[116,105,109,101])) else b ((a==[115,116,97,116,101])))))))))) (fun d=>(if (a==[109,105,114,114,111,114])=true then d ((a==[109,105,114,114,111,114])) else (if (a==[107,101,101,112])=true then d ((a==[107,101,101,112])) else (if (a==[115,117,109])=true then d ((a==[115,117,109])) else d ((a==[108,101,97,115,116]))))))
def Ck(a c d:Int):Ae Bool :=
 Bf (fun (e:Bool)=>some e) (fun b=>(if (decide (c≤a))=true then b ((decide (a≤d))) else b (false)))
def Hd(a:(Int×Int)):Ae Bool :=
 Bf (fun (c:Bool)=>some c) (fun b=>(Ck a.1 0 1280).bind fun d =>
 (if d=true then (Ck a.2 0 672).bind fun e =>
 b (e) else b (false)))
def Cz(b:Akg)(c:(Int×Int)):Nat→Int→Ae Int
 | 0,_=>none
 | m+1,a=>(if (decide (a<(b.length:Int)))=true then (AG b a).bind fun d =>
 (if (Lv c d)=true then some a else (Cz b c m) ((Ah (a+1)))) else some (-1))
def EV(a:Akg)(b:(Int×Int)):Ae Int :=
 Cz a b FU (0)
def D0(a:Akg)(b:(Int×Int)):Ae Bool :=
 (EV a b).bind fun u8 =>
 some (decide (0≤u8))
def FZ(a:Akg):Nat→Int→Ae Bool
 | 0,_=>none
 | m+1,b=>(if (decide (b<(a.length:Int)))=true then (AG a b).bind fun c =>
 Bf (fun (e:Bool)=>(if e=true then some false else (FZ a m) ((Ah (b+1))))) (fun d=>(Hd c).bind fun f =>
 (if (!f)=true then d (true) else (sl a 0 b).bind fun g =>
 (D0 g c).bind fun u64 =>
 d (u64))) else some true)
def DD(a:Akg):Ae Bool :=
 (Ck (a.length:Int) 1 12).bind fun b =>
 (if (!b)=true then some false else FZ a FU (0))
def J9(a:Bool):Ae (List Ag) :=
 (if a=true then some ([111,107]) else some ([110,111]))
def Dz(a:(Akg×Akg×Int×Akg×Akh×Akj))(d:Akg)(b:Bool):Ae ((List Ag)×(Akg×Akg×Int×Akg×Akh×Akj)) :=
 Bf (fun (e:(Akg×Akg×Int×Akg×Akh×Akj))=>(J9 b).bind fun f =>
 some (f,e)) (fun c=>(if b=true then c ((d,a.2.1,a.2.2.1,a.2.2.2.1,a.2.2.2.2.1,a.2.2.2.2.2)) else c (a)))
def GV(a:Akg):Ae (Akg×Bool) :=
 (DD a).bind fun b =>
 (if (!b)=true then some ([],false) else some (a,true))
def Hu(a:Akg)(b:Int)(d:(Int×Int)):Ae (Akg×Bool) :=
 Bf (fun (f:Bool)=>(if f=true then some ([],false) else (BB [] a).bind fun e =>
 (AG e b).bind fun j =>
 (GV (BL e b d)).bind fun g =>
 some g)) (fun c=>(DD a).bind fun h =>
 (if (!h)=true then c (true) else (Ck b 0 (Ah ((a.length:Int)-1))).bind fun i =>
 (if (!i)=true then c (true) else (Hd d).bind fun u64 =>
 c ((!u64)))))
def Ew(a:Akg):Nat→Akg→Int→Ae (Akg×Bool)
 | 0,_,_=>none
 | m+1,c,b=>(if (decide (b<(a.length:Int)))=true then (AG a b).bind fun d =>
 (BB c [((Ah (1280-d.1)),d.2)]).bind fun e =>
 (Ew a m) (e) ((Ah (b+1))) else some (c,true))
def IG(a:Akg):Ae (Akg×Bool) :=
 (DD a).bind fun b =>
 (if (!b)=true then some ([],false) else Ew a FU ([]) (0))
def BU(a:(Akg×Akg×Int×Akg×Akh×Akj))(c:(List Ag))(b:(List Int)):Ae ((List Ag)×(Akg×Akg×Int×Akg×Akh×Akj)) :=
 (if (c==[115,112,111,116])=true then Fx (fun (j:(Akg×Akg×Int×Akg×Akh×Akj)) (k:(List Ag))=>some (k,j)) (fun l=>(AG b 0).bind fun m =>
 (AG b 1).bind fun n =>
 (BB [] a.1).bind fun o =>
 (BB o [(m,n)]).bind fun p =>
 (GV p).bind fun d =>
 (Dz a d.1 d.2).bind fun e =>
 l (e.2) (e.1)) else (if (c==[112,108,97,99,101])=true then (AG b 0).bind fun q =>
 (AG b 1).bind fun r =>
 (AG b 2).bind fun s =>
 (Hu a.1 q (r,s)).bind fun f =>
 (Dz a f.1 f.2).bind fun g =>
 some (g.1,g.2) else (if (c==[109,105,114,114,111,114])=true then (IG a.1).bind fun h =>
 (Dz a h.1 h.2).bind fun i =>
 some (i.1,i.2) else (if (c==[107,101,101,112])=true then (BB [] a.1).bind fun t =>
 some ([111,107],(a.1,t,a.2.2.1,a.2.2.2.1,a.2.2.2.2.1,a.2.2.2.2.2)) else (AG b 0).bind fun u =>
 (Ck u 1 64).bind fun v =>
 (if (!v)=true then some ([110,111],a) else (AG b 0).bind fun w =>
 some ([111,107],(a.1,a.2.1,w,a.2.2.2.1,a.2.2.2.2.1,a.2.2.2.2.2)))))))
def FY(a:Akg):Nat→Int→Ae Bool
 | 0,_=>none
 | m+1,b=>(if (decide (b<(a.length:Int)))=true then (AG a b).bind fun c =>
 Bf (fun (e:Bool)=>(if e=true then some false else (FY a m) ((Ah (b+1))))) (fun d=>(Ck c.1 1 12).bind fun f =>
 (if (!f)=true then d (true) else (Ck c.2 40 220).bind fun g =>
 d ((!g)))) else (Ck (a.length:Int) 1 40).bind fun h =>
 some h)
def Hv(a:Akg):Ae Bool :=
 FY a FU (0)
def DB(a b:(Int×Int×Int×Int)):Ae Int :=
 (if (a.2.2.1 != b.2.2.1)=true then some (Ah (a.2.2.1-b.2.2.1)) else some (Ah (a.2.1-b.2.1)))
def Li(a:(Int×Int×Int×Int)):Ae Bool :=
 Bf (fun (c:Bool)=>some c) (fun b=>(Ck a.1 1 12).bind fun d =>
 (if d=true then (Ck a.2.1 1 9).bind fun e =>
 (if e=true then (if (decide (0≤a.2.2.1))=true then (if (decide (a.2.2.1<a.2.2.2))=true then b ((decide (a.2.2.2≤1000))) else b (false)) else b (false)) else b (false)) else b (false)))
def DU(c:Akh)(a:(Int×Int×Int×Int))(f:(Int→Ae Bool))(g:Int):Nat→Int→Ae Bool
 | 0,_=>none
 | m+1,d=>(if (decide (d<(c.length:Int)))=true then (AG c d).bind fun b =>
 Bf (fun (h:Bool)=>(if h=true then some false else (DU c a f g m) ((Ah (d+1))))) (fun e=>(if (a.2.1==b.2.1)=true then e ((decide ((Gj a.2.2.1 b.2.2.1)<(Fq a.2.2.2 b.2.2.2)))) else (if (a.1==b.1)=true then e ((decide ((Gj a.2.2.1 b.2.2.1)<(Fq a.2.2.2 b.2.2.2)))) else e (false)))) else f ((Ah (g+1))))
def CT(b:Akh):Nat→Int→Ae Bool
 | 0,_=>none
 | m+1,a=>(if (decide (a<(b.length:Int)))=true then (AG b a).bind fun c =>
 Bf (fun (e:Bool)=>(if e=true then some false else (sl b 0 a).bind fun f =>
 DU f c (CT b m) a FU (0))) (fun d=>(if (decide (0<a))=true then (AG b (Ah (a-1))).bind fun g =>
 (DB g c).bind fun h =>
 d ((decide (0≤h))) else d (false))) else some true)
def ED(a:Akh):Nat→Int→Ae Bool
 | 0,_=>none
 | m+1,b=>(if (decide (b<(a.length:Int)))=true then (AG a b).bind fun c =>
 (Li c).bind fun d =>
 (if (!d)=true then some false else (ED a m) ((Ah (b+1)))) else CT a FU (0))
def GH(a:Akh):Ae Bool :=
 (if (decide (40<(a.length:Int)))=true then some false else ED a FU (0))
def Ex(d:Akj):Nat→Int→Ae Bool
 | 0,_=>none
 | m+1,a=>(if (decide (a<(d.length:Int)))=true then (AG d a).bind fun b =>
 Bf (fun (e:Bool)=>(if e=true then some false else (Ex d m) ((Ah (a+1))))) (fun c=>(if (decide (0<a))=true then (Ck b.1 0 (Ah (a-1))).bind fun f =>
 (if (!f)=true then c (true) else (Ck b.2.1 0 7).bind fun g =>
 (if (!g)=true then c (true) else (Ck b.2.2 0 999).bind fun h =>
 c ((!h)))) else (Ck b.2.1 0 7).bind fun i =>
 (if (!i)=true then c (true) else (Ck b.2.2 0 999).bind fun j =>
 c ((!j))))) else some true)
def EC(a:Akj):Ae Bool :=
 Bf (fun (c:Bool)=>(if c=true then some false else Ex a FU (0))) (fun b=>(Ck (a.length:Int) 1 60).bind fun d =>
 (if (!d)=true then b (true) else (AG a 0).bind fun e =>
 b ((e.1 != (-1)))))
def Jp(a:Akj)(c:(Int×Int×Int)):Ae (Akj×Bool) :=
 (EC a).bind fun d =>
 (if (!d)=true then some ([],false) else Bf (fun (b:Akj)=>(EC b).bind fun e =>
 (if (!e)=true then some ([],false) else some (b,true))) (fun f=>(BB [] a).bind fun g =>
 (BB g [c]).bind fun h =>
 f (h)))
def Bq(c:(Akh→Int→Ae Akh))(d e:Int):Nat→Akh→Int→Ae Akh
 | 0,_,_=>none
 | m+1,b,a=>Bf (fun (h:Bool)=>(if h=true then Bf (fun (i:Akh)=>(Bq c d e m) (i) ((Ah (a-1)))) (fun j=>(AG b (Ah (a-1))).bind fun f =>
 (AG b a).bind fun k =>
 (AG b a).bind fun p =>
 (AG (BL b a f) (Ah (a-1))).bind fun q =>
 j ((BL (BL b a f) (Ah (a-1)) k))) else c (b) ((Ah (d+1))))) (fun g=>(if (decide (e<a))=true then (AG b a).bind fun l =>
 (AG b (Ah (a-1))).bind fun n =>
 (DB l n).bind fun o =>
 g ((decide (o<0))) else g (false)))
def Bd(b c:Int):Nat→Akh→Int→Ae Akh
 | 0,_,_=>none
 | m+1,d,a=>(if (decide (a<b))=true then Bq (Bd b c m) a c FU (d) (a) else some d)
def Bo(b:Akh)(a c:Int):Ae Akh :=
 Bd c a FU (b) ((Ah (a+1)))
def Bz(e d c:Int):Nat→Akh→Int→Ae Akh
 | 0,_,_=>none
 | m+1,b,a=>(if (decide (a<e))=true then Bf (fun (g:Akh)=>(Bz e d c m) (g) ((Ah (a+1)))) (fun h=>(AG b (Ah (d+a))).bind fun f =>
 (AG b (Ah (c+a))).bind fun i =>
 (AG b (Ah (c+a))).bind fun j =>
 (AG (BL b (Ah (c+a)) f) (Ah (d+a))).bind fun k =>
 h ((BL (BL b (Ah (c+a)) f) (Ah (d+a)) i))) else some b)
def BE(a:Akh)(b c d:Int):Ae Akh :=
 Bz d c b FU (a) (0)
def B6(b:Int):Nat→Akh→Int→Int→Ae Akh
 | 0,_,_,_=>none
 | m+1,d,a,c=>(if (a != c)=true then (if (decide (c<a))=true then (BE d (Ah (b-a)) b c).bind fun e =>
 (B6 b m) (e) ((Ah (a-c))) (c) else (BE d (Ah (b-a)) (Ah ((Ah (b+c))-a)) a).bind fun f =>
 (B6 b m) (f) (a) ((Ah (c-a)))) else (BE d (Ah (b-a)) b a).bind fun g =>
 some g)
def BV(b:Akh)(c a d:Int):Ae Akh :=
 B6 a FU (b) ((Ah (a-c))) ((Ah (d-a)))
def B3(c:Int):Nat→Akh→Int→Ae Akh
 | 0,_,_=>none
 | m+1,b,a=>(if (decide (a<(Ah (c-1))))=true then Bf (fun (e:Akh)=>(B3 c m) (e) ((Ah (a+1)))) (fun f=>(AG b (Ah (a+1))).bind fun d =>
 (AG b a).bind fun g =>
 (AG b a).bind fun h =>
 (AG (BL b a d) (Ah (a+1))).bind fun i =>
 f ((BL (BL b a d) (Ah (a+1)) g))) else some b)
def AK(b:Akh)(d:Int):Nat→Int→Int→Ae Akh
 | 0,_,_=>none
 | m+1,a,c=>(if (decide (a<c))=true then (AG b (Ah (Bu .u64 (Bi (Ah (a+c))) 1))).bind fun e =>
 (AG b d).bind fun f =>
 (DB e f).bind fun g =>
 (if (decide (g<0))=true then (AK b d m) ((Ah ((Ah (Bu .u64 (Bi (Ah (a+c))) 1))+1))) (c) else (AK b d m) (a) ((Ah (Bu .u64 (Bi (Ah (a+c))) 1)))) else B3 a FU (b) (d))
def B2(c:Int):Nat→Akh→Int→Ae Akh
 | 0,_,_=>none
 | m+1,b,a=>(if (decide (c<a))=true then Bf (fun (e:Akh)=>(B2 c m) (e) ((Ah (a-1)))) (fun f=>(AG b (Ah (a-1))).bind fun d =>
 (AG b a).bind fun g =>
 (AG b a).bind fun h =>
 (AG (BL b a d) (Ah (a-1))).bind fun i =>
 f ((BL (BL b a d) (Ah (a-1)) g))) else some b)
def AJ(b:Akh)(d:Int):Nat→Int→Int→Ae Akh
 | 0,_,_=>none
 | m+1,a,c=>(if (decide (a<c))=true then (AG b d).bind fun e =>
 (AG b (Ah (Bu .u64 (Bi (Ah (a+c))) 1))).bind fun f =>
 (DB e f).bind fun g =>
 (if (!(decide (g<0)))=true then (AJ b d m) ((Ah ((Ah (Bu .u64 (Bi (Ah (a+c))) 1))+1))) (c) else (AJ b d m) (a) ((Ah (Bu .u64 (Bi (Ah (a+c))) 1)))) else B2 a FU (b) (d))
def AH(e:Akh)(b c d:Int)(rec:(Akh→Int→Int→Int→Ae Akh)):Nat→Int→Int→Ae Akh
 | 0,_,_=>none
 | m+1,a,f=>(if (decide (a<f))=true then (AG e (Ah ((Ah ((Ah ((Ah (Bu .u64 (Bi (Ah (b+c))) 1))+d))-1))-(Ah (Bu .u64 (Bi (Ah (a+f))) 1))))).bind fun o =>
 (AG e (Ah (Bu .u64 (Bi (Ah (a+f))) 1))).bind fun p =>
 (DB o p).bind fun q =>
 (if (!(decide (q<0)))=true then (AH e b c d rec m) ((Ah ((Ah (Bu .u64 (Bi (Ah (a+f))) 1))+1))) (f) else (AH e b c d rec m) (a) ((Ah (Bu .u64 (Bi (Ah (a+f))) 1)))) else Bf (fun (g:Akh)=>Bf (fun (h:Akh)=>Bf (fun (r:Bool)=>(if r=true then (rec h (Ah (Bu .u64 (Bi (Ah (b+c))) 1)) (Ah ((Ah ((Ah (Bu .u64 (Bi (Ah (b+c))) 1))+d))-a)) c).bind fun s =>
 some s else some h)) (fun i=>(if (decide ((Ah (Bu .u64 (Bi (Ah (b+c))) 1))<(Ah ((Ah ((Ah (Bu .u64 (Bi (Ah (b+c))) 1))+d))-a))))=true then i ((decide ((Ah ((Ah ((Ah (Bu .u64 (Bi (Ah (b+c))) 1))+d))-a))<c))) else i (false)))) (fun j=>Bf (fun (t:Bool)=>(if t=true then (rec g b a (Ah (Bu .u64 (Bi (Ah (b+c))) 1))).bind fun u =>
 j (u) else j (g))) (fun k=>(if (decide (b<a))=true then k ((decide (a<(Ah (Bu .u64 (Bi (Ah (b+c))) 1))))) else k (false))))) (fun l=>Bf (fun (v:Bool)=>(if v=true then (BV e a d (Ah ((Ah ((Ah (Bu .u64 (Bi (Ah (b+c))) 1))+d))-a))).bind fun w =>
 l (w) else l (e))) (fun n=>(if (decide (a<d))=true then n ((decide (d<(Ah ((Ah ((Ah (Bu .u64 (Bi (Ah (b+c))) 1))+d))-a))))) else n (false)))))
def Cj(rec:Akh→Int→Int→Int→Ae Akh)(d:Akh)(b a c:Int):Ae Akh :=
 (if ((Ah (a-b))==1)=true then AK d b FU (a) (c) else (if ((Ah (c-a))==1)=true then AJ d a FU (b) (a) else Fx (fun (f:Int) (g:Int)=>AH d b c a rec FU (f) (g)) (fun e=>(if (decide ((Ah (Bu .u64 (Bi (Ah (b+c))) 1))<a))=true then e ((Ah ((Ah ((Ah (Bu .u64 (Bi (Ah (b+c))) 1))+a))-c))) ((Ah (Bu .u64 (Bi (Ah (b+c))) 1))) else e (b) (a)))))
def AW:Nat→Akh→Int→Int→Int→Ae Akh
 | 0,_,_,_,_=>none
 | m+1,a,b,c,d=>Cj (AW m) a b c d
def Cn(a:Akh)(b c d:Int):Ae Akh :=
 AW FU a b c d
def Br(c a:Int)(f:(Akh→Int→Ae Akh)):Nat→Akh→Int→Int→Ae Akh
 | 0,_,_,_=>none
 | m+1,e,b,d=>(if (decide (d≤c))=true then (Cn e b (Ah (b+a)) d).bind fun h =>
 (Br c a f m) (h) (d) ((Ah (d+(Ah (2*a))))) else Bf (fun (i:Akh)=>f (i) ((Ah (a*2)))) (fun g=>(if (decide ((Ah (b+a))<c))=true then (Cn e b (Ah (b+a)) c).bind fun j =>
 g (j) else g (e))))
def AF(a:Int):Nat→Akh→Int→Ae Akh
 | 0,_,_=>none
 | m+1,c,b=>(if (decide (b<a))=true then Br a b (AF a m) FU (c) (0) ((Ah (2*b))) else some c)
def AO(a:Int):Nat→Akh→Int→Int→Ae Akh
 | 0,_,_,_=>none
 | m+1,c,d,b=>(if (decide (b≤a))=true then (Bo c d b).bind fun e =>
 (AO a m) (e) (b) ((Ah (b+20))) else (Bo c d a).bind fun f =>
 AF a FU (f) (20))
def CJ(a:Akh)(b:Int):Ae Akh :=
 AO b FU (a) (0) (20)
def BD(a:Akh):Ae Akh :=
 (CJ a (a.length:Int)).bind fun b =>
 some b
def CU(a:(Akg×Akg×Int×Akg×Akh×Akj))(f:(List Ag))(b:(List Int)):Ae ((List Ag)×(Akg×Akg×Int×Akg×Akh×Akj)) :=
 (if (f==[109,101,97,115,117,114,101])=true then Fx (fun (c:(Akg×Akg×Int×Akg×Akh×Akj)) (g:Akg)=>(Hv g).bind fun j =>
 (if (!j)=true then some ([110,111],c) else some ([111,107],(c.1,c.2.1,c.2.2.1,g,c.2.2.2.2.1,c.2.2.2.2.2)))) (fun k=>(AG b 0).bind fun l =>
 (AG b 1).bind fun m =>
 (BB [] a.2.2.2.1).bind fun n =>
 (BB n [(l,m)]).bind fun o =>
 k (a) (o)) else (if (f==[99,97,114,114,121])=true then Fx (fun (d:(Akg×Akg×Int×Akg×Akh×Akj)) (p:Akh)=>(BD p).bind fun h =>
 (GH h).bind fun q =>
 (if (!q)=true then some ([110,111],d) else some ([111,107],(d.1,d.2.1,d.2.2.1,d.2.2.2.1,h,d.2.2.2.2.2)))) (fun r=>(AG b 0).bind fun s =>
 (AG b 1).bind fun t =>
 (AG b 2).bind fun u =>
 (AG b 3).bind fun v =>
 (BB [] a.2.2.2.2.1).bind fun w =>
 (BB w [(s,t,u,v)]).bind fun x =>
 r (a) (x)) else (AG b 0).bind fun y =>
 (AG b 1).bind fun z =>
 (AG b 2).bind fun aa =>
 (Jp a.2.2.2.2.2 (y,z,aa)).bind fun e =>
 Bf (fun (ab:(Akg×Akg×Int×Akg×Akh×Akj))=>(J9 e.2).bind fun ac =>
 some (ac,ab)) (fun i=>(if e.2=true then i ((a.1,a.2.1,a.2.2.1,a.2.2.2.1,a.2.2.2.2.1,e.1)) else i (a)))))
def Ix(b c:Akg)(d:Int):Ae Bool :=
 Bf (fun (e:Bool)=>some e) (fun a=>(DD b).bind fun f =>
 (if f=true then (DD c).bind fun g =>
 (if g=true then (if ((b.length:Int)==(c.length:Int))=true then (Ck d 1 64).bind fun h =>
 a (h) else a (false)) else a (false)) else a (false)))
def E8(a b:(Int×Int)):Ae Int :=
 some (Ah ((Ah ((Ah (a.1-b.1))*(Ah (a.1-b.1))))+(Ah ((Ah (a.2-b.2))*(Ah (a.2-b.2))))))
def EN(a:Akg)(c:(Int×Int))(d:Akl)(e:(Akl→Int→Ae Akl))(f:Int):Nat→(List Int)→Int→Ae Akl
 | 0,_,_=>none
 | m+1,g,b=>(if (decide (b<(a.length:Int)))=true then (AG a b).bind fun h =>
 (E8 c h).bind fun i =>
 (BB g [i]).bind fun j =>
 (EN a c d e f m) (j) ((Ah (b+1))) else (BB d [g]).bind fun k =>
 e (k) ((Ah (f+1))))
def Eg(a c:Akg):Nat→Akl→Int→Ae Akl
 | 0,_,_=>none
 | m+1,d,b=>(if (decide (b<(a.length:Int)))=true then (AG a b).bind fun e =>
 EN c e d (Eg a c m) b FU ([]) (0) else some d)
def JK(a b:Akg):Ae Akl :=
 Eg a b FU ([]) (0)
def Mm(a:Int):Ae Int :=
 some (B8 .i64 (Ah (Bi ((Bi ((Bi ((B8 .u64 (Bi ((Bu .u64 (Bi ((B8 .u64 (Bu .u64 (Bi ((B8 .u64 (Bu .u64 a 1) 6148914691236517205)+(B8 .u64 a 6148914691236517205))) 2) 3689348814741910323)+(B8 .u64 (Bi ((B8 .u64 (Bu .u64 a 1) 6148914691236517205)+(B8 .u64 a 6148914691236517205))) 3689348814741910323))) 4)+(Bi ((B8 .u64 (Bu .u64 (Bi ((B8 .u64 (Bu .u64 a 1) 6148914691236517205)+(B8 .u64 a 6148914691236517205))) 2) 3689348814741910323)+(B8 .u64 (Bi ((B8 .u64 (Bu .u64 a 1) 6148914691236517205)+(B8 .u64 a 6148914691236517205))) 3689348814741910323))))) 1085102592571150095)+(Bu .u64 (B8 .u64 (Bi ((Bu .u64 (Bi ((B8 .u64 (Bu .u64 (Bi ((B8 .u64 (Bu .u64 a 1) 6148914691236517205)+(B8 .u64 a 6148914691236517205))) 2) 3689348814741910323)+(B8 .u64 (Bi ((B8 .u64 (Bu .u64 a 1) 6148914691236517205)+(B8 .u64 a 6148914691236517205))) 3689348814741910323))) 4)+(Bi ((B8 .u64 (Bu .u64 (Bi ((B8 .u64 (Bu .u64 a 1) 6148914691236517205)+(B8 .u64 a 6148914691236517205))) 2) 3689348814741910323)+(B8 .u64 (Bi ((B8 .u64 (Bu .u64 a 1) 6148914691236517205)+(B8 .u64 a 6148914691236517205))) 3689348814741910323))))) 1085102592571150095) 8)))+(Bu .u64 (Bi ((B8 .u64 (Bi ((Bu .u64 (Bi ((B8 .u64 (Bu .u64 (Bi ((B8 .u64 (Bu .u64 a 1) 6148914691236517205)+(B8 .u64 a 6148914691236517205))) 2) 3689348814741910323)+(B8 .u64 (Bi ((B8 .u64 (Bu .u64 a 1) 6148914691236517205)+(B8 .u64 a 6148914691236517205))) 3689348814741910323))) 4)+(Bi ((B8 .u64 (Bu .u64 (Bi ((B8 .u64 (Bu .u64 a 1) 6148914691236517205)+(B8 .u64 a 6148914691236517205))) 2) 3689348814741910323)+(B8 .u64 (Bi ((B8 .u64 (Bu .u64 a 1) 6148914691236517205)+(B8 .u64 a 6148914691236517205))) 3689348814741910323))))) 1085102592571150095)+(Bu .u64 (B8 .u64 (Bi ((Bu .u64 (Bi ((B8 .u64 (Bu .u64 (Bi ((B8 .u64 (Bu .u64 a 1) 6148914691236517205)+(B8 .u64 a 6148914691236517205))) 2) 3689348814741910323)+(B8 .u64 (Bi ((B8 .u64 (Bu .u64 a 1) 6148914691236517205)+(B8 .u64 a 6148914691236517205))) 3689348814741910323))) 4)+(Bi ((B8 .u64 (Bu .u64 (Bi ((B8 .u64 (Bu .u64 a 1) 6148914691236517205)+(B8 .u64 a 6148914691236517205))) 2) 3689348814741910323)+(B8 .u64 (Bi ((B8 .u64 (Bu .u64 a 1) 6148914691236517205)+(B8 .u64 a 6148914691236517205))) 3689348814741910323))))) 1085102592571150095) 8))) 16)))+(Bu .u64 (Bi ((Bi ((B8 .u64 (Bi ((Bu .u64 (Bi ((B8 .u64 (Bu .u64 (Bi ((B8 .u64 (Bu .u64 a 1) 6148914691236517205)+(B8 .u64 a 6148914691236517205))) 2) 3689348814741910323)+(B8 .u64 (Bi ((B8 .u64 (Bu .u64 a 1) 6148914691236517205)+(B8 .u64 a 6148914691236517205))) 3689348814741910323))) 4)+(Bi ((B8 .u64 (Bu .u64 (Bi ((B8 .u64 (Bu .u64 a 1) 6148914691236517205)+(B8 .u64 a 6148914691236517205))) 2) 3689348814741910323)+(B8 .u64 (Bi ((B8 .u64 (Bu .u64 a 1) 6148914691236517205)+(B8 .u64 a 6148914691236517205))) 3689348814741910323))))) 1085102592571150095)+(Bu .u64 (B8 .u64 (Bi ((Bu .u64 (Bi ((B8 .u64 (Bu .u64 (Bi ((B8 .u64 (Bu .u64 a 1) 6148914691236517205)+(B8 .u64 a 6148914691236517205))) 2) 3689348814741910323)+(B8 .u64 (Bi ((B8 .u64 (Bu .u64 a 1) 6148914691236517205)+(B8 .u64 a 6148914691236517205))) 3689348814741910323))) 4)+(Bi ((B8 .u64 (Bu .u64 (Bi ((B8 .u64 (Bu .u64 a 1) 6148914691236517205)+(B8 .u64 a 6148914691236517205))) 2) 3689348814741910323)+(B8 .u64 (Bi ((B8 .u64 (Bu .u64 a 1) 6148914691236517205)+(B8 .u64 a 6148914691236517205))) 3689348814741910323))))) 1085102592571150095) 8)))+(Bu .u64 (Bi ((B8 .u64 (Bi ((Bu .u64 (Bi ((B8 .u64 (Bu .u64 (Bi ((B8 .u64 (Bu .u64 a 1) 6148914691236517205)+(B8 .u64 a 6148914691236517205))) 2) 3689348814741910323)+(B8 .u64 (Bi ((B8 .u64 (Bu .u64 a 1) 6148914691236517205)+(B8 .u64 a 6148914691236517205))) 3689348814741910323))) 4)+(Bi ((B8 .u64 (Bu .u64 (Bi ((B8 .u64 (Bu .u64 a 1) 6148914691236517205)+(B8 .u64 a 6148914691236517205))) 2) 3689348814741910323)+(B8 .u64 (Bi ((B8 .u64 (Bu .u64 a 1) 6148914691236517205)+(B8 .u64 a 6148914691236517205))) 3689348814741910323))))) 1085102592571150095)+(Bu .u64 (B8 .u64 (Bi ((Bu .u64 (Bi ((B8 .u64 (Bu .u64 (Bi ((B8 .u64 (Bu .u64 a 1) 6148914691236517205)+(B8 .u64 a 6148914691236517205))) 2) 3689348814741910323)+(B8 .u64 (Bi ((B8 .u64 (Bu .u64 a 1) 6148914691236517205)+(B8 .u64 a 6148914691236517205))) 3689348814741910323))) 4)+(Bi ((B8 .u64 (Bu .u64 (Bi ((B8 .u64 (Bu .u64 a 1) 6148914691236517205)+(B8 .u64 a 6148914691236517205))) 2) 3689348814741910323)+(B8 .u64 (Bi ((B8 .u64 (Bu .u64 a 1) 6148914691236517205)+(B8 .u64 a 6148914691236517205))) 3689348814741910323))))) 1085102592571150095) 8))) 16))) 32)))) 127)
def Iz(a:Int):Ae Int :=
 (Mm a).bind fun b =>
 some b
def Ei(d:Akl)(a e:Int)(f:((List Int)→Int→Ae (List Int))):Nat→(List Int)→Int→Ae (List Int)
 | 0,_,_=>none
 | m+1,b,c=>(if (decide (c<(d.length:Int)))=true then Bf (fun (h:(List Int))=>(Ei d a e f m) (h) ((Ah (c+1)))) (fun g=>(if (decide (0≤c))=true then (if ((B8 .i64 (Bu .i64 a c) 1)==0)=true then (AG b a).bind fun i =>
 (AG d e).bind fun j =>
 (AG j c).bind fun k =>
 (AG b (Vt .i64 a (LL .i64 1 c))).bind fun l =>
 (AG b a).bind fun n =>
 g ((BL b a (Fq i (Ah (k+l))))) else g (b)) else none)) else f (b) ((Ah (a-1))))
def EQ(c:Akl):Nat→(List Int)→Int→Ae (List Int)
 | 0,_,_=>none
 | m+1,b,a=>(if (decide (0≤a))=true then (Iz (Bi a)).bind fun d =>
 (AG b a).bind fun e =>
 Ei c a d (EQ c m) FU ((BL b a 13194139533312)) (0) else some b)
def JM(a:Akl):Ae (List Int) :=
 (if (decide (0≤(a.length:Int)))=true then (Uh (LL .i64 1 (a.length:Int)) 0).bind fun b =>
 EQ a FU (b) ((Ah ((LL .i64 1 (a.length:Int))-2))) else none)
def DI(c:Akl)(d:(List Int))(e:(Int→(List Int)→Ae (List Int)))(b g:Int)(f:(List Int)):Nat→Int→Ae (List Int)
 | 0,_=>none
 | m+1,a=>(if (decide (a<(c.length:Int)))=true then Bf (fun (i:Bool)=>(if i=true then (BB d [a]).bind fun j =>
 (if (decide (0≤a))=true then e ((Vt .i64 b (LL .i64 1 a))) (j) else none) else (DI c d e b g f m) ((Ah (a+1))))) (fun h=>(if (decide (0≤a))=true then (if ((B8 .i64 (Bu .i64 b a) 1)==0)=true then (AG c g).bind fun k =>
 (AG k a).bind fun l =>
 (AG f b).bind fun n =>
 (AG f (Vt .i64 b (LL .i64 1 a))).bind fun o =>
 h (((Ah (l+o))==n)) else h (false)) else none)) else e (b) (d))
def DJ(a:Akl)(c:(List Int)):Nat→Int→(List Int)→Int→Ae (List Int)
 | 0,_,_,_=>none
 | m+1,e,d,b=>(if (decide (b<(a.length:Int)))=true then Fx (fun (f:Int) (g:(List Int))=>(DJ a c m) (f) (g) ((Ah (b+1)))) (fun h=>DI a d h e b c FU (0)) else some d)
def HE(a:Akl):Ae (List Int) :=
 (JM a).bind fun b =>
 DJ a b FU (0) ([]) (0)
def Gg(a:(List Int)):Ae (List Int) :=
 (BB [] a).bind fun b =>
 some b
def Fw(a b:Akg)(c:Int)(d:(List Int)):Ae (Akg×Akg×Int×(List Int)) :=
 (BB [] a).bind fun e =>
 (BB [] b).bind fun f =>
 (Gg d).bind fun g =>
 some (e,f,c,g)
def Ha(a b:Akg)(c:Int):Ae ((Akg×Akg×Int×(List Int))×Bool) :=
 (Ix a b c).bind fun d =>
 (if (!d)=true then some (([],[],0,[]),false) else (JK a b).bind fun e =>
 (HE e).bind fun f =>
 (Fw a b c f).bind fun g =>
 some (g,true))
def EA(b:(List Int))(c:Int):Nat→Int→Int→Ae Bool
 | 0,_,_=>none
 | m+1,e,d=>(if (decide (d<(b.length:Int)))=true then (AG b d).bind fun a =>
 Bf (fun (g:Bool)=>(if g=true then some false else (if (decide (0≤a))=true then (EA b c m) ((Vt .i64 e (LL .i64 1 a))) ((Ah (d+1))) else none))) (fun f=>(Ck a 0 (Ah (c-1))).bind fun h =>
 (if (!h)=true then f (true) else (if (decide (0≤a))=true then f (((B8 .i64 (Bu .i64 e a) 1)==1)) else none))) else some ((b.length:Int)==c))
def Jn(a:(List Int))(b:Int):Ae Bool :=
 EA a b FU (0) (0)
def Gc(a:(Akg×Akg×Int×(List Int))):Ae Bool :=
 Bf (fun (c:Bool)=>some c) (fun b=>(DD a.1).bind fun d =>
 (if d=true then (DD a.2.1).bind fun e =>
 (if e=true then (if ((a.1.length:Int)==(a.2.1.length:Int))=true then (Ck a.2.2.1 1 64).bind fun f =>
 (if f=true then (Jn a.2.2.2 (a.1.length:Int)).bind fun g =>
 b (g) else b (false)) else b (false)) else b (false)) else b (false)))
def EO(a:(Akg×Akg×Int×(List Int))):Nat→Int→Int→Ae Int
 | 0,_,_=>none
 | m+1,c,b=>(if (decide (b<(a.2.2.2.length:Int)))=true then (AG a.2.2.2 b).bind fun d =>
 (AG a.1 b).bind fun e =>
 (AG a.2.1 d).bind fun f =>
 (E8 e f).bind fun g =>
 (EO a m) ((Ah (c+g))) ((Ah (b+1))) else some c)
def JL(a:(Akg×Akg×Int×(List Int))):Ae Int :=
 EO a FU (0) (0)
def Iy(a:(Akg×Akg×Int×(List Int))):Ae (Int×Bool) :=
 (Gc a).bind fun b =>
 (if (!b)=true then some (0,false) else (JL a).bind fun c =>
 some (c,true))
def Gf(a:Int)(b:Bool):Ae (List Ag) :=
 (if b=true then (Dn a).bind fun c =>
 some c else some ([110,111]))
def Dv(a c:Akg)(d:Int):Nat→(List Int)→Int→Ae ((Akg×Akg×Int×(List Int))×Bool)
 | 0,_,_=>none
 | m+1,e,b=>(if (decide (b<(a.length:Int)))=true then (BB e [b]).bind fun f =>
 (Dv a c d m) (f) ((Ah (b+1))) else (Fw a c d e).bind fun g =>
 some (g,true))
def FG(a b:Akg)(c:Int):Ae ((Akg×Akg×Int×(List Int))×Bool) :=
 (Ix a b c).bind fun d =>
 (if (!d)=true then some (([],[],0,[]),false) else Dv a b c FU ([]) (0))
def JB(a:Int):Ae Bool :=
 (Ck a 0 80).bind fun b =>
 some b
def FX(a:(Akg×Akg×Int×(List Int))):Nat→(List Aki)→Int→Ae (List Aki)
 | 0,_,_=>none
 | m+1,c,b=>(if (decide (b<(a.2.2.2.length:Int)))=true then (AG a.2.2.2 b).bind fun d =>
 (AG a.1 b).bind fun e =>
 (AG a.2.1 d).bind fun f =>
 (BB c [(e,f,a.2.2.1)]).bind fun g =>
 (FX a m) (g) ((Ah (b+1))) else some c)
def Iw(a:(Akg×Akg×Int×(List Int))):Ae (List Aki) :=
 FX a FU ([]) (0)
def M0(a b:Aki):Ae ((Int×Int)×(Int×Int)×Int×Int) :=
 some (((Ah (a.1.1-b.1.1)),(Ah (a.1.2-b.1.2))),((Ah ((Ah (a.2.1.1-b.2.1.1))-(Ah (a.1.1-b.1.1)))),(Ah ((Ah (a.2.1.2-b.2.1.2))-(Ah (a.1.2-b.1.2))))),(Ah ((Ah ((Ah (a.1.1-b.1.1))*(Ah ((Ah (a.2.1.1-b.2.1.1))-(Ah (a.1.1-b.1.1))))))+(Ah ((Ah (a.1.2-b.1.2))*(Ah ((Ah (a.2.1.2-b.2.1.2))-(Ah (a.1.2-b.1.2)))))))),(Ah ((Ah ((Ah ((Ah (a.2.1.1-b.2.1.1))-(Ah (a.1.1-b.1.1))))*(Ah ((Ah (a.2.1.1-b.2.1.1))-(Ah (a.1.1-b.1.1))))))+(Ah ((Ah ((Ah (a.2.1.2-b.2.1.2))-(Ah (a.1.2-b.1.2))))*(Ah ((Ah (a.2.1.2-b.2.1.2))-(Ah (a.1.2-b.1.2)))))))))
def HF : Nat→Int→Int→Ae Int
 | 0,_,_=>none
 | m+1,b,a=>(if (a != 0)=true then (if a=0 then none else (HF m) (a) ((Int.tmod b a))) else some b)
def NI(a b:Int):Ae Int :=
 HF FU ((Gj a (Ah (0-a)))) ((Gj b (Ah (0-b))))
def Gy(b c:Int):Ae (Int×Int) :=
 (NI b c).bind fun a =>
 (if a=0 then none else (if a=0 then none else some ((Ah (Int.tdiv b a)),(Ah (Int.tdiv c a)))))
def Jm(b c:Aki):Ae (Int×Int) :=
 (M0 b c).bind fun a =>
 (if (decide (0≤a.2.2.1))=true then some ((Ah ((Ah (a.1.1*a.1.1))+(Ah (a.1.2*a.1.2)))),1) else (if (decide (a.2.2.2≤(Ah (0-a.2.2.1))))=true then (E8 b.2.1 c.2.1).bind fun d =>
 some (d,1) else (Gy (Ah ((Ah ((Ah (a.1.1*a.2.1.2))-(Ah (a.1.2*a.2.1.1))))*(Ah ((Ah (a.1.1*a.2.1.2))-(Ah (a.1.2*a.2.1.1)))))) a.2.2.2).bind fun e =>
 some e))
def JJ(c d:Aki)(a:Int):Ae Bool :=
 (Jm c d).bind fun b =>
 some (decide ((Ah ((Ah (a*a))*b.2))≤b.1))
def DK(u8:(List Aki))(a d:Int)(e:(Akl→Int→Ae Akl)):Nat→Akl→Int→Ae Akl
 | 0,_,_=>none
 | m+1,c,b=>(if (decide (b<(u8.length:Int)))=true then Bf (fun (g:Akl)=>(DK u8 a d e m) (g) ((Ah (b+1)))) (fun f=>(AG u8 a).bind fun h =>
 (AG u8 b).bind fun i =>
 (JJ h i d).bind fun j =>
 (if (!j)=true then (BB c [[a,b]]).bind fun k =>
 f (k) else f (c))) else e (c) ((Ah (a+1))))
def DL(u8:(List Aki))(b:Int):Nat→Akl→Int→Ae Akl
 | 0,_,_=>none
 | m+1,c,a=>(if (decide (a<(u8.length:Int)))=true then DK u8 a b (DL u8 b m) FU (c) ((Ah (a+1))) else some c)
def HH(a:(Akg×Akg×Int×(List Int)))(b:Int):Ae Akl :=
 (Iw a).bind fun u8 =>
 DL u8 b FU ([]) (0)
def HI(a:(Akg×Akg×Int×(List Int)))(b:Int):Ae (Akl×Bool) :=
 Bf (fun (d:Bool)=>(if d=true then some ([],false) else (HH a b).bind fun e =>
 some (e,true))) (fun c=>(Gc a).bind fun f =>
 (if (!f)=true then c (true) else (JB b).bind fun g =>
 c ((!g))))
def CS(a:(Akl×Bool)):Nat→(List (List Ag))→Int→Ae (List Ag)
 | 0,_,_=>none
 | m+1,c,b=>(if (decide (b<(a.1.length:Int)))=true then Bf (fun (e:(List (List Ag)))=>(CS a m) (e) ((Ah (b+1)))) (fun f=>(AG a.1 b).bind fun d =>
 (AG d 0).bind fun g =>
 (AG d 1).bind fun h =>
 (Dn g).bind fun i =>
 (BB i [45]).bind fun j =>
 (Dn h).bind fun k =>
 (BB j k).bind fun l =>
 (BB c [l]).bind fun n =>
 f (n)) else (J5 c [32]).bind fun o =>
 some o)
def H1(b:(Akg×Akg×Int×Akg×Akh×Akj))(d:Int):Ae (List Ag) :=
 YR (fun (e:Akg) (f:Akg) (g:Int) (h:(List Int))=>(HI (e,f,g,h) d).bind fun c =>
 (if (!c.2)=true then some ([110,111]) else (if ((c.1.length:Int)==0)=true then some ([110,111,110,101]) else CS c FU ([]) (0)))) (fun i=>(FG b.2.1 b.1 b.2.2.1).bind fun a =>
 i (a.1.1) (a.1.2.1) (a.1.2.2.1) (a.1.2.2.2))
def KP(a:(Akg×Akg×Int×(List Int))):Ae Bool :=
 Bf (fun (c:Bool)=>some c) (fun b=>(Gc a).bind fun d =>
 (if d=true then (if (decide (a.2.2.1≤16))=true then b ((decide ((a.1.length:Int)≤6))) else b (false)) else b (false)))
def G8(a:Aki)(b:Int):Ae (Int×Int) :=
 some ((Ah ((Ah (a.1.1*a.2.2))+(Ah (b*(Ah (a.2.1.1-a.1.1)))))),(Ah ((Ah (a.1.2*a.2.2))+(Ah (b*(Ah (a.2.1.2-a.1.2)))))))
def GR(a:Aki)(b c:Int):Ae (Int×Int) :=
 (G8 a (Fq (Gj (Ah (c-b)) 0) a.2.2)).bind fun u8 =>
 some u8
def Lk(a b:Int):Ae (Int×Int) :=
 some ((Bi ((Bi ((Bi ((Bu .u64 a 32)*(Bu .u64 b 32)))+(Bu .u64 (Bi ((Bi ((Bu .u64 a 32)*(B8 .u64 b 4294967295)))+(Bu .u64 (Bi ((B8 .u64 a 4294967295)*(B8 .u64 b 4294967295))) 32))) 32)))+(Bu .u64 (Bi ((B8 .u64 (Bi ((Bi ((Bu .u64 a 32)*(B8 .u64 b 4294967295)))+(Bu .u64 (Bi ((B8 .u64 a 4294967295)*(B8 .u64 b 4294967295))) 32))) 4294967295)+(Bi ((B8 .u64 a 4294967295)*(Bu .u64 b 32))))) 32))),(Bi (a*b)))
def Gb(d e f g:Int):Ae Bool :=
 (Lk (Bi d) (Bi g)).bind fun a =>
 (Lk (Bi f) (Bi e)).bind fun b =>
 Bf (fun (h:Bool)=>some h) (fun c=>(if (decide (a.1<b.1))=true then c (true) else (if (a.1==b.1)=true then c ((decide (a.2<b.2))) else c (false))))
def CC(e:Aki)(g h:Int)(k:Aki):Nat→Int→Int→Int→Int→Int→Ae (Int×Int)
 | 0,_,_,_,_,_=>none
 | m+1,c,d,i,j,f=>(if (decide (f≤(Ah (e.2.2+(Gj g h)))))=true then (GR e g f).bind fun a =>
 (GR k h f).bind fun b =>
 Fx (fun (l:Int) (n:Int)=>Fx (fun (s:Int) (t:Int)=>(CC e g h k m) ((Ah (a.1-b.1))) ((Ah (a.2-b.2))) (s) (t) ((Ah (f+1)))) (fun o=>(Gb l n i j).bind fun u =>
 (if u=true then o (l) (n) else o (i) (j)))) (fun p=>Bf (fun (v:Bool)=>(if v=true then p ((Ah ((Ah ((Ah (c*(Ah ((Ah (a.2-b.2))-d))))-(Ah (d*(Ah ((Ah (a.1-b.1))-c))))))*(Ah ((Ah (c*(Ah ((Ah (a.2-b.2))-d))))-(Ah (d*(Ah ((Ah (a.1-b.1))-c))))))))) ((Ah ((Ah ((Ah ((Ah (a.1-b.1))-c))*(Ah ((Ah (a.1-b.1))-c))))+(Ah ((Ah ((Ah (a.2-b.2))-d))*(Ah ((Ah (a.2-b.2))-d))))))) else p ((Ah ((Ah ((Ah (a.1-b.1))*(Ah (a.1-b.1))))+(Ah ((Ah (a.2-b.2))*(Ah (a.2-b.2))))))) (1))) (fun q=>(if (decide ((Ah ((Ah (c*(Ah ((Ah (a.1-b.1))-c))))+(Ah (d*(Ah ((Ah (a.2-b.2))-d))))))<0))=true then q ((decide ((Ah (0-(Ah ((Ah (c*(Ah ((Ah (a.1-b.1))-c))))+(Ah (d*(Ah ((Ah (a.2-b.2))-d))))))))<(Ah ((Ah ((Ah ((Ah (a.1-b.1))-c))*(Ah ((Ah (a.1-b.1))-c))))+(Ah ((Ah ((Ah (a.2-b.2))-d))*(Ah ((Ah (a.2-b.2))-d))))))))) else q (false)))) else (Gy i j).bind fun r =>
 (Gy r.1 (Ah ((Ah (r.2*e.2.2))*e.2.2))).bind fun w =>
 some w)
def GT(c d:Aki)(e f:Int):Ae (Int×Int) :=
 (G8 c 0).bind fun a =>
 (G8 d 0).bind fun b =>
 CC c e f d FU ((Ah (a.1-b.1))) ((Ah (a.2-b.2))) ((Ah ((Ah ((Ah (a.1-b.1))*(Ah (a.1-b.1))))+(Ah ((Ah (a.2-b.2))*(Ah (a.2-b.2))))))) (1) (1)
def GU(c d:Aki)(e f a:Int):Ae Bool :=
 (GT c d e f).bind fun b =>
 some (decide (b.1<(Ah ((Ah (a*a))*b.2))))
def DY(u8:(List Aki))(a:Int)(c:(List Int))(e:Int)(f:(Akl→Int→Ae Akl)):Nat→Akl→Int→Ae Akl
 | 0,_,_=>none
 | m+1,d,b=>(if (decide (b<(u8.length:Int)))=true then Bf (fun (h:Akl)=>(DY u8 a c e f m) (h) ((Ah (b+1)))) (fun g=>(AG u8 a).bind fun i =>
 (AG u8 b).bind fun j =>
 (AG c a).bind fun k =>
 (AG c b).bind fun l =>
 (GU i j k l e).bind fun n =>
 (if n=true then (BB d [[a,b]]).bind fun o =>
 g (o) else g (d))) else f (d) ((Ah (a+1))))
def DZ(u8:(List Aki))(b:(List Int))(c:Int):Nat→Akl→Int→Ae Akl
 | 0,_,_=>none
 | m+1,d,a=>(if (decide (a<(u8.length:Int)))=true then DY u8 a b c (DZ u8 b c m) FU (d) ((Ah (a+1))) else some d)
def Ih(a:(Akg×Akg×Int×(List Int)))(b:(List Int))(c:Int):Ae Akl :=
 (Iw a).bind fun u8 =>
 DZ u8 b c FU ([]) (0)
def GS(a:(Akg×Akg×Int×(List Int)))(b:Int):Ae Bool :=
 (Uh (a.1.length:Int) 0).bind fun c =>
 (Ih a c b).bind fun d =>
 some ((d.length:Int)==0)
def Jk(b:(Akg×Akg×Int×(List Int)))(c d:Int):Ae (Akg×Akg×Int×(List Int)) :=
 (Fw b.1 b.2.1 b.2.2.1 b.2.2.2).bind fun a =>
 Bf (fun (f:(List Int))=>some (a.1,a.2.1,a.2.2.1,f)) (fun g=>(AG a.2.2.2 d).bind fun e =>
 (AG a.2.2.2 c).bind fun h =>
 (AG a.2.2.2 c).bind fun i =>
 (AG (BL a.2.2.2 c e) d).bind fun j =>
 g ((BL (BL a.2.2.2 c e) d h)))
def E9(c:(Akg×Akg×Int×(List Int)))(a d:Int)(e:(Int→Ae (Int×Int×Bool))):Nat→Int→Ae (Int×Int×Bool)
 | 0,_=>none
 | m+1,b=>(if (decide (b<(c.1.length:Int)))=true then (Jk c a b).bind fun f =>
 (GS f d).bind fun g =>
 (if g=true then some (a,b,true) else (E9 c a d e m) ((Ah (b+1)))) else e ((Ah (a+1))))
def D3(a:(Akg×Akg×Int×(List Int)))(c:Int):Nat→Int→Ae (Int×Int×Bool)
 | 0,_=>none
 | m+1,b=>(if (decide (b<(a.1.length:Int)))=true then E9 a b c (D3 a c m) FU ((Ah (b+1))) else some (0,0,false))
def Jl(a:(Akg×Akg×Int×(List Int)))(b:Int):Ae (Int×Int×Bool) :=
 D3 a b FU (0)
def CW(a:(List Int))(b:Int)(rec:(Akk→(List Int)→Int→Ae Akk))(g:Int)(e:(Akk→Ae Akk)):Nat→Akk→Bool→Int→Ae Akk
 | 0,_,_,_=>none
 | m+1,d,h,c=>(if (decide (c<(a.length:Int)))=true then Fx (fun (j:Akk) (k:Bool)=>(CW a b rec g e m) (j) (k) ((Ah (c+1)))) (fun i=>(AG a c).bind fun f =>
 (if h=true then (if (decide (0≤c)&&decide (c<6))=true then (if (decide (0≤(a.length:Int))&&decide ((a.length:Int)<6))=true then (if (decide (0≤f)&&decide (f<5))=true then (if (decide (0≤b)&&decide (b<5))=true then (d.1[c.toNat*150+(a.length:Int).toNat*25+f.toNat*5+b.toNat*1]?).bind fun l =>
 i (d) ((!l)) else none) else none) else none) else none) else i (d) (false))) else (if h=true then (Gg a).bind fun n =>
 (BB n [b]).bind fun o =>
 (rec d o (Ah (g+b))).bind fun p =>
 e (p) else e (d)))
def C3(b:(List Int))(rec:(Akk→(List Int)→Int→Ae Akk))(c:Int):Nat→Akk→Int→Ae Akk
 | 0,_,_=>none
 | m+1,d,a=>(if (decide (a≤4))=true then Bf (fun (e:Akk)=>(C3 b rec c m) (e) ((Ah (a+1)))) (fun f=>CW b a rec c f FU (d) (true) (0)) else some d)
def Fz(rec:Akk→(List Int)→Int→Ae Akk)(b:Akk)(c:(List Int))(d:Int):Ae Akk :=
 Fx (fun (a:Akk) (g:Bool)=>(if g=true then some a else (if ((c.length:Int)==a.2.1)=true then (Gg c).bind fun e =>
 (if (List.isEmpty e)=true then none else some (a.1,a.2.1,e,d)) else C3 c rec d FU (a) (0)))) (fun f=>(if (!(List.isEmpty b.2.2.1))=true then f (b) ((decide (b.2.2.2≤d))) else f (b) (false)))
def Cv:Nat→Akk→(List Int)→Int→Ae Akk
 | 0,_,_,_=>none
 | m+1,a,b,c=>Fz (Cv m) a b c
def HG(a:Akk)(b:(List Int))(c:Int):Ae Akk :=
 Cv FU a b c
def Ep(u8:(List Aki))(c d a f:Int)(g:(Akk→Int→Ae Akn)):Nat→Akk→Int→Ae Akn
 | 0,_,_=>none
 | m+1,e,b=>(if (decide (b≤4))=true then Bf (fun (h:Akk)=>(Ep u8 c d a f g m) (h) ((Ah (b+1)))) (fun i=>(AG u8 c).bind fun j =>
 (AG u8 d).bind fun k =>
 (if (decide (0≤c)&&decide (c<6))=true then (if (decide (0≤d)&&decide (d<6))=true then (if (decide (0≤a)&&decide (a<5))=true then (GU j k a b f).bind fun l =>
 (if (decide (0≤b)&&decide (b<5))=true then (P5 e.1 (c.toNat*150+d.toNat*25+a.toNat*5+b.toNat*1) l).bind fun n =>
 i ((n,e.2.1,e.2.2.1,e.2.2.2)) else none) else none) else none) else none)) else g (e) ((Ah (a+1))))
def Er(u8:(List Aki))(b a c:Int)(d:(Akk→Int→Ae Akn)):Nat→Akk→Int→Ae Akn
 | 0,_,_=>none
 | m+1,e,f=>(if (decide (f≤4))=true then Ep u8 b a f c (Er u8 b a c d m) FU (e) (0) else d (e) ((Ah (a+1))))
def Es(u8:(List Aki))(a b:Int)(c:(Akk→Int→Ae Akn)):Nat→Akk→Int→Ae Akn
 | 0,_,_=>none
 | m+1,d,e=>(if (decide (e<(u8.length:Int)))=true then Er u8 a e b (Es u8 a b c m) FU (d) (0) else c (d) ((Ah (a+1))))
def Et(u8:(List Aki))(b:Int):Nat→Akk→Int→Ae Akn
 | 0,_,_=>none
 | m+1,c,a=>(if (decide (a<(u8.length:Int)))=true then Es u8 a b (Et u8 b m) FU (c) ((Ah (a+1))) else (HG c [] 0).bind fun d =>
 some (d.2.2.1,d.2.2.2))
def ID(a:(Akg×Akg×Int×(List Int)))(b:Int):Ae Akn :=
 (Iw a).bind fun u8 =>
 Et u8 b FU (((List.replicate 900 false),(u8.length:Int),[],0)) (0)
def Jo(a:(Akg×Akg×Int×(List Int)))(b:Int):Ae (Int×Bool) :=
 Bf (fun (d:Bool)=>(if d=true then some (0,false) else (GS a b).bind fun e =>
 (if e=true then some (0,true) else (Jl a b).bind fun f =>
 (if f.2.2=true then some (1,true) else (ID a b).bind fun g =>
 (if (!(List.isEmpty g.1))=true then some (2,true) else some (3,true)))))) (fun c=>(KP a).bind fun h =>
 (if (!h)=true then c (true) else (JB b).bind fun i =>
 c ((!i))))
def DC(a:Akg)(b:Int)(f:(Int→Int→Int→Ae (Int×Int))):Nat→Int→Int→Int→Ae (Int×Int)
 | 0,_,_,_=>none
 | m+1,d,e,c=>(if (decide (c<(a.length:Int)))=true then Fx (fun (h:Int) (i:Int)=>(DC a b f m) (h) (i) ((Ah (c+1)))) (fun g=>(AG a b).bind fun j =>
 (AG a c).bind fun k =>
 (AG a d).bind fun l =>
 (AG a e).bind fun n =>
 (E8 j k).bind fun o =>
 (E8 l n).bind fun p =>
 (if (decide (o<p))=true then g (b) (c) else g (d) (e))) else f (d) (e) ((Ah (b+1))))
def Ev(a:Akg):Nat→Int→Int→Int→Ae (Int×Int)
 | 0,_,_,_=>none
 | m+1,c,d,b=>(if (decide (b<(a.length:Int)))=true then DC a b (Ev a m) FU (c) (d) ((Ah (b+1))) else some (c,d))
def IF(a:Akg):Ae (Int×Int) :=
 Ev a FU (0) (1) (0)
def Fn(a:Akg):Ae (Int×Bool) :=
 Bf (fun (d:Bool)=>(if d=true then some (0,false) else (IF a).bind fun b =>
 (AG a b.1).bind fun e =>
 (AG a b.2).bind fun f =>
 (E8 e f).bind fun g =>
 some (g,true))) (fun c=>(DD a).bind fun h =>
 (if (!h)=true then c (true) else c ((decide ((a.length:Int)<2)))))
def Iv(a:Int):Ae (List Ag) :=
 (Dn (Ah (Int.tdiv a 8))).bind fun b =>
 Bf (fun (d:(List Ag))=>some d) (fun c=>(if (decide (0<(Int.tmod a 8)))=true then (Dn (Int.tmod a 8)).bind fun e =>
 (BB [43] e).bind fun f =>
 (BB b f).bind fun g =>
 c (g) else c (b)))
def KD(a:(Int×Int)):Ae ((List Ag)×Bool) :=
 (Hd a).bind fun b =>
 (if (!b)=true then some ([],false) else (Iv a.1).bind fun c =>
 (BB c [44]).bind fun d =>
 (Iv a.2).bind fun e =>
 (BB d e).bind fun f =>
 some (f,true))
def Eh(b:Int):Nat→Int→Ae Int
 | 0,_=>none
 | m+1,a=>(if (decide ((Ah ((Ah ((Ah (4800*a))*4800))*a))<(Ah (1000000*b))))=true then (Eh b m) ((Ah (a+1))) else some a)
def Lx(a b:(Int×Int)):Ae Int :=
 (E8 a b).bind fun c =>
 Eh c FU (0)
def Hj(a b:(Int×Int)):Ae (Int×Bool) :=
 Bf (fun (d:Bool)=>(if d=true then some (0,false) else (Lx a b).bind fun e =>
 some (e,true))) (fun c=>(Hd a).bind fun f =>
 (if (!f)=true then c (true) else (Hd b).bind fun g =>
 c ((!g))))
def Fm(a:Akg):Nat→Int→Int→Ae Int
 | 0,_,_=>none
 | m+1,c,b=>(if (decide (b<(a.length:Int)))=true then (AG a b).bind fun d =>
 (Fm a m) ((Ah (c+d.1))) ((Ah (b+1))) else some c)
def KC(a:Akg):Ae Int :=
 Fm a FU (0) (0)
def Hi(b:Akg):Nat→Int→Int→Int→Ae Int
 | 0,_,_,_=>none
 | m+1,c,d,e=>(if (decide (e<(b.length:Int)))=true then (AG b e).bind fun a =>
 (if (decide (c<a.1))=true then (if a.2=0 then none else some (Ah (d+(Ah (Int.tdiv (Ah (60000*c)) a.2))))) else (if a.2=0 then none else (Hi b m) ((Ah (c-a.1))) ((Ah (d+(Ah (Int.tdiv (Ah (60000*a.1)) a.2))))) ((Ah (e+1))))) else some d)
def Km(a:Akg)(b:Int):Ae Int :=
 Hi a FU (b) (0) (0)
def LC(a:Akg)(b:Int):Ae (Int×Bool) :=
 Bf (fun (d:Bool)=>(if d=true then some (0,false) else (Km a b).bind fun e =>
 some (e,true))) (fun c=>(Hv a).bind fun f =>
 (if (!f)=true then c (true) else (KC a).bind fun g =>
 (Ck b 0 g).bind fun h =>
 c ((!h))))
def ER(b:Akh)(f c:Int):Nat→Int→Ae (Int×Bool)
 | 0,_=>none
 | m+1,d=>(if (decide (d<(b.length:Int)))=true then (AG b d).bind fun a =>
 Bf (fun (g:Bool)=>(if g=true then some (a.1,true) else (ER b f c m) ((Ah (d+1))))) (fun e=>(if (a.2.1==f)=true then (if (decide (a.2.2.1≤c))=true then e ((decide (c<a.2.2.2))) else e (false)) else e (false))) else some (0,false))
def JN(b:Akh)(c d:Int):Ae (Int×Bool) :=
 Bf (fun (e:Bool)=>(if e=true then some (0,false) else ER b c d FU (0))) (fun a=>(GH b).bind fun f =>
 (if (!f)=true then a (true) else (Ck c 1 9).bind fun g =>
 (if (!g)=true then a (true) else (Ck d 0 999).bind fun u64 =>
 a ((!u64)))))
def Eu(a:(List Int))(b:Akj):Nat→Int→Ae Bool
 | 0,_=>none
 | m+1,c=>(if (decide (c<(a.length:Int)))=true then (AG a c).bind fun d =>
 (Ck d 0 (Ah ((b.length:Int)-1))).bind fun e =>
 (if (!e)=true then some false else (Eu a b m) ((Ah (c+1)))) else (EC b).bind fun f =>
 some f)
def IE(a:Akj)(b:(List Int)):Ae Bool :=
 Eu b a FU (0)
def De : Nat→(List Int)→Int→Int→Ae (List Int)
 | 0,_,_,_=>none
 | m+1,a,b,c=>(if (decide (b<c))=true then Bf (fun (e:(List Int))=>(De m) (e) ((Ah (b+1))) ((Ah (c-1)))) (fun f=>(AG a c).bind fun d =>
 (AG a b).bind fun g =>
 (AG a b).bind fun h =>
 (AG (BL a b d) c).bind fun i =>
 f ((BL (BL a b d) c g))) else some a)
def EJ(a:(List Int)):Ae (List Int) :=
 De FU (a) (0) ((Ah ((a.length:Int)-1)))
def Fh(b:Akj):Nat→Int→(List Int)→Ae (List Int)
 | 0,_,_=>none
 | m+1,a,c=>(if (decide (0≤a))=true then (BB c [a]).bind fun d =>
 (AG b a).bind fun e =>
 (Fh b m) (e.1) (d) else (EJ c).bind fun f =>
 some f)
def Ml(a:Akj)(b:Int):Ae (List Int) :=
 Fh a FU (b) ([])
def D1(a:(List Int))(b:Akj):Nat→(List Int)→Int→Ae (List Int)
 | 0,_,_=>none
 | m+1,c,d=>(if (decide (d<(a.length:Int)))=true then (AG a d).bind fun e =>
 (AG b e).bind fun f =>
 (AG b e).bind fun g =>
 (AG c f.2.1).bind fun h =>
 (D1 a b m) ((BL c f.2.1 g.2.2)) ((Ah (d+1))) else some c)
def FV(a:Akj)(b:Int):Nat→(List Int)→Int→Ae (List Int)
 | 0,_,_=>none
 | m+1,c,d=>(if (decide (d<8))=true then (BB c [(-1)]).bind fun e =>
 (FV a b m) (e) ((Ah (d+1))) else (Ml a b).bind fun f =>
 D1 f a FU (c) (0))
def Lg(a:Akj)(b:Int):Ae (List Int) :=
 FV a b FU ([]) (0)
def Lj(a:Akj)(b:Int):Ae ((List Int)×Bool) :=
 (IE a [b]).bind fun c =>
 (if (!c)=true then some ([],false) else (Lg a b).bind fun d =>
 some (d,true))
def C5(a:((List Int)×Bool)):Nat→(List (List Ag))→Int→Ae (List Ag)
 | 0,_,_=>none
 | m+1,b,c=>(if (decide (c<(a.1.length:Int)))=true then Bf (fun (f:(List (List Ag)))=>(C5 a m) (f) ((Ah (c+1)))) (fun d=>(AG a.1 c).bind fun e =>
 (if (decide (e<0))=true then (BB b [[45]]).bind fun g =>
 d (g) else (Dn e).bind fun h =>
 (BB b [h]).bind fun i =>
 d (i))) else (J5 b [32]).bind fun j =>
 some j)
def Gi(b:(Akg×Akg×Int×Akg×Akh×Akj))(c:Int):Ae (List Ag) :=
 (Lj b.2.2.2.2.2 c).bind fun a =>
 (if (!a.2)=true then some ([110,111]) else C5 a FU ([]) (0))
def Cm(a:(Akg×Akg×Int×Akg×Akh×Akj))(c:(List Ag))(b:(List Int)):Ae (List Ag) :=
 (if (c==[115,117,109])=true then YR (fun (l:Akg) (m:Akg) (n:Int) (o:(List Int))=>(Iy (l,m,n,o)).bind fun f =>
 (Gf f.1 f.2).bind fun p =>
 some p) (fun q=>(Ha a.2.1 a.1 a.2.2.1).bind fun d =>
 q (d.1.1) (d.1.2.1) (d.1.2.2.1) (d.1.2.2.2)) else (if (c==[99,108,111,115,101])=true then (AG b 0).bind fun r =>
 (H1 a r).bind fun s =>
 some s else (if (c==[107,105,110,100])=true then YR (fun (t:Akg) (u:Akg) (v:Int) (w:(List Int))=>(AG b 0).bind fun x =>
 (Jo (t,u,v,w) x).bind fun g =>
 (Gf g.1 g.2).bind fun y =>
 some y) (fun z=>(FG a.2.1 a.1 a.2.2.1).bind fun e =>
 z (e.1.1) (e.1.2.1) (e.1.2.2.1) (e.1.2.2.2)) else (if (c==[108,101,97,115,116])=true then (Fn a.1).bind fun h =>
 (Gf h.1 h.2).bind fun aa =>
 some aa else (if (c==[116,101,120,116])=true then (AG b 0).bind fun ab =>
 (if (decide ((a.1.length:Int)≤ab))=true then some ([110,111]) else (AG b 0).bind fun ac =>
 (AG a.1 ac).bind fun ad =>
 (KD ad).bind fun ae =>
 some ae.1) else (if (c==[115,111,117,110,100])=true then (AG b 0).bind fun af =>
 (AG b 1).bind fun ag =>
 (if (decide ((a.1.length:Int)≤(Gj af ag)))=true then some ([110,111]) else (AG b 0).bind fun ah =>
 (AG a.1 ah).bind fun ai =>
 (AG b 1).bind fun aj =>
 (AG a.1 aj).bind fun ak =>
 (Hj ai ak).bind fun i =>
 (Gf i.1 i.2).bind fun al =>
 some al) else (if (c==[116,105,109,101])=true then (AG b 0).bind fun am =>
 (LC a.2.2.2.1 am).bind fun j =>
 (Gf j.1 j.2).bind fun an =>
 some an else (if (c==[119,104,111])=true then (AG b 0).bind fun ao =>
 (AG b 1).bind fun ap =>
 (JN a.2.2.2.2.1 ao ap).bind fun k =>
 (if (!k.2)=true then some ([110,111,110,101]) else (Dn k.1).bind fun aq =>
 some aq) else (AG b 0).bind fun ar =>
 (Gi a ar).bind fun au =>
 some au))))))))
def Ce(e:(List (List Ag)))(b:(Akg×Akg×Int×Akg×Akh×Akj))(a:(List Ag)):Nat→(List Int)→Int→Ae ((List Ag)×(Akg×Akg×Int×Akg×Akh×Akj))
 | 0,_,_=>none
 | m+1,c,f=>(if (decide (f<(e.length:Int)))=true then (AG e f).bind fun l =>
 (Lh l).bind fun g =>
 Bf (fun (n:Bool)=>(if n=true then some ([119,104,97,116],b) else (BB c [g.1]).bind fun o =>
 (Ce e b a m) (o) ((Ah (f+1))))) (fun i=>(if (!g.2)=true then i (true) else i ((decide (99999<g.1))))) else (KB a).bind fun p =>
 (if ((c.length:Int) != p)=true then some ([119,104,97,116],b) else Bf (fun (q:Bool)=>(if q=true then (BU b a c).bind fun j =>
 some (j.1,j.2) else Bf (fun (r:Bool)=>(if r=true then (CU b a c).bind fun k =>
 some (k.1,k.2) else (Cm b a c).bind fun s =>
 some (s,b))) (fun h=>(if (a==[109,101,97,115,117,114,101])=true then h ((a==[109,101,97,115,117,114,101])) else (if (a==[99,97,114,114,121])=true then h ((a==[99,97,114,114,121])) else h ((a==[118,101,114,115,105,111,110]))))))) (fun d=>(if (a==[115,112,111,116])=true then d ((a==[115,112,111,116])) else (if (a==[112,108,97,99,101])=true then d ((a==[112,108,97,99,101])) else (if (a==[109,105,114,114,111,114])=true then d ((a==[109,105,114,114,111,114])) else (if (a==[107,101,101,112])=true then d ((a==[107,101,101,112])) else d ((a==[99,111,117,110,116,115])))))))))
def DH(b:(Akg×Akg×Int×Akg×Akh×Akj))(c:(List Ag)):Ae ((List Ag)×(Akg×Akg×Int×Akg×Akh×Akj)) :=
 (Ff c [32]).bind fun a =>
 (AG a 0).bind fun d =>
 (sl a 1 (a.length:Int)).bind fun e =>
 Ce e b d FU ([]) (0)
def EP(a:((List (List Ag))×Bool)):Nat→(Akg×Akg×Int×Akg×Akh×Akj)→(List (List Ag))→Int→Ae ((Bool×(Akg×Akg×Int×Akg×Akh×Akj))×(List (List Ag))×Bool)
 | 0,_,_,_=>none
 | m+1,c,d,b=>(if (decide (b<(a.1.length:Int)))=true then (AG a.1 b).bind fun f =>
 (DH c f).bind fun e =>
 (BB d [e.1]).bind fun g =>
 (EP a m) (e.2) (g) ((Ah (b+1))) else some ((true,c),d,true))
def EH(b:(List Ag)):Ae ((Bool×(Akg×Akg×Int×Akg×Akh×Akj))×(List (List Ag))×Bool) :=
 (DX b).bind fun a =>
 (if (!a.2)=true then some ((false,([],[],0,[],[],[])),[],false) else (LU ).bind fun c =>
 EP a FU (c) ([]) (0))
def EB(a:(List (List Ag))):Nat→(List Int)→Int→Ae (List Ag)
 | 0,_,_=>none
 | m+1,c,b=>(if (decide (b<(a.length:Int)))=true then (AG a b).bind fun d =>
 (BB d [10]).bind fun e =>
 (bwr c e).bind fun f =>
 (EB a m) (f) ((Ah (b+1))) else (W8 c).bind fun g =>
 some g)
def GP(c:(List Ag)):Ae (List Ag) :=
 Bf (fun (d:(List (List Ag)))=>EB d FU ([]) (0)) (fun b=>(EH c).bind fun a =>
 (if a.1.1=true then b (a.2.1) else b (a.2.1)))
def D4(c:(List (List Ag))):Nat→Int→Int→Int→Ae (Int×Int×Int×Bool)
 | 0,_,_,_=>none
 | m+1,a,b,d=>(if (decide (d<(c.length:Int)))=true then Fx (fun (g:Int) (h:Int)=>(D4 c m) (g) (h) ((Ah (d+1)))) (fun e=>(AG c d).bind fun f =>
 (if (f==[110,111])=true then e ((Ah (a+1))) (b) else (if (f==[119,104,97,116])=true then e (a) ((Ah (b+1))) else e (a) (b)))) else some (a,b,(Ah ((Ah ((c.length:Int)-a))-b)),true))
def Ii(c:(List Ag)):Ae (Int×Int×Int×Bool) :=
 Fx (fun (d:(List (List Ag))) (e:Bool)=>(if (!e)=true then some (0,0,0,false) else D4 d FU (0) (0) (0))) (fun b=>(EH c).bind fun a =>
 (if a.1.1=true then b (a.2.1) (a.2.2) else b (a.2.1) (a.2.2)))
def Ji(b:(List Ag)):Ae (Akg×Bool) :=
 (HB b).bind fun a =>
 (if (!a.2.2)=true then some ([],false) else some (a.1.1,true))
def HR(b:(List Ag)):Ae (Akg×Bool) :=
 (EH b).bind fun a =>
 (if a.1.1=true then (if (!a.2.2)=true then some ([],false) else some (a.1.2.1,true)) else (if (!a.2.2)=true then some ([],false) else none))
def Jh(b:(List Ag)):Ae (Akg×Bool) :=
 (HB b).bind fun a =>
 (if (!a.2.2)=true then some ([],false) else some (a.1.2.2.2.1,true))
def HQ(b:(List Ag)):Ae (Akg×Bool) :=
 (EH b).bind fun a =>
 (if a.1.1=true then (if (!a.2.2)=true then some ([],false) else some (a.1.2.2.2.2.1,true)) else (if (!a.2.2)=true then some ([],false) else none))
def El(a:(List Int))(c:Int):Nat→Int→Ae (List Int)
 | 0,_=>none
 | m+1,b=>Bf (fun (f:Bool)=>(if f=true then (El a c m) ((Ah (b+1))) else Bf (fun (g:Bool)=>(if g=true then some a else (sl a 0 b).bind fun h =>
 (BB [] h).bind fun i =>
 (BB i [c]).bind fun j =>
 (sl a b (a.length:Int)).bind fun u64 =>
 (BB j u64).bind fun k =>
 some k)) (fun d=>(if (decide (b<(a.length:Int)))=true then (AG a b).bind fun l =>
 d ((l==c)) else d (false))))) (fun e=>(if (decide (b<(a.length:Int)))=true then (AG a b).bind fun n =>
 e ((decide (n<c))) else e (false)))
def Kz(a:(List Int))(b:Int):Ae (List Int) :=
 El a b FU (0)
def Eo(a:(List Int)):Nat→(List Int)→Int→Ae ((List Int)×Bool)
 | 0,_,_=>none
 | m+1,c,b=>(if (decide (b<(a.length:Int)))=true then (AG a b).bind fun d =>
 (Kz c d).bind fun e =>
 (Eo a m) (e) ((Ah (b+1))) else some (c,true))
def IC(b:(List Ag)):Ae ((List Int)×Bool) :=
 (HB b).bind fun a =>
 (if (!a.2.2)=true then some ([],false) else (JH a.1.2.2.2.2.2.2.1).bind fun c =>
 (BB c a.1.2.2.2.2.2.2.2.1).bind fun d =>
 Eo d FU ([]) (0))
def DE(b:(List (List Ag))):Nat→(List Int)→Int→Ae ((List Int)×Bool)
 | 0,_,_=>none
 | m+1,c,a=>(if (decide (a<(b.length:Int)))=true then Bf (fun (g:(List Int))=>(DE b m) (g) ((Ah (a+1)))) (fun d=>(AG b a).bind fun e =>
 Bf (fun (h:Bool)=>(if h=true then (BB c [(Ah (a+1))]).bind fun i =>
 d (i) else d (c))) (fun f=>(if (e==[110,111])=true then f (true) else f ((e==[119,104,97,116]))))) else some (c,true))
def II(c:(List Ag)):Ae ((List Int)×Bool) :=
 Fx (fun (d:(List (List Ag))) (e:Bool)=>(if (!e)=true then some ([],false) else DE d FU ([]) (0))) (fun b=>(EH c).bind fun a =>
 (if a.1.1=true then b (a.2.1) (a.2.2) else b (a.2.1) (a.2.2)))
def HC(b:(List Ag)):Ae (Akj×Bool) :=
 (HB b).bind fun a =>
 (if (!a.2.2)=true then some ([],false) else some (a.1.2.2.2.2.2.1,true))
def G9(b:(List Ag)):Ae (Akj×Bool) :=
 (EH b).bind fun a =>
 (if a.1.1=true then (if (!a.2.2)=true then some ([],false) else some (a.1.2.2.2.2.2.2,true)) else (if (!a.2.2)=true then some ([],false) else none))
def Ec(a:Akm):Ae (Int×Akm) :=
 Bf (fun (b:Int)=>(if (decide ((Ah (a.2.1+1))≤(a.1.length:Int)))=true then some (b,(a.1,(Ah (a.2.1+1)),(Bi ((Bi ((Bi (a.2.2*6364136223846793005))+(Bi b)))+1442695040888963407)))) else some ((Ah (B8 .u64 (Bu .u64 (Bi ((Bi ((Bi (a.2.2*6364136223846793005))+(Bi b)))+1442695040888963407)) 40) 255)),(a.1,(Ah (a.2.1+1)),(Bi ((Bi ((Bi (a.2.2*6364136223846793005))+(Bi b)))+1442695040888963407)))))) (fun c=>(if (decide (a.2.1<(a.1.length:Int)))=true then (AG a.1 a.2.1).bind fun d =>
 c ((Ah d)) else c (0)))
def BM(b:Akm)(c:Int):Ae (Int×Akm) :=
 (if (decide (c≤1))=true then some (0,b) else (Ec b).bind fun a =>
 Sa (fun (f:Int) (g:Int) (h:Int)=>(if c=0 then none else some ((Int.tmod h c),(b.1,f,g)))) (fun e=>(if (decide (200<c))=true then (Ec (b.1,a.2.2.1,a.2.2.2)).bind fun d =>
 e (d.2.2.1) (d.2.2.2) ((Ah ((Ah (a.1*256))+d.1))) else e (a.2.2.1) (a.2.2.2) (a.1))))
def Em(b:Akm)(c:Int):Ae (Bool×Akm) :=
 (BM b c).bind fun a =>
 some ((a.1==0),(b.1,a.2.2.1,a.2.2.2))
def DQ(b:Akm)(c:(List Int)):Ae (Int×Akm) :=
 (BM b (c.length:Int)).bind fun a =>
 (AG c a.1).bind fun d =>
 some (d,(b.1,a.2.2.1,a.2.2.2))
def BF(b:Akm)(c:(List (List Ag))):Ae ((List Ag)×Akm) :=
 (BM b (c.length:Int)).bind fun a =>
 (AG c a.1).bind fun d =>
 some (d,(b.1,a.2.2.1,a.2.2.2))
def Do(b:Akm):Ae ((List Ag)×Akm) :=
 (BM b 4).bind fun e =>
 (CL e.1).bind fun c =>
 (BM (b.1,e.2.2.1,e.2.2.2) 4).bind fun f =>
 (CL f.1).bind fun d =>
 (DQ (b.1,f.2.2.1,f.2.2.2) [0,8,24,32,80,1280,1281]).bind fun g =>
 (CL g.1).bind fun v =>
 (DQ (b.1,g.2.2.1,g.2.2.2) [0,8,16,32,672,673]).bind fun h =>
 (CL h.1).bind fun w =>
 (BM (b.1,h.2.2.1,h.2.2.2) 20).bind fun a =>
 Bf (fun (ab:Bool)=>(if ab=true then (BB [115,112,111,116,32] v).bind fun ac =>
 (BB ac [32]).bind fun ad =>
 (BB ad w).bind fun ae =>
 some (ae,(b.1,a.2.2.1,a.2.2.2)) else Bf (fun (af:Bool)=>(if af=true then (BB [112,108,97,99,101,32] c).bind fun ag =>
 (BB ag [32]).bind fun ah =>
 (BB ah v).bind fun ai =>
 (BB ai [32]).bind fun aj =>
 (BB aj w).bind fun ak =>
 some (ak,(b.1,a.2.2.1,a.2.2.2)) else (if (a.1==5)=true then (BF (b.1,a.2.2.1,a.2.2.2) [[109,105,114,114,111,114],[107,101,101,112],[107,101,101,112],[115,117,109],[108,101,97,115,116]]).bind fun i =>
 some (i.1,(b.1,i.2.2.1,i.2.2.2)) else (if (a.1==6)=true then (BF (b.1,a.2.2.1,a.2.2.2) [[49],[52],[56],[49,54],[49,55],[54,52],[54,53]]).bind fun j =>
 (BB [99,111,117,110,116,115,32] j.1).bind fun al =>
 some (al,(b.1,j.2.2.1,j.2.2.2)) else Bf (fun (am:Bool)=>(if am=true then (BF (b.1,a.2.2.1,a.2.2.2) [[99,108,111,115,101,32],[107,105,110,100,32]]).bind fun k =>
 (BF (b.1,k.2.2.1,k.2.2.2) [[48],[56],[49,54],[56,48],[56,49]]).bind fun l =>
 (BB k.1 l.1).bind fun an =>
 some (an,(b.1,l.2.2.1,l.2.2.2)) else (if (a.1==9)=true then (BB [116,101,120,116,32] c).bind fun ao =>
 some (ao,(b.1,a.2.2.1,a.2.2.2)) else (if (a.1==10)=true then (BB [115,111,117,110,100,32] c).bind fun ap =>
 (BB ap [32]).bind fun aq =>
 (BB aq d).bind fun ar =>
 some (ar,(b.1,a.2.2.1,a.2.2.2)) else Bf (fun (au:Bool)=>(if au=true then (BF (b.1,a.2.2.1,a.2.2.2) [[52],[51],[49,50],[49,51]]).bind fun m =>
 (BB [109,101,97,115,117,114,101,32] m.1).bind fun av =>
 (BB av [32]).bind fun aw =>
 (BF (b.1,m.2.2.1,m.2.2.2) [[54,48],[49,50,48],[50,50,49]]).bind fun n =>
 (BB aw n.1).bind fun ax =>
 some (ax,(b.1,n.2.2.1,n.2.2.2)) else (if (a.1==13)=true then (BF (b.1,a.2.2.1,a.2.2.2) [[48],[52],[53],[56],[57,57]]).bind fun o =>
 (BB [116,105,109,101,32] o.1).bind fun ay =>
 some (ay,(b.1,o.2.2.1,o.2.2.2)) else (if (a.1==14)=true then (BB [99,97,114,114,121,32] c).bind fun az =>
 (BB az [32]).bind fun a0 =>
 (BB a0 d).bind fun a1 =>
 (BB a1 [32]).bind fun a2 =>
 (BF (b.1,a.2.2.1,a.2.2.2) [[48],[52],[56]]).bind fun p =>
 (BB a2 p.1).bind fun a3 =>
 (BB a3 [32]).bind fun a4 =>
 (BF (b.1,p.2.2.1,p.2.2.2) [[54],[49,50],[49,48,48,49]]).bind fun q =>
 (BB a4 q.1).bind fun a5 =>
 some (a5,(b.1,q.2.2.1,q.2.2.2)) else (if (a.1==15)=true then (BB [119,104,111,32] d).bind fun a6 =>
 (BB a6 [32]).bind fun a7 =>
 (BF (b.1,a.2.2.1,a.2.2.2) [[48],[53],[57],[49,48,48,48]]).bind fun r =>
 (BB a7 r.1).bind fun a8 =>
 some (a8,(b.1,r.2.2.1,r.2.2.2)) else Bf (fun (a9:Bool)=>(if a9=true then (BB [118,101,114,115,105,111,110,32] c).bind fun ba =>
 (BB ba [32]).bind fun bb =>
 (BB bb d).bind fun bc =>
 (BB bc [32]).bind fun bd =>
 (BF (b.1,a.2.2.1,a.2.2.2) [[48],[55],[57,57,57],[49,48,48,48]]).bind fun s =>
 (BB bd s.1).bind fun be =>
 some (be,(b.1,s.2.2.1,s.2.2.2)) else (if (a.1==18)=true then (BB [115,116,97,116,101,32] c).bind fun bf =>
 some (bf,(b.1,a.2.2.1,a.2.2.2)) else (BF (b.1,a.2.2.1,a.2.2.2) [[102,108,121],[],[115,112,111,116,32,49],[115,112,111,116,32,120,32,49],[112,108,97,99,101,32,48,32,49],[109,105,114,114,111,114,32,49],[116,105,109,101,32,48,49],[116,105,109,101,32,49,48,48,48,48,48],[118,101,114,115,105,111,110,32,45,32,49,32,49],[119,104,111,32,49]]).bind fun t =>
 some (t.1,(b.1,t.2.2.1,t.2.2.2))))) (fun x=>(if (a.1==16)=true then x ((a.1==16)) else x ((a.1==17))))))))) (fun y=>(if (a.1==11)=true then y ((a.1==11)) else y ((a.1==12)))))))) (fun z=>(if (a.1==7)=true then z ((a.1==7)) else z ((a.1==8)))))))) (fun aa=>(if (a.1==3)=true then aa ((a.1==3)) else aa ((a.1==4)))))) (fun u=>(if (a.1==0)=true then u ((a.1==0)) else (if (a.1==1)=true then u ((a.1==1)) else u ((a.1==2)))))
def DW(a:((List Ag)→Ae (List Ag))):Nat→(List Ag)→Int→Ae (List Ag)
 | 0,_,_=>none
 | m+1,b,c=>(if (decide (0<c))=true then (BB b [107,101,101,112,10]).bind fun d =>
 (DW a m) (d) ((Ah (c-1))) else a (b))
def DV(b:(Int×Akm))(c:((List Ag)→Ae (List Ag))):Nat→(List Ag)→Ae (List Ag)
 | 0,_=>none
 | m+1,a=>(if (decide ((a.length:Int)<(Ah (1999+b.1))))=true then (BB a [120]).bind fun d =>
 (DV b c m) (d) else (BB a [10]).bind fun e =>
 c (e))
def D2(b:(List Int)):Nat→Int→Int→(List Ag)→Int→Ae (List Ag)
 | 0,_,_,_,_=>none
 | m+1,f,g,c,h=>(if (decide (0≤h))=true then (Do (b,f,g)).bind fun d =>
 (BB d.1 [10]).bind fun i =>
 (BB c i).bind fun j =>
 (D2 b m) (d.2.2.1) (d.2.2.2) (j) ((Ah (h-1))) else Bf (fun (k:(List Ag))=>some k) (fun e=>(BM (b,f,g) 30).bind fun a =>
 (if (a.1==0)=true then (sl c 0 (Ah ((c.length:Int)-1))).bind fun l =>
 some l else (if (a.1==1)=true then (BM (b,a.2.2.1,a.2.2.2) 2).bind fun n =>
 DW e FU ([]) ((Ah (40+n.1))) else (if (a.1==2)=true then some [] else (if (a.1==3)=true then (BM (b,a.2.2.1,a.2.2.2) 2).bind fun o =>
 DV o e FU ([107,101,101,112,10]) else e (c)))))))
def Ga(b:(List Int)):Ae (List Ag) :=
 Sa (fun (e:Int) (f:Int) (g:(List Ag))=>(BM (b,e,f) 18).bind fun c =>
 D2 b FU (c.2.2.1) (c.2.2.2) (g) (c.1)) (fun d=>(Em (b,0,0) 5).bind fun a =>
 (if (!a.1)=true then d (a.2.2.1) (a.2.2.2) ([115,112,111,116,32,50,52,32,51,50,10,115,112,111,116,32,52,56,32,51,50,10,107,101,101,112,10,109,101,97,115,117,114,101,32,52,32,54,48,10,112,108,97,99,101,32,49,32,52,56,32,48,10,112,108,97,99,101,32,50,32,50,52,32,51,50,10]) else d (a.2.2.1) (a.2.2.2) ([])))
def FF(a:(List Int)):Ae ((List Ag)×(List Ag)) :=
 (Ga a).bind fun d =>
 (Do (a,0,0)).bind fun b =>
 (BB b.1 [10]).bind fun e =>
 Bf (fun (f:(List Ag))=>some (d,f)) (fun c=>(Em (a,b.2.2.1,b.2.2.2) 10).bind fun g =>
 (if g.1=true then c ([107,101,101,112]) else c (e)))
def IH(a b:(List Ag)):Ae ((List Ag)×Bool) :=
 (DX a).bind fun d =>
 (DX b).bind fun e =>
 (BB a b).bind fun f =>
 (DX f).bind fun g =>
 Bf (fun (h:Bool)=>(if h=true then some ([],false) else (BB a b).bind fun i =>
 some (i,true))) (fun c=>(if (!d.2)=true then c (true) else (if (!e.2)=true then c (true) else c ((!g.2)))))
def IB(a b:(List Ag)):Ae ((List Ag)×Bool) :=
 (FE a).bind fun d =>
 (FE b).bind fun e =>
 (BB a b).bind fun f =>
 (FE f).bind fun g =>
 Bf (fun (h:Bool)=>(if h=true then some ([],false) else (BB a b).bind fun i =>
 some (i,true))) (fun c=>(if (!d.2)=true then c (true) else (if (!e.2)=true then c (true) else c ((!g.2)))))
def IR(b c:(List Int)):Nat→Int→Ae Bool
 | 0,_=>none
 | m+1,a=>(if (decide (a<(b.length:Int)))=true then (AG b a).bind fun d =>
 (AG c a).bind fun e =>
 (if (d != e)=true then some false else (IR b c m) ((Ah (a+1)))) else some true)
def NH(a b:(List Int)):Ae Bool :=
 (if ((a.length:Int) != (b.length:Int))=true then some false else IR a b FU (0))
def Ht(a:(List Int))(c:Int):Nat→Int→Ae Bool
 | 0,_=>none
 | m+1,b=>(if (decide (b<(a.length:Int)))=true then (AG a b).bind fun d =>
 (if (d==c)=true then some true else (Ht a c m) ((Ah (b+1)))) else some false)
def MK(a:(List Int))(b:Int):Ae Bool :=
 Ht a b FU (0)
def Gw(b c:Akg):Nat→Int→Ae Bool
 | 0,_=>none
 | m+1,a=>(if (decide (a<(b.length:Int)))=true then (AG b a).bind fun d =>
 (AG c a).bind fun e =>
 (if (!(Lv d e))=true then some false else (Gw b c m) ((Ah (a+1)))) else some true)
def Jc(a b:Akg):Ae Bool :=
 (if ((a.length:Int) != (b.length:Int))=true then some false else Gw a b FU (0))
def Gx(b c:Akg):Nat→Int→Ae Bool
 | 0,_=>none
 | m+1,a=>(if (decide (a<(b.length:Int)))=true then (AG b a).bind fun d =>
 (AG c a).bind fun e =>
 (if (!(MG d e))=true then some false else (Gx b c m) ((Ah (a+1)))) else some true)
def Kl(a b:Akg):Ae Bool :=
 (if ((a.length:Int) != (b.length:Int))=true then some false else Gx a b FU (0))
def EM(b c:Akj):Nat→Int→Ae Bool
 | 0,_=>none
 | m+1,a=>(if (decide (a<(b.length:Int)))=true then (AG b a).bind fun d =>
 (AG c a).bind fun e =>
 (if (!(MF d e))=true then some false else (EM b c m) ((Ah (a+1)))) else some true)
def It(a b:Akj):Ae Bool :=
 (if ((a.length:Int) != (b.length:Int))=true then some false else EM a b FU (0))
def CH(b:(List Ag))(g:((List Int)×Bool)):Nat→(List Ag)→Int→Int→Ae Bool
 | 0,_,_,_=>none
 | m+1,d,f,e=>(if (decide (e<(b.length:Int)))=true then Fx (fun (u:(List Ag)) (v:Int)=>(CH b g m) (u) (v) ((Ah (e+1)))) (fun o=>Bf (fun (p:(List Ag))=>(AG b e).bind fun w =>
 (if ((UInt8.toNat w:Int)==10)=true then o (p) ((Ah (f+1))) else o (p) (f))) (fun q=>(MK g.1 f).bind fun x =>
 (if (!x)=true then (sl b e (Ah (e+1))).bind fun y =>
 (BB d y).bind fun z =>
 q (z) else q (d)))) else (HR b).bind fun h =>
 (HR d).bind fun r =>
 (Ji b).bind fun i =>
 (HQ b).bind fun j =>
 (HQ d).bind fun s =>
 (Jh b).bind fun k =>
 (G9 b).bind fun l =>
 (G9 d).bind fun t =>
 (HC b).bind fun n =>
 (Ii b).bind fun c =>
 Bf (fun (aa:Bool)=>some aa) (fun a=>(if h.2=true then (if r.2=true then (if i.2=true then (Jc h.1 i.1).bind fun ab =>
 (if ab=true then (Jc r.1 i.1).bind fun ac =>
 (if ac=true then (if j.2=true then (if s.2=true then (if k.2=true then (Kl j.1 k.1).bind fun ad =>
 (if ad=true then (Kl s.1 k.1).bind fun ae =>
 (if ae=true then (if l.2=true then (if t.2=true then (if n.2=true then (It l.1 n.1).bind fun af =>
 (if af=true then (It t.1 n.1).bind fun ag =>
 (if ag=true then (if c.2.2.2=true then (if ((Ah (c.1+c.2.1))==(g.1.length:Int))=true then (if ((Ah ((Ah (c.1+c.2.1))+c.2.2.1))==(Ah (f-1)))=true then (DD h.1).bind fun ah =>
 (if ah=true then (Hv j.1).bind fun ai =>
 (if ai=true then (EC l.1).bind fun aj =>
 a (aj) else a (false)) else a (false)) else a (false)) else a (false)) else a (false)) else a (false)) else a (false)) else a (false)) else a (false)) else a (false)) else a (false)) else a (false)) else a (false)) else a (false)) else a (false)) else a (false)) else a (false)) else a (false)) else a (false)) else a (false))))
def Iu(h i:(List Int)):Ae Bool :=
 (if (decide (1048576<(Ah ((h.length:Int)+(i.length:Int)))))=true then some true else (Ga h).bind fun a =>
 (GP a).bind fun j =>
 (KA a).bind fun o =>
 (II a).bind fun e =>
 (IC a).bind fun f =>
 (FF i).bind fun b =>
 (IH b.1 b.2).bind fun d =>
 (IB b.1 b.2).bind fun k =>
 Bf (fun (p:Bool)=>(if p=true then some false else jK0 ((if (!e.2)=true then some (j==[]) else CH a f FU ([]) (1) (0))) (fun l=>(if d.2=true then (GP b.1).bind fun g =>
 (GP d.1).bind fun m =>
 Bf (fun (q:Bool)=>(if q=true then some false else l)) (fun n=>(if (decide ((m.length:Int)<(g.length:Int)))=true then n (true) else (sl m 0 (g.length:Int)).bind fun r =>
 n ((r != g)))) else l)))) (fun c=>(if (j != o)=true then c (true) else (if (e.2 != f.2)=true then c (true) else (NH e.1 f.1).bind fun s =>
 (if (!s)=true then c (true) else (if (d.2 != k.2)=true then c (true) else c ((d.1 != k.1))))))))
end Go.Proofs.YtellehgihceicaaGreatDoor
