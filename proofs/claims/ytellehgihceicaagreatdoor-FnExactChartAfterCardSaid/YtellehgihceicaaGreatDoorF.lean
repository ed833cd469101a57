/-
 THE FUNCTIONS of this seat as plain functions, by program (gen.py).
-/
import Derived.Test.YtellehgihceicaaGreatDoorCore20
import Derived.Test.YtellehgihceicaaGreatDoorLibF
set_option linter.unusedVariables false
set_option linter.unusedSimpArgs false
set_option maxRecDepth 100000
set_option maxHeartbeats 1600000
namespace Go.Proofs.YtellehgihceicaaGreatDoor
open Go
def M8 (x y:(Int × Int)):Bool:=(x.1 == y.1) && (x.2 == y.2)
def Lh  : Ae (Aev × Aev × Int × Aev × Aew × Aey × (List Int) × (List Int) × Int) :=
 some ([(0,0)],[(0,0)],8,[(4,120)],[],[((-1),0,0)],[],[],0)
def Fc (a:(List Aj)) (e:Int):Nat → (List (List Aj)) → Int → Int → Ae (List (List Aj))
 | 0,_,_,_=>none
 | m + 1,c,d,b=>(if (decide (b < (a.length:Int))) = true then Gl (fun (g:(List (List Aj))) (h:Int)=>(Fc a e m) (g) (h) ((Ag (b + 1)))) (fun f=>(AL a b).bind fun i =>
 (if ((UInt8.toNat i:Int) == e) = true then (sl a d b).bind fun j =>
 (Cm c [j]).bind fun k =>
 f (k) ((Ag (b + 1))) else f (c) (d))) else (sl a d (a.length:Int)).bind fun l =>
 (Cm c [l]).bind fun n =>
 some n)
def FN (a:(List Aj)) (b:Int):Ae (List (List Aj)) :=
 Fc a b FU ([]) (0) (0)
def JI (a:(List Aj)):Ae ((List (List Aj)) × Bool) :=
 Bk (fun (e:Bool)=>(if e = true then some ([],false) else (FN a 10).bind fun c =>
 (sl c 0 (Ag ((c.length:Int) - 1))).bind fun d =>
 (if (decide (40 < (d.length:Int))) = true then some ([],false) else some (d,true)))) (fun b=>(if (decide (2000 < (a.length:Int))) = true then b (true) else (if (a != []) = true then (AL a (Ag ((a.length:Int) - 1))).bind fun f =>
 b (((UInt8.toNat f:Int) != 10)) else b (false))))
def G9 (a:(List Aj)):Ae Int :=
 Bk (fun (f:Bool)=>(if f = true then some 0 else Bk (fun (g:Bool)=>(if g = true then some 1 else Bk (fun (h:Bool)=>(if h = true then some 2 else Bk (fun (i:Bool)=>(if i = true then some 3 else (if (a == [99,97,114,114,121]) = true then some 4 else some (-1)))) (fun e=>(if (a == [112,108,97,99,101]) = true then e ((a == [112,108,97,99,101])) else e ((a == [118,101,114,115,105,111,110])))))) (fun c=>(if (a == [115,112,111,116]) = true then c ((a == [115,112,111,116])) else (if (a == [115,111,117,110,100]) = true then c ((a == [115,111,117,110,100])) else (if (a == [109,101,97,115,117,114,101]) = true then c ((a == [109,101,97,115,117,114,101])) else c ((a == [119,104,111])))))))) (fun b=>(if (a == [99,111,117,110,116,115]) = true then b ((a == [99,111,117,110,116,115])) else (if (a == [99,108,111,115,101]) = true then b ((a == [99,108,111,115,101])) else (if (a == [107,105,110,100]) = true then b ((a == [107,105,110,100])) else (if (a == [116,101,120,116]) = true then b ((a == [116,101,120,116])) else (if (a == [116,105,109,101]) = true then b ((a == [116,105,109,101])) else b ((a == [115,116,97,116,101])))))))))) (fun d=>(if (a == [109,105,114,114,111,114]) = true then d ((a == [109,105,114,114,111,114])) else (if (a == [107,101,101,112]) = true then d ((a == [107,101,101,112])) else (if (a == [115,117,109]) = true then d ((a == [115,117,109])) else d ((a == [108,101,97,115,116]))))))
def BQ (a:Int) (c:Int) (d:Int):Ae Bool :=
 Bk (fun (e:Bool)=>some e) (fun b=>(if (decide (c ≤ a)) = true then b ((decide (a ≤ d))) else b (false)))
def FE (a:(List Aj)):Nat → Int → Int → Ae Int
 | 0,_,_=>none
 | m + 1,c,b=>(if (decide (b < (a.length:Int))) = true then Bk (fun (e:Bool)=>(if e = true then some (-1) else (AL a b).bind fun f =>
 (FE a m) ((Ag ((Ag (10 * c)) + (Ag (Mt ((UInt8.toNat f:Int) - 48)))))) ((Ag (b + 1))))) (fun d=>(AL a b).bind fun g =>
 (if (decide ((UInt8.toNat g:Int) < 48)) = true then d (true) else (AL a b).bind fun h =>
 d ((decide (57 < (UInt8.toNat h:Int)))))) else some c)
def Kn (a:(List Aj)):Ae Int :=
 Bk (fun (c:Bool)=>(if c = true then some (-1) else FE a FU (0) (0))) (fun b=>(BQ (a.length:Int) 1 6).bind fun d =>
 (if (!d) = true then b (true) else (AL a 0).bind fun e =>
 (if ((UInt8.toNat e:Int) == 48) = true then b ((decide (1 < (a.length:Int)))) else b (false))))
def Gm (a:Aev):Ae Aev :=
 (Cm [] a).bind fun b =>
 some b
def HY (a:(Int × Int)):Ae Bool :=
 Bk (fun (c:Bool)=>some c) (fun b=>(BQ a.1 0 1280).bind fun d =>
 (if d = true then (BQ a.2 0 672).bind fun e =>
 b (e) else b (false)))
def FF (a:Aev) (c:(Int × Int)) (d:(Int → Ae Bool)) (e:Int):Nat → Int → Ae Bool
 | 0,_=>none
 | m + 1,b=>(if (decide (b < (a.length:Int))) = true then (AL a b).bind fun f =>
 (if (M8 c f) = true then some false else (FF a c d e m) ((Ag (b + 1)))) else d ((Ag (e + 1))))
def Ei (a:Aev):Nat → Int → Ae Bool
 | 0,_=>none
 | m + 1,b=>(if (decide (b < (a.length:Int))) = true then (AL a b).bind fun c =>
 (HY c).bind fun d =>
 (if (!d) = true then some false else (sl a 0 b).bind fun e =>
 FF e c (Ei a m) b FU (0)) else (BQ (a.length:Int) 1 12).bind fun f =>
 some f)
def FK (a:Aev):Ae Bool :=
 Ei a FU (0)
def EF (a:(Aev × Aev × Int × Aev × Aew × Aey × (List Int) × (List Int) × Int)) (d:Aev) (b:Bool):Ae (Bool × (Aev × Aev × Int × Aev × Aew × Aey × (List Int) × (List Int) × Int)) :=
 Bk (fun (e:(Aev × Aev × Int × Aev × Aew × Aey × (List Int) × (List Int) × Int))=>some (b,e)) (fun c=>(if b = true then c ((d,a.2.1,a.2.2.1,a.2.2.2.1,a.2.2.2.2.1,a.2.2.2.2.2.1,a.2.2.2.2.2.2.1,a.2.2.2.2.2.2.2.1,a.2.2.2.2.2.2.2.2)) else c (a)))
def Mn (a:Aev) (c:Int):Ae Bool :=
 Bk (fun (d:Bool)=>some d) (fun b=>(FK a).bind fun e =>
 (if e = true then (BQ c 0 (Ag ((a.length:Int) - 1))).bind fun f =>
 b (f) else b (false)))
def Hf (a:Aev):Ae (Aev × Bool) :=
 (FK a).bind fun b =>
 (if (!b) = true then some ([],false) else some (a,true))
def GC (b:Aev) (a:Int) (d:(Int × Int)):Ae (Aev × Bool) :=
 (Mn b a).bind fun e =>
 (if (!e) = true then some ([],false) else (Gm b).bind fun c =>
 (AL c a).bind fun g =>
 (Hf (BD c a d)).bind fun f =>
 some f)
def KG (a:(Int × Int)):Ae (Int × Int) :=
 some ((Ag (1280 - a.1)),a.2)
def DK (a:Aev):Nat → Aev → Int → Ae (Aev × Bool)
 | 0,_,_=>none
 | m + 1,c,b=>(if (decide (b < (a.length:Int))) = true then (AL a b).bind fun d =>
 (KG d).bind fun e =>
 (Cm c [e]).bind fun f =>
 (DK a m) (f) ((Ag (b + 1))) else some (c,true))
def HG (a:Aev):Ae (Aev × Bool) :=
 (FK a).bind fun b =>
 (if (!b) = true then some ([],false) else DK a FU ([]) (0))
def IB (a:(Int × Int)):Ae Bool :=
 Bk (fun (c:Bool)=>some c) (fun b=>(BQ a.1 1 12).bind fun d =>
 (if d = true then (BQ a.2 40 220).bind fun e =>
 b (e) else b (false)))
def FD (a:Aev):Nat → Int → Ae Bool
 | 0,_=>none
 | m + 1,b=>(if (decide (b < (a.length:Int))) = true then (AL a b).bind fun c =>
 (IB c).bind fun d =>
 (if (!d) = true then some false else (FD a m) ((Ag (b + 1)))) else (BQ (a.length:Int) 1 40).bind fun e =>
 some e)
def Jc (a:Aev):Ae Bool :=
 FD a FU (0)
def HT (a:(Int × Int × Int × Int)) (b:(Int × Int × Int × Int)):Ae Bool :=
 Bk (fun (d:Bool)=>some d) (fun c=>(if (decide (a.2.2.1 < b.2.2.1)) = true then c (true) else (if (a.2.2.1 == b.2.2.1) = true then c ((decide (a.2.1 < b.2.1))) else c (false))))
def Jv (a:Int):Ae Bool :=
 (BQ a 1 12).bind fun b =>
 some b
def Jg (a:Int):Ae Bool :=
 (BQ a 1 9).bind fun b =>
 some b
def EH (c:Aew) (a:(Int × Int × Int × Int)) (f:(Int → Ae Bool)) (g:Int):Nat → Int → Ae Bool
 | 0,_=>none
 | m + 1,d=>(if (decide (d < (c.length:Int))) = true then (AL c d).bind fun b =>
 Bk (fun (h:Bool)=>(if h = true then some false else (EH c a f g m) ((Ag (d + 1))))) (fun e=>(if (b.2.1 == a.2.1) = true then e ((decide (a.2.2.1 < b.2.2.2))) else (if (b.1 == a.1) = true then e ((decide (a.2.2.1 < b.2.2.2))) else e (false)))) else f ((Ag (g + 1))))
def Du (b:Aew):Nat → Int → Ae Bool
 | 0,_=>none
 | m + 1,c=>(if (decide (c < (b.length:Int))) = true then (AL b c).bind fun a =>
 Bk (fun (e:Bool)=>(if e = true then some false else (sl b 0 c).bind fun f =>
 EH f a (Du b m) c FU (0))) (fun d=>(Jv a.1).bind fun g =>
 (if (!g) = true then d (true) else (Jg a.2.1).bind fun h =>
 (if (!h) = true then d (true) else (BQ a.2.2.1 0 999).bind fun i =>
 (if (!i) = true then d (true) else (BQ a.2.2.2 (Ag (a.2.2.1 + 1)) 1000).bind fun j =>
 (if (!j) = true then d (true) else (if (decide (0 < c)) = true then (AL b (Ag (c - 1))).bind fun k =>
 (HT k a).bind fun l =>
 d ((!l)) else d (false))))))) else some (decide ((b.length:Int) ≤ 40)))
def Jh (a:Aew):Ae Bool :=
 Du a FU (0)
def FG (a:Aew) (c:(Int × Int × Int × Int)) (d:(Aew → Ae (Aew × Bool))):Nat → Int → Ae (Aew × Bool)
 | 0,_=>none
 | m + 1,b=>Bk (fun (f:Bool)=>(if f = true then (FG a c d m) ((Ag (b - 1))) else (sl a 0 b).bind fun u64 =>
 (sl a b (a.length:Int)).bind fun g =>
 (Cm [] u64).bind fun h =>
 (Cm h [c]).bind fun i =>
 (Cm i g).bind fun j =>
 d (j))) (fun e=>(if (decide (0 < b)) = true then (AL a (Ag (b - 1))).bind fun k =>
 (HT c k).bind fun l =>
 e (l) else e (false)))
def EG (b:Aew):Nat → Aew → Int → Ae (Aew × Bool)
 | 0,_,_=>none
 | m + 1,a,c=>(if (decide (c < (b.length:Int))) = true then Bk (fun (d:Aew)=>(EG b m) (d) ((Ag (c + 1)))) (fun e=>(AL b c).bind fun f =>
 FG a f e FU ((a.length:Int))) else (Jh a).bind fun g =>
 (if (!g) = true then some ([],false) else some (a,true)))
def Jf (a:Aew):Ae (Aew × Bool) :=
 EG a FU ([]) (0)
def FB (d:Aey):Nat → Int → Ae Bool
 | 0,_=>none
 | m + 1,c=>(if (decide (c < (d.length:Int))) = true then (AL d c).bind fun a =>
 Bk (fun (e:Bool)=>(if e = true then some false else (FB d m) ((Ag (c + 1))))) (fun b=>(BQ a.1 0 (Ag (c - 1))).bind fun f =>
 (if (!f) = true then (if (decide (0 < c)) = true then b (true) else (if (a.1 != (-1)) = true then b (true) else (BQ a.2.1 0 7).bind fun g =>
 (if (!g) = true then b (true) else (BQ a.2.2 0 999).bind fun h =>
 b ((!h))))) else (BQ a.2.1 0 7).bind fun i =>
 (if (!i) = true then b (true) else (BQ a.2.2 0 999).bind fun j =>
 b ((!j))))) else (BQ (d.length:Int) 1 60).bind fun k =>
 some k)
def HX (a:Aey):Ae Bool :=
 FB a FU (0)
def Ig (a:Aey) (d:(Int × Int × Int)):Ae (Aey × Bool) :=
 Bk (fun (b:Aey)=>Bk (fun (e:Bool)=>(if e = true then some ([],false) else some (b,true))) (fun c=>(HX a).bind fun f =>
 (if (!f) = true then c (true) else (HX b).bind fun g =>
 c ((!g))))) (fun h=>(Cm [] a).bind fun i =>
 (Cm i [d]).bind fun j =>
 h (j))
def Cz (a:(Aev × Aev × Int × Aev × Aew × Aey × (List Int) × (List Int) × Int)) (f:(List Aj)) (b:(List Int)):Ae (Bool × (Aev × Aev × Int × Aev × Aew × Aey × (List Int) × (List Int) × Int)) :=
 Gl (fun (s:(Aev × Aev × Int × Aev × Aew × Aey × (List Int) × (List Int) × Int)) (t:Bool)=>some (t,s)) (fun c=>(if (f == [115,112,111,116]) = true then (AL b 0).bind fun u =>
 (AL b 1).bind fun v =>
 (Gm a.1).bind fun w =>
 (Cm w [(u,v)]).bind fun x =>
 (Hf x).bind fun k =>
 (EF a k.1 k.2).bind fun l =>
 c (l.2) (l.1) else (if (f == [112,108,97,99,101]) = true then (AL b 0).bind fun y =>
 (AL b 1).bind fun z =>
 (AL b 2).bind fun aa =>
 (GC a.1 y (z,aa)).bind fun m =>
 (EF a m.1 m.2).bind fun n =>
 c (n.2) (n.1) else (if (f == [109,105,114,114,111,114]) = true then (HG a.1).bind fun o =>
 (EF a o.1 o.2).bind fun p =>
 c (p.2) (p.1) else (if (f == [107,101,101,112]) = true then (Gm a.1).bind fun ab =>
 c ((a.1,ab,a.2.2.1,a.2.2.2.1,a.2.2.2.2.1,a.2.2.2.2.2.1,a.2.2.2.2.2.2.1,a.2.2.2.2.2.2.2.1,a.2.2.2.2.2.2.2.2)) (true) else (if (f == [99,111,117,110,116,115]) = true then (AL b 0).bind fun ac =>
 (BQ ac 1 64).bind fun h =>
 (if h = true then (AL b 0).bind fun ad =>
 c ((a.1,a.2.1,ad,a.2.2.2.1,a.2.2.2.2.1,a.2.2.2.2.2.1,a.2.2.2.2.2.2.1,a.2.2.2.2.2.2.2.1,a.2.2.2.2.2.2.2.2)) (h) else c (a) (h)) else (if (f == [109,101,97,115,117,114,101]) = true then Gl (fun (d:(Aev × Aev × Int × Aev × Aew × Aey × (List Int) × (List Int) × Int)) (q:Aev)=>(Jc q).bind fun i =>
 (if i = true then c ((d.1,d.2.1,d.2.2.1,q,d.2.2.2.2.1,d.2.2.2.2.2.1,d.2.2.2.2.2.2.1,d.2.2.2.2.2.2.2.1,d.2.2.2.2.2.2.2.2)) (i) else c (d) (i))) (fun ae=>(AL b 0).bind fun af =>
 (AL b 1).bind fun ag =>
 (Cm [] a.2.2.2.1).bind fun ah =>
 (Cm ah [(af,ag)]).bind fun ai =>
 ae (a) (ai)) else (if (f == [99,97,114,114,121]) = true then W0 (fun (e:(Aev × Aev × Int × Aev × Aew × Aey × (List Int) × (List Int) × Int)) (aj:Aew) (j:Bool)=>(if j = true then c ((e.1,e.2.1,e.2.2.1,e.2.2.2.1,aj,e.2.2.2.2.2.1,e.2.2.2.2.2.2.1,e.2.2.2.2.2.2.2.1,e.2.2.2.2.2.2.2.2)) (j) else c (e) (j))) (fun ak=>(AL b 0).bind fun al =>
 (AL b 1).bind fun am =>
 (AL b 2).bind fun an =>
 (AL b 3).bind fun ao =>
 (Cm [] a.2.2.2.2.1).bind fun ap =>
 (Cm ap [(al,am,an,ao)]).bind fun aq =>
 (Jf aq).bind fun r =>
 ak (a) (r.1) (r.2)) else (if (f == [118,101,114,115,105,111,110]) = true then (AL b 0).bind fun ar =>
 (AL b 1).bind fun au =>
 (AL b 2).bind fun av =>
 (Ig a.2.2.2.2.2.1 (ar,au,av)).bind fun g =>
 (if g.2 = true then c ((a.1,a.2.1,a.2.2.1,a.2.2.2.1,a.2.2.2.2.1,g.1,a.2.2.2.2.2.2.1,a.2.2.2.2.2.2.2.1,a.2.2.2.2.2.2.2.2)) (g.2) else c (a) (g.2)) else c (a) (true))))))))))
def Jd (a:Bool):Ae (List Aj) :=
 (if (!a) = true then some ([110,111]) else some ([111,107]))
def Je (b:Aev) (c:Aev):Ae Bool :=
 Bk (fun (d:Bool)=>some d) (fun a=>(FK b).bind fun e =>
 (if e = true then (FK c).bind fun f =>
 (if f = true then a (((b.length:Int) == (c.length:Int))) else a (false)) else a (false)))
def I1 (b:Aev) (c:Aev) (d:Int):Ae Bool :=
 Bk (fun (e:Bool)=>some e) (fun a=>(Je b c).bind fun f =>
 (if f = true then (BQ d 1 64).bind fun g =>
 a (g) else a (false)))
def GS (a:(Int × Int)) (b:(Int × Int)):Ae Int :=
 some (Ag ((Ag ((Ag (a.1 - b.1)) * (Ag (a.1 - b.1)))) + (Ag ((Ag (a.2 - b.2)) * (Ag (a.2 - b.2))))))
def Fh (a:Aev) (c:(Int × Int)) (d:Ae0) (e:(Ae0 → Int → Ae Ae0)) (f:Int):Nat → (List Int) → Int → Ae Ae0
 | 0,_,_=>none
 | m + 1,g,b=>(if (decide (b < (a.length:Int))) = true then (AL a b).bind fun h =>
 (GS c h).bind fun u64 =>
 (Cm g [u64]).bind fun i =>
 (Fh a c d e f m) (i) ((Ag (b + 1))) else (Cm d [g]).bind fun j =>
 e (j) ((Ag (f + 1))))
def Ey (a:Aev) (c:Aev):Nat → Ae0 → Int → Ae Ae0
 | 0,_,_=>none
 | m + 1,d,b=>(if (decide (b < (a.length:Int))) = true then (AL a b).bind fun e =>
 Fh c e d (Ey a c m) b FU ([]) (0) else some d)
def JL (a:Aev) (b:Aev):Ae Ae0 :=
 Ey a b FU ([]) (0)
def EQ (a:Int) (b:Int):Ae Int :=
 (if (decide (a < b)) = true then some a else some b)
def D0 (d:(List Int)) (a:Int) (e:((List Int) → Int → Ae (List Int))):Nat → (List Int) → Int → Ae (List Int)
 | 0,_,_=>none
 | m + 1,b,c=>(if (decide (c < (d.length:Int))) = true then Bk (fun (g:(List Int))=>(D0 d a e m) (g) ((Ag (c + 1)))) (fun f=>(AL d c).bind fun h =>
 (if (decide (0 ≤ (Bh c))) = true then (if ((B3 .i64 (Bs .i64 a (Bh c)) 1) == 1) = true then (AL b a).bind fun i =>
 (AL b (Sc .i64 a (KA .i64 1 (Bh c)))).bind fun j =>
 (EQ i (Ag (h + j))).bind fun k =>
 (AL b a).bind fun l =>
 f ((BD b a k)) else f (b)) else none)) else e (b) ((Ag (a + 1))))
def Ex (b:Ae0) (a:Int) (d:(List Int)) (e:((List Int) → Int → Ae (List Int))):Nat → Int → Int → Ae (List Int)
 | 0,_,_=>none
 | m + 1,f,c=>(if (decide (c < (b.length:Int))) = true then (if (decide (0 ≤ (Bh c))) = true then (Ex b a d e m) ((Ag (f + (B3 .i64 (Bs .i64 a (Bh c)) 1)))) ((Ag (c + 1))) else none) else (AL d a).bind fun h =>
 (AL b (Ag ((b.length:Int) - f))).bind fun g =>
 D0 g a e FU ((BD d a 1000000000)) (0))
def EY (a:Ae0):Nat → (List Int) → Int → Ae (List Int)
 | 0,_,_=>none
 | m + 1,b,c=>(if (decide (c < (KA .i64 1 (Bh (a.length:Int))))) = true then Ex a c b (EY a m) FU (0) (0) else some b)
def JE (a:Ae0):Ae (List Int) :=
 (if (decide (0 ≤ (Bh (a.length:Int)))) = true then (RS (KA .i64 1 (Bh (a.length:Int))) 0).bind fun b =>
 EY a FU (b) (1) else none)
def EZ (d:(List Int)) (b:Int) (e:(List Int)) (g:(List Int)) (h:(Int → (List Int) → Int → Ae Ae1)) (i:Int):Nat → Int → Int → Ae Ae1
 | 0,_,_=>none
 | m + 1,c,a=>(if (decide (a < (d.length:Int))) = true then Bk (fun (k:Int)=>(EZ d b e g h i m) (k) ((Ag (a + 1)))) (fun j=>(AL d a).bind fun l =>
 Bk (fun (n:Bool)=>(if n = true then j (a) else j (c))) (fun f=>(if (decide (c < 0)) = true then (if (decide (0 ≤ (Bh a))) = true then (if ((B3 .i64 (Bs .i64 b (Bh a)) 1) == 1) = true then (AL e b).bind fun o =>
 (AL e (Sc .i64 b (KA .i64 1 (Bh a)))).bind fun p =>
 f (((Ag (l + p)) == o)) else f (false)) else none) else f (false)))) else (Cm g [c]).bind fun q =>
 (if (decide (0 ≤ (Bh c))) = true then h ((Sc .i64 b (KA .i64 1 (Bh c)))) (q) ((Ag (i + 1))) else none))
def DT (b:Ae0) (a:(List Int)):Nat → Int → (List Int) → Int → Ae Ae1
 | 0,_,_,_=>none
 | m + 1,e,d,c=>(if (decide (c < (b.length:Int))) = true then (AL b c).bind fun f =>
 EZ f e a d (DT b a m) c FU ((-1)) (0) else (AL a (Ag ((a.length:Int) - 1))).bind fun g =>
 some (d,g))
def JF (a:Ae0):Ae Ae1 :=
 (JE a).bind fun b =>
 DT a b FU ((Ag ((b.length:Int) - 1))) ([]) (0)
def JG (a:(List Int)):Ae (List Int) :=
 (Cm [] a).bind fun b =>
 some b
def HZ (a:Aev) (b:Aev) (c:Int) (d:(List Int)):Ae (Aev × Aev × Int × (List Int)) :=
 (Gm a).bind fun u8 =>
 (Gm b).bind fun e =>
 (JG d).bind fun f =>
 some (u8,e,c,f)
def Gp (a:Aev) (b:Aev) (c:Int):Ae ((Aev × Aev × Int × (List Int)) × Bool) :=
 (I1 a b c).bind fun d =>
 (if (!d) = true then some (([],[],0,[]),false) else (JL a b).bind fun e =>
 (JF e).bind fun f =>
 (HZ a b c f.1).bind fun g =>
 some (g,true))
def Ga (a:(List Int)) (c:Int):Nat → Int → Ae Bool
 | 0,_=>none
 | m + 1,b=>(if (decide (b < (a.length:Int))) = true then (AL a b).bind fun d =>
 (if (d == c) = true then some true else (Ga a c m) ((Ag (b + 1)))) else some false)
def KW (a:(List Int)) (b:Int):Ae Bool :=
 Ga a b FU (0)
def EA (a:(List Int)) (c:Int):Nat → Int → Ae Bool
 | 0,_=>none
 | m + 1,b=>(if (decide (b < (a.length:Int))) = true then (AL a b).bind fun d =>
 Bk (fun (f:Bool)=>(if f = true then some false else (EA a c m) ((Ag (b + 1))))) (fun e=>(BQ d 0 (Ag (c - 1))).bind fun g =>
 (if (!g) = true then e (true) else (sl a 0 b).bind fun h =>
 (KW h d).bind fun i =>
 e (i))) else some ((a.length:Int) == c))
def Ju (a:(List Int)) (b:Int):Ae Bool :=
 EA a b FU (0)
def Ia (a:(Aev × Aev × Int × (List Int))):Ae Bool :=
 Bk (fun (c:Bool)=>some c) (fun b=>(Je a.1 a.2.1).bind fun d =>
 (if d = true then (BQ a.2.2.1 1 64).bind fun e =>
 (if e = true then (Ju a.2.2.2 (a.1.length:Int)).bind fun f =>
 b (f) else b (false)) else b (false)))
def Fg (a:(Aev × Aev × Int × (List Int))):Nat → (List Aex) → Int → Ae (List Aex)
 | 0,_,_=>none
 | m + 1,c,b=>(if (decide (b < (a.2.2.2.length:Int))) = true then (AL a.2.2.2 b).bind fun d =>
 (AL a.1 b).bind fun e =>
 (AL a.2.1 d).bind fun f =>
 (Cm c [(e,f,a.2.2.1)]).bind fun g =>
 (Fg a m) (g) ((Ag (b + 1))) else some c)
def GB (a:(Aev × Aev × Int × (List Int))):Ae (List Aex) :=
 Fg a FU ([]) (0)
def Gc (a:(List Aex)):Nat → Int → Int → Ae Int
 | 0,_,_=>none
 | m + 1,c,b=>(if (decide (b < (a.length:Int))) = true then (AL a b).bind fun d =>
 (GS d.1 d.2.1).bind fun e =>
 (Gc a m) ((Ag (c + e))) ((Ag (b + 1))) else some c)
def KY (a:(Aev × Aev × Int × (List Int))):Ae Int :=
 (GB a).bind fun b =>
 Gc b FU (0) (0)
def H2 (a:(Aev × Aev × Int × (List Int))):Ae (Int × Bool) :=
 (Ia a).bind fun b =>
 (if (!b) = true then some (0,false) else (KY a).bind fun c =>
 some (c,true))
def FO:Nat → Int → Ae (List Aj)
 | 0,_=>none
 | m + 1,a=>(if (decide (a < 10)) = true then some (K0 [(Mt (Ag (48 + a)))]) else Bk (fun (b:(List Aj))=>some b) (fun c=>(FO m (Ag (Int.tdiv a 10))).bind fun d =>
 (Cm d (K0 [(Mt (Ag (48 + (Int.tmod a 10))))])).bind fun e =>
 c (e)))
def Dd (a:Int):Ae (List Aj) :=
 FO FU a
def Ml (a:Int):Ae (List Aj) :=
 (if (decide (a < 0)) = true then (Dd (Ag (0 - a))).bind fun b =>
 (Cm [45] b).bind fun c =>
 some c else (Dd a).bind fun d =>
 some d)
def Fq (a:Int) (b:Bool):Ae (List Aj) :=
 (if (!b) = true then some ([110,111]) else (Ml a).bind fun c =>
 some c)
def Df (a:Aev) (c:Aev) (d:Int):Nat → (List Int) → Int → Ae ((Aev × Aev × Int × (List Int)) × Bool)
 | 0,_,_=>none
 | m + 1,e,b=>(if (decide (b < (a.length:Int))) = true then (Cm e [b]).bind fun f =>
 (Df a c d m) (f) ((Ag (b + 1))) else (HZ a c d e).bind fun g =>
 some (g,true))
def Gn (a:Aev) (b:Aev) (c:Int):Ae ((Aev × Aev × Int × (List Int)) × Bool) :=
 (I1 a b c).bind fun d =>
 (if (!d) = true then some (([],[],0,[]),false) else Df a b c FU ([]) (0))
def ED (a:(Aev × Aev × Int × Aev × Aew × Aey × (List Int) × (List Int) × Int)):Ae ((Aev × Aev × Int × (List Int)) × Bool) :=
 (Gn a.2.1 a.1 a.2.2.1).bind fun b =>
 some b
def Hg (a:Int):Ae Bool :=
 (BQ a 0 80).bind fun b =>
 some b
def Li (b:(Aev × Aev × Int × (List Int))) (c:Int):Ae Bool :=
 Bk (fun (d:Bool)=>some d) (fun a=>(Ia b).bind fun e =>
 (if e = true then (Hg c).bind fun f =>
 a (f) else a (false)))
def Kr (a:Aex) (b:Aex):Ae (Int × Int × Int × Int) :=
 some ((Ag (a.1.1 - b.1.1)),(Ag (a.1.2 - b.1.2)),(Ag (a.2.1.1 - b.2.1.1)),(Ag (a.2.1.2 - b.2.1.2)))
def Lk (c:Aex) (d:Aex):Ae (Int × Int) :=
 (Kr c d).bind fun a =>
 Bk (fun (e:Bool)=>(if e = true then some (0,0) else some ((Ag (0 - (Ag ((Ag (a.1 * (Ag (a.2.2.1 - a.1)))) + (Ag (a.2.1 * (Ag (a.2.2.2 - a.2.1)))))))),(Ag ((Ag ((Ag (a.2.2.1 - a.1)) * (Ag (a.2.2.1 - a.1)))) + (Ag ((Ag (a.2.2.2 - a.2.1)) * (Ag (a.2.2.2 - a.2.1))))))))) (fun b=>(if (decide ((Ag (0 - (Ag ((Ag (a.1 * (Ag (a.2.2.1 - a.1)))) + (Ag (a.2.1 * (Ag (a.2.2.2 - a.2.1)))))))) ≤ 0)) = true then b (true) else b ((decide ((Ag ((Ag ((Ag (a.2.2.1 - a.1)) * (Ag (a.2.2.1 - a.1)))) + (Ag ((Ag (a.2.2.2 - a.2.1)) * (Ag (a.2.2.2 - a.2.1)))))) ≤ (Ag (0 - (Ag ((Ag (a.1 * (Ag (a.2.2.1 - a.1)))) + (Ag (a.2.1 * (Ag (a.2.2.2 - a.2.1)))))))))))))
def Hp (a:Int) (b:Int):Ae Int :=
 (if (decide (b < a)) = true then some a else some b)
def Mm (a:Int):Ae Int :=
 (Hp a (Ag (0 - a))).bind fun b =>
 some b
def Gx (c:Int) (d:Int):Nat → Int → Int → Ae (Int × Int)
 | 0,_,_=>none
 | m + 1,a,b=>(if (decide (0 < b)) = true then (if b = 0 then none else (Gx c d m) (b) ((Int.tmod a b))) else (if a = 0 then none else (if a = 0 then none else some ((Ag (Int.tdiv c a)),(Ag (Int.tdiv d a))))))
def Jb (a:Int) (b:Int):Ae (Int × Int) :=
 (Mm a).bind fun c =>
 Gx a b FU (c) (b)
def JM (b:Aex) (c:Aex):Ae (Int × Int) :=
 (Kr b c).bind fun a =>
 (Lk b c).bind fun d =>
 (if (decide (0 < d.2)) = true then (Jb (Ag ((Ag ((Ag (a.1 * a.2.2.2)) - (Ag (a.2.1 * a.2.2.1)))) * (Ag ((Ag (a.1 * a.2.2.2)) - (Ag (a.2.1 * a.2.2.1)))))) d.2).bind fun e =>
 some e else (EQ (Ag ((Ag (a.1 * a.1)) + (Ag (a.2.1 * a.2.1)))) (Ag ((Ag (a.2.2.1 * a.2.2.1)) + (Ag (a.2.2.2 * a.2.2.2))))).bind fun f =>
 some (f,1))
def Kp (c:Aex) (d:Aex) (a:Int):Ae Bool :=
 (JM c d).bind fun b =>
 some (decide ((Ag ((Ag (a * a)) * b.2)) ≤ b.1))
def Fe (u8:(List Aex)) (d:Aex) (e:Int) (b:Int) (f:(Ae0 → Int → Ae Ae0)):Nat → Ae0 → Int → Ae Ae0
 | 0,_,_=>none
 | m + 1,c,a=>(if (decide (a < (u8.length:Int))) = true then Bk (fun (h:Ae0)=>(Fe u8 d e b f m) (h) ((Ag (a + 1)))) (fun g=>(AL u8 a).bind fun i =>
 (Kp d i e).bind fun j =>
 (if (!j) = true then (Cm c [[b,a]]).bind fun k =>
 g (k) else g (c))) else f (c) ((Ag (b + 1))))
def Ff (u8:(List Aex)) (b:Int):Nat → Ae0 → Int → Ae Ae0
 | 0,_,_=>none
 | m + 1,c,a=>(if (decide (a < (u8.length:Int))) = true then (AL u8 a).bind fun d =>
 Fe u8 d b a (Ff u8 b m) FU (c) ((Ag (a + 1))) else some c)
def JK (a:(Aev × Aev × Int × (List Int))) (b:Int):Ae Ae0 :=
 (GB a).bind fun u8 =>
 Ff u8 b FU ([]) (0)
def GT (a:(Aev × Aev × Int × (List Int))) (b:Int):Ae (Ae0 × Bool) :=
 (Li a b).bind fun c =>
 (if (!c) = true then some ([],false) else (JK a b).bind fun d =>
 some (d,true))
def CR (c:(Ae0 × Bool)):Nat → (List Aj) → Int → Ae (List Aj)
 | 0,_,_=>none
 | m + 1,a,b=>(if (decide (b < (c.1.length:Int))) = true then (AL c.1 b).bind fun d =>
 Bk (fun (f:(List Aj))=>(AL d 0).bind fun g =>
 (AL d 1).bind fun h =>
 (Dd g).bind fun i =>
 (Cm i [45]).bind fun j =>
 (Dd h).bind fun k =>
 (Cm j k).bind fun l =>
 (Cm f l).bind fun n =>
 (CR c m) (n) ((Ag (b + 1)))) (fun e=>(if (decide (0 < b)) = true then (Cm a [32]).bind fun o =>
 e (o) else e (a))) else (if (a == []) = true then some ([110,111,110,101]) else some a))
def Hs (d:(Aev × Aev × Int × Aev × Aew × Aey × (List Int) × (List Int) × Int)) (e:Int):Ae (List Aj) :=
 (ED d).bind fun a =>
 (GT a.1 e).bind fun b =>
 Bk (fun (f:Bool)=>(if f = true then some ([110,111]) else CR b FU ([]) (0))) (fun c=>(if (!a.2) = true then c (true) else c ((!b.2))))
def L7 (a:(Aev × Aev × Int × (List Int))):Ae Bool :=
 Bk (fun (c:Bool)=>some c) (fun b=>(Ia a).bind fun d =>
 (if d = true then (if (decide (a.2.2.1 ≤ 16)) = true then b ((decide ((a.1.length:Int) ≤ 6))) else b (false)) else b (false)))
def L1 (a:Aex) (b:Int):Ae (Int × Int) :=
 some ((Ag ((Ag (a.1.1 * a.2.2)) + (Ag ((Ag (a.2.1.1 - a.1.1)) * b)))),(Ag ((Ag (a.1.2 * a.2.2)) + (Ag ((Ag (a.2.1.2 - a.1.2)) * b)))))
def Is (a:Aex) (b:Int) (c:Int):Ae (Int × Int) :=
 (EQ a.2.2 (Ag (c - b))).bind fun d =>
 (Hp 0 d).bind fun e =>
 (L1 a e).bind fun f =>
 some f
def Km (a:Int) (b:Int) (c:Int) (d:Int):Ae (Int × Int) :=
 Bk (fun (f:Bool)=>(if f = true then some ((Ag ((Ag ((Ag (a * d)) - (Ag (b * c)))) * (Ag ((Ag (a * d)) - (Ag (b * c)))))),(Ag ((Ag ((Ag (c - a)) * (Ag (c - a)))) + (Ag ((Ag (d - b)) * (Ag (d - b))))))) else (EQ (Ag ((Ag (a * a)) + (Ag (b * b)))) (Ag ((Ag (c * c)) + (Ag (d * d))))).bind fun g =>
 some (g,1))) (fun e=>(if (decide (0 < (Ag (0 - (Ag ((Ag (a * (Ag (c - a)))) + (Ag (b * (Ag (d - b)))))))))) = true then e ((decide ((Ag (0 - (Ag ((Ag (a * (Ag (c - a)))) + (Ag (b * (Ag (d - b)))))))) < (Ag ((Ag ((Ag (c - a)) * (Ag (c - a)))) + (Ag ((Ag (d - b)) * (Ag (d - b))))))))) else e (false)))
def Kq (c:Int) (a:Int) (d:Int) (b:Int):Ae Bool :=
 (if a = 0 then none else (if b = 0 then none else (if ((Ag (Int.tdiv c a)) != (Ag (Int.tdiv d b))) = true then (if a = 0 then none else (if b = 0 then none else some (decide ((Ag (Int.tdiv c a)) < (Ag (Int.tdiv d b)))))) else (if a = 0 then none else (if b = 0 then none else some (decide ((Ag ((Int.tmod c a) * b)) < (Ag ((Int.tmod d b) * a)))))))))
def EV (c:Int) (d:Int) (a:Aex) (g:Aex):Nat → Int → Int → Int → Ae (Int × Int)
 | 0,_,_,_=>none
 | m + 1,e,h,b=>(Hp c d).bind fun p =>
 (if (decide (b < (Ag (a.2.2 + p)))) = true then Gl (fun (q:Int) (r:Int)=>(EV c d a g m) (q) (r) ((Ag (b + 1)))) (fun i=>(Is a c b).bind fun j =>
 (Is g d b).bind fun k =>
 (Is a c (Ag (b + 1))).bind fun l =>
 (Is g d (Ag (b + 1))).bind fun n =>
 (Km (Ag (j.1 - k.1)) (Ag (j.2 - k.2)) (Ag (l.1 - n.1)) (Ag (l.2 - n.2))).bind fun f =>
 Bk (fun (s:Bool)=>(if s = true then i (f.1) (f.2) else i (e) (h))) (fun o=>(if (decide (e < 0)) = true then o (true) else (Kq f.1 f.2 e h).bind fun t =>
 o (t)))) else (Jb e (Ag ((Ag (h * a.2.2)) * a.2.2))).bind fun u =>
 some u)
def Iz (a:Aex) (b:Aex) (c:Int) (d:Int):Ae (Int × Int) :=
 EV c d a b FU ((-1)) (1) (0)
def Ja (c:Aex) (d:Aex) (e:Int) (f:Int) (b:Int):Ae Bool :=
 (Iz c d e f).bind fun a =>
 (if a.2 = 0 then none else some (decide ((Ag (b * b)) ≤ (Ag (Int.tdiv a.1 a.2)))))
def EW (u8:(List Aex)) (c:(List Int)) (b:Int) (e:Aex) (f:Int) (g:(Ae0 → Int → Ae Ae0)):Nat → Ae0 → Int → Ae Ae0
 | 0,_,_=>none
 | m + 1,d,a=>(if (decide (a < (u8.length:Int))) = true then Bk (fun (i:Ae0)=>(EW u8 c b e f g m) (i) ((Ag (a + 1)))) (fun h=>(AL u8 a).bind fun j =>
 (AL c b).bind fun k =>
 (AL c a).bind fun l =>
 (Ja e j k l f).bind fun n =>
 (if (!n) = true then (Cm d [[b,a]]).bind fun o =>
 h (o) else h (d))) else g (d) ((Ag (b + 1))))
def EX (u8:(List Aex)) (b:(List Int)) (c:Int):Nat → Ae0 → Int → Ae Ae0
 | 0,_,_=>none
 | m + 1,d,a=>(if (decide (a < (u8.length:Int))) = true then (AL u8 a).bind fun e =>
 EW u8 b a e c (EX u8 b c m) FU (d) ((Ag (a + 1))) else some d)
def I0 (a:(Aev × Aev × Int × (List Int))) (b:(List Int)) (c:Int):Ae Ae0 :=
 (GB a).bind fun u8 =>
 EX u8 b c FU ([]) (0)
def Ko (a:(Aev × Aev × Int × (List Int))) (c:Int) (d:Int):Ae (Aev × Aev × Int × (List Int)) :=
 (HZ a.1 a.2.1 a.2.2.1 a.2.2.2).bind fun b =>
 (AL a.2.2.2 d).bind fun e =>
 (AL b.2.2.2 c).bind fun g =>
 (AL a.2.2.2 c).bind fun f =>
 (AL (BD b.2.2.2 c e) d).bind fun h =>
 some (b.1,b.2.1,b.2.2.1,(BD (BD b.2.2.2 c e) d f))
def FC (c:(Aev × Aev × Int × (List Int))) (a:Int) (u8:(List Int)) (d:Int) (e:(Int → Ae (Int × Int))):Nat → Int → Ae (Int × Int)
 | 0,_=>none
 | m + 1,b=>(if (decide (b < (c.1.length:Int))) = true then (Ko c a b).bind fun f =>
 (I0 f u8 d).bind fun g =>
 (if ((g.length:Int) == 0) = true then some (a,b) else (FC c a u8 d e m) ((Ag (b + 1)))) else e ((Ag (a + 1))))
def Eh (a:(Aev × Aev × Int × (List Int))) (u8:(List Int)) (c:Int):Nat → Int → Ae (Int × Int)
 | 0,_=>none
 | m + 1,b=>(if (decide (b < (a.1.length:Int))) = true then FC a b u8 c (Eh a u8 c m) FU ((Ag (b + 1))) else some ((-1),(-1)))
def Kl (a:(Aev × Aev × Int × (List Int))) (b:Int):Ae (Int × Int) :=
 (RS (a.1.length:Int) 0).bind fun u8 =>
 Eh a u8 b FU (0)
def G8 (e:((List Aex) × Int × (List Int))) (a:Int) (b:Int) (c:Int) (d:Int):Ae (Bool × ((List Aex) × Int × (List Int))) :=
 Bk (fun (g:((List Aex) × Int × (List Int)))=>(if (decide (0 ≤ a) && decide (a < 6)) = true then (if (decide (0 ≤ b) && decide (b < 6)) = true then (if (decide (0 ≤ c) && decide (c < 5)) = true then (if (decide (0 ≤ d) && decide (d < 5)) = true then (g.2.2[a.toNat * 150 + b.toNat * 25 + c.toNat * 5 + d.toNat * 1]?).bind fun j =>
 some ((j == 1),g) else none) else none) else none) else none)) (fun h=>(if (decide (0 ≤ a) && decide (a < 6)) = true then (if (decide (0 ≤ b) && decide (b < 6)) = true then (if (decide (0 ≤ c) && decide (c < 5)) = true then (if (decide (0 ≤ d) && decide (d < 5)) = true then (e.2.2[a.toNat * 150 + b.toNat * 25 + c.toNat * 5 + d.toNat * 1]?).bind fun k =>
 (if (k == 0) = true then Gl (fun (f:((List Aex) × Int × (List Int))) (l:Int)=>(NN f.2.2 (a.toNat * 150 + b.toNat * 25 + c.toNat * 5 + d.toNat * 1) l).bind fun m =>
 h ((f.1,f.2.1,m))) (fun i=>(AL e.1 a).bind fun n =>
 (AL e.1 b).bind fun o =>
 (Ja n o c d e.2.1).bind fun p =>
 (if p = true then i (e) (1) else i (e) (2))) else h (e)) else none) else none) else none) else none))
def CN (a:(List Int)) (b:Int) (f:(((List Aex) × Int × (List Int)) → Ae ((List Int) × ((List Aex) × Int × (List Int))))) (rec:(((List Aex) × Int × (List Int)) → (List Int) → Int → Ae ((List Int) × ((List Aex) × Int × (List Int))))) (g:Int):Nat → ((List Aex) × Int × (List Int)) → Bool → Int → Ae ((List Int) × ((List Aex) × Int × (List Int)))
 | 0,_,_,_=>none
 | m + 1,c,h,d=>(if (decide (d < (a.length:Int))) = true then Gl (fun (k:((List Aex) × Int × (List Int))) (l:Bool)=>(CN a b f rec g m) (k) (l) ((Ag (d + 1)))) (fun i=>(AL a d).bind fun n =>
 (if h = true then (G8 c d (a.length:Int) n b).bind fun j =>
 i (j.2) (j.1) else i (c) (false))) else (if (!h) = true then f (c) else (JG a).bind fun o =>
 (Cm o [b]).bind fun p =>
 (rec c p (Ag (g - b))).bind fun e =>
 (if (decide (0 < (e.1.length:Int))) = true then some (e.1,e.2) else f (e.2))))
def CP (a:Int) (c:(List Int)) (rec:(((List Aex) × Int × (List Int)) → (List Int) → Int → Ae ((List Int) × ((List Aex) × Int × (List Int))))):Nat → ((List Aex) × Int × (List Int)) → Int → Ae ((List Int) × ((List Aex) × Int × (List Int)))
 | 0,_,_=>none
 | m + 1,d,b=>(EQ a 4).bind fun e =>
 (if (decide (b ≤ e)) = true then Bk (fun (f:((List Aex) × Int × (List Int)))=>(CP a c rec m) (f) ((Ag (b + 1)))) (fun g=>CN c b g rec a FU (d) (true) (0)) else some ([],d))
def FT (rec:((List Aex) × Int × (List Int)) → (List Int) → Int → Ae ((List Int) × ((List Aex) × Int × (List Int)))) (a:((List Aex) × Int × (List Int))) (b:(List Int)) (c:Int):Ae ((List Int) × ((List Aex) × Int × (List Int))) :=
 (if ((b.length:Int) == (a.1.length:Int)) = true then (if (decide (0 < c)) = true then some ([],a) else some (b,a)) else CP c b rec FU (a) (0))
def Dc:Nat → ((List Aex) × Int × (List Int)) → (List Int) → Int → Ae ((List Int) × ((List Aex) × Int × (List Int)))
 | 0,_,_,_=>none
 | m + 1,a,b,c=>FT (Dc m) a b c
def HS (a:((List Aex) × Int × (List Int))) (b:(List Int)) (c:Int):Ae ((List Int) × ((List Aex) × Int × (List Int))) :=
 Dc FU a b c
def Ea (c:(Aev × Aev × Int × (List Int))):Nat → ((List Aex) × Int × (List Int)) → Int → Ae Ae1
 | 0,_,_=>none
 | m + 1,d,a=>(if (decide (a ≤ (Ag (4 * (c.1.length:Int))))) = true then (HS d [] a).bind fun b =>
 (if (decide (0 < (b.1.length:Int))) = true then some (b.1,a) else (Ea c m) (b.2) ((Ag (a + 1)))) else some ([],0))
def Js (a:(Aev × Aev × Int × (List Int))) (b:Int):Ae Ae1 :=
 (GB a).bind fun u8 =>
 Ea a FU ((u8,b,(List.replicate 900 0))) (0)
def Id (a:(Aev × Aev × Int × (List Int))) (b:Int):Ae (Int × Bool) :=
 Bk (fun (d:Bool)=>(if d = true then some (0,false) else (RS (a.1.length:Int) 0).bind fun e =>
 (I0 a e b).bind fun f =>
 (if ((f.length:Int) == 0) = true then some (0,true) else (Kl a b).bind fun g =>
 (if (decide (0 ≤ g.1)) = true then some (1,true) else (Js a b).bind fun h =>
 (if (decide (0 < (h.1.length:Int))) = true then some (2,true) else some (3,true)))))) (fun c=>(L7 a).bind fun i =>
 (if (!i) = true then c (true) else (Hg b).bind fun j =>
 c ((!j))))
def D2 (c:Aev) (e:(Int × Int)) (d:Int) (f:(Int → Int → Int → Int → Ae (Int × Int × Int))):Nat → Int → Int → Int → Int → Ae (Int × Int × Int)
 | 0,_,_,_,_=>none
 | m + 1,g,h,a,b=>(if (decide (b < (c.length:Int))) = true then W0 (fun (k:Int) (l:Int) (n:Int)=>(D2 c e d f m) (k) (l) (n) ((Ag (b + 1)))) (fun i=>(AL c b).bind fun o =>
 (GS e o).bind fun u64 =>
 Bk (fun (p:Bool)=>(if p = true then i (d) (b) (u64) else i (g) (h) (a))) (fun j=>(if (decide (a < 0)) = true then j (true) else j ((decide (u64 < a)))))) else f (g) (h) (a) ((Ag (d + 1))))
def Fd (a:Aev):Nat → Int → Int → Int → Int → Ae (Int × Int × Int)
 | 0,_,_,_,_=>none
 | m + 1,c,d,e,b=>(if (decide (b < (a.length:Int))) = true then (AL a b).bind fun f =>
 D2 a f b (Fd a m) FU (c) (d) (e) ((Ag (b + 1))) else some (c,d,e))
def JJ (a:Aev):Ae (Int × Int × Int) :=
 Fd a FU (0) (0) ((-1)) (0)
def Ec (a:Aev):Ae (Int × Bool) :=
 Bk (fun (c:Bool)=>(if c = true then some (0,false) else (JJ a).bind fun d =>
 some (d.2.2,true))) (fun b=>(FK a).bind fun e =>
 (if (!e) = true then b (true) else b ((decide ((a.length:Int) < 2)))))
def E9 (a:Aev):Nat → Int → Int → Ae Int
 | 0,_,_=>none
 | m + 1,c,b=>(if (decide (b < (a.length:Int))) = true then (AL a b).bind fun d =>
 (E9 a m) ((Ag (c + d.1))) ((Ag (b + 1))) else some c)
def Jt (a:Aev):Ae Int :=
 E9 a FU (0) (0)
def L8 (a:Aev) (c:Int):Ae Bool :=
 Bk (fun (d:Bool)=>some d) (fun b=>(Jc a).bind fun e =>
 (if e = true then (Jt a).bind fun f =>
 (BQ c 0 f).bind fun g =>
 b (g) else b (false)))
def H1 (b:Int) (a:Int):Ae Int :=
 (if a = 0 then none else some (Ag (Int.tdiv (Ag (60000 * b)) a)))
def Di (b:Aev):Nat → Int → Int → Int → Ae Int
 | 0,_,_,_=>none
 | m + 1,c,d,e=>(if (decide (e < (b.length:Int))) = true then (AL b e).bind fun a =>
 (if (decide (c < a.1)) = true then (H1 c a.2).bind fun f =>
 some (Ag (d + f)) else (H1 a.1 a.2).bind fun g =>
 (Di b m) ((Ag (c - a.1))) ((Ag (d + g))) ((Ag (e + 1)))) else some d)
def FJ (a:Aev) (b:Int):Ae Int :=
 Di a FU (b) (0) (0)
def Ks (a:Aev) (b:Int):Ae (Int × Bool) :=
 (L8 a b).bind fun c =>
 (if (!c) = true then some (0,false) else (FJ a b).bind fun d =>
 some (d,true))
def Lj (a:Int):Ae Bool :=
 (BQ a 0 999).bind fun b =>
 some b
def GA (f:Aew) (g:Int) (c:Int) (d:Int):Nat → Int → Ae Int
 | 0,_=>none
 | m + 1,e=>(if (decide (e < (f.length:Int))) = true then (AL f e).bind fun a =>
 Bk (fun (h:Bool)=>(if h = true then some e else (GA f g c d m) ((Ag (e + 1))))) (fun b=>(if (g == 0) = true then (if (c == 0) = true then (BQ d a.2.2.1 (Ag (a.2.2.2 - 1))).bind fun i =>
 b (i) else (if (a.1 == c) = true then (BQ d a.2.2.1 (Ag (a.2.2.2 - 1))).bind fun j =>
 b (j) else b (false))) else (if (a.2.1 == g) = true then (if (c == 0) = true then (BQ d a.2.2.1 (Ag (a.2.2.2 - 1))).bind fun k =>
 b (k) else (if (a.1 == c) = true then (BQ d a.2.2.1 (Ag (a.2.2.2 - 1))).bind fun l =>
 b (l) else b (false))) else b (false)))) else some (-1))
def K1 (a:Aew) (b:Int) (c:Int) (d:Int):Ae Int :=
 GA a b c d FU (0)
def IC (a:Aew) (c:Int) (d:Int):Ae (Int × Bool) :=
 Bk (fun (e:Bool)=>(if e = true then some (0,false) else (K1 a c 0 d).bind fun f =>
 (AL a f).bind fun g =>
 some (g.1,true))) (fun b=>(Jh a).bind fun h =>
 (if (!h) = true then b (true) else (Jg c).bind fun i =>
 (if (!i) = true then b (true) else (Lj d).bind fun j =>
 (if (!j) = true then b (true) else (K1 a c 0 d).bind fun k =>
 b ((decide (k < 0)))))))
def Mj (a:Aey) (c:Int):Ae Bool :=
 Bk (fun (d:Bool)=>some d) (fun b=>(HX a).bind fun e =>
 (if e = true then (BQ c 0 (Ag ((a.length:Int) - 1))).bind fun f =>
 b (f) else b (false)))
def E5 (b:Aey):Nat → Int → (List Int) → Ae (List Int)
 | 0,_,_=>none
 | m + 1,a,c=>(if (decide (0 ≤ a)) = true then (Cm [a] c).bind fun d =>
 (AL b a).bind fun e =>
 (E5 b m) (e.1) (d) else some c)
def KV (a:Aey) (b:Int):Ae (List Int) :=
 E5 a FU (b) ([])
def ET (a:(List Int)) (b:Aey):Nat → (List Int) → Int → Ae (List Int)
 | 0,_,_=>none
 | m + 1,c,d=>(if (decide (d < (a.length:Int))) = true then (AL a d).bind fun e =>
 (AL b e).bind fun u64 =>
 (AL b e).bind fun f =>
 (AL c u64.2.1).bind fun g =>
 (ET a b m) ((BD c u64.2.1 f.2.2)) ((Ag (d + 1))) else some c)
def EU (a:Aey) (c:Int):Nat → (List Int) → Ae (List Int)
 | 0,_=>none
 | m + 1,b=>(if (decide ((b.length:Int) < 8)) = true then (Cm b [(-1)]).bind fun d =>
 (EU a c m) (d) else (KV a c).bind fun e =>
 ET e a FU (b) (0))
def JD (a:Aey) (b:Int):Ae (List Int) :=
 EU a b FU ([])
def JN (a:Aey) (b:Int):Ae ((List Int) × Bool) :=
 (Mj a b).bind fun c =>
 (if (!c) = true then some ([],false) else (JD a b).bind fun d =>
 some (d,true))
def D1 (b:(List Int)):Nat → (List Aj) → Int → Ae (List Aj)
 | 0,_,_=>none
 | m + 1,c,a=>(if (decide (a < (b.length:Int))) = true then Bk (fun (h:(List Aj))=>(D1 b m) (h) ((Ag (a + 1)))) (fun d=>(AL b a).bind fun e =>
 Bk (fun (f:(List Aj))=>(if (decide (e < 0)) = true then (Cm f [45]).bind fun i =>
 d (i) else (Dd e).bind fun j =>
 (Cm f j).bind fun k =>
 d (k))) (fun g=>(if (decide (0 < a)) = true then (Cm c [32]).bind fun l =>
 g (l) else g (c)))) else some c)
def JH (a:(List Int)):Ae (List Aj) :=
 D1 a FU ([]) (0)
def IZ (a:Int):Ae (List Aj) :=
 (if ((Int.tmod a 8) == 0) = true then (Dd (Ag (Int.tdiv a 8))).bind fun b =>
 some b else (Dd (Ag (Int.tdiv a 8))).bind fun c =>
 (Cm c [43]).bind fun d =>
 (Dd (Int.tmod a 8)).bind fun e =>
 (Cm d e).bind fun f =>
 some f)
def Kj (a:(Int × Int)):Ae (List Aj) :=
 (IZ a.1).bind fun b =>
 (Cm b [44]).bind fun c =>
 (IZ a.2).bind fun d =>
 (Cm c d).bind fun e =>
 some e
def Mk (b:(Int × Int)) (c:(Int × Int)):Ae Bool :=
 Bk (fun (d:Bool)=>some d) (fun a=>(HY b).bind fun e =>
 (if e = true then (HY c).bind fun f =>
 a (f) else a (false)))
def EE (c:Int):Nat → Int → Int → Ae Int
 | 0,_,_=>none
 | m + 1,a,b=>(if (decide (a < b)) = true then (if (decide ((Ag (1000000 * c)) ≤ (Ag ((Ag ((Ag (4800 * (Ag (Int.tdiv (Ag (a + b)) 2)))) * 4800)) * (Ag (Int.tdiv (Ag (a + b)) 2)))))) = true then (EE c m) (a) ((Ag (Int.tdiv (Ag (a + b)) 2))) else (EE c m) ((Ag ((Ag (Int.tdiv (Ag (a + b)) 2)) + 1))) (b)) else some a)
def Kk (a:Int):Ae Int :=
 EE a FU (0) (1000)
def Lg (a:(Int × Int)) (b:(Int × Int)):Ae Int :=
 (GS a b).bind fun c =>
 (Kk c).bind fun d =>
 some d
def H3 (a:(Int × Int)) (b:(Int × Int)):Ae (Int × Bool) :=
 (Mk a b).bind fun c =>
 (if (!c) = true then some (0,false) else (Lg a b).bind fun d =>
 some (d,true))
def CD (a:(List Int)) (b:(Aev × Aev × Int × Aev × Aew × Aey × (List Int) × (List Int) × Int)) (d:(List Aj)):Nat → Int → Ae (List Aj)
 | 0,_=>none
 | m + 1,c=>(if (decide (c < (a.length:Int))) = true then (AL a c).bind fun f =>
 (if (decide ((b.1.length:Int) ≤ f)) = true then some ([110,111]) else (CD a b d m) ((Ag (c + 1)))) else (if (d == [116,101,120,116]) = true then (AL a 0).bind fun g =>
 (AL b.1 g).bind fun h =>
 (Kj h).bind fun i =>
 some i else (AL a 0).bind fun j =>
 (AL b.1 j).bind fun k =>
 (AL a 1).bind fun l =>
 (AL b.1 l).bind fun n =>
 (H3 k n).bind fun e =>
 (Fq e.1 e.2).bind fun o =>
 some o))
def C3 (a:(Aev × Aev × Int × Aev × Aew × Aey × (List Int) × (List Int) × Int)) (b:(List Aj)) (c:(List Int)):Ae (List Aj) :=
 (if (b == [115,117,109]) = true then jK5 (fun (l:Aev) (m:Aev) (n:Int) (o:(List Int)) (p:Bool)=>(if (!p) = true then some ([110,111]) else (H2 (l,m,n,o)).bind fun e =>
 (Fq e.1 e.2).bind fun q =>
 some q)) (fun r=>(Gp a.2.1 a.1 a.2.2.1).bind fun d =>
 r (d.1.1) (d.1.2.1) (d.1.2.2.1) (d.1.2.2.2) (d.2)) else (if (b == [99,108,111,115,101]) = true then (AL c 0).bind fun s =>
 (Hs a s).bind fun t =>
 some t else (if (b == [107,105,110,100]) = true then (ED a).bind fun f =>
 (if (!f.2) = true then some ([110,111]) else (AL c 0).bind fun u =>
 (Id f.1 u).bind fun g =>
 (Fq g.1 g.2).bind fun v =>
 some v) else (if (b == [108,101,97,115,116]) = true then (Ec a.1).bind fun h =>
 (Fq h.1 h.2).bind fun w =>
 some w else (if (b == [116,105,109,101]) = true then (AL c 0).bind fun x =>
 (Ks a.2.2.2.1 x).bind fun i =>
 (Fq i.1 i.2).bind fun y =>
 some y else (if (b == [119,104,111]) = true then (AL c 0).bind fun z =>
 (AL c 1).bind fun aa =>
 (IC a.2.2.2.2.1 z aa).bind fun j =>
 (if (!j.2) = true then some ([110,111,110,101]) else (Dd j.1).bind fun ab =>
 some ab) else (if (b == [115,116,97,116,101]) = true then (AL c 0).bind fun ac =>
 (JN a.2.2.2.2.2.1 ac).bind fun k =>
 (if (!k.2) = true then some ([110,111]) else (JH k.1).bind fun ad =>
 some ad) else CD c a b FU (0))))))))
def BS (e:(List (List Aj))) (c:(Aev × Aev × Int × Aev × Aew × Aey × (List Int) × (List Int) × Int)) (d:(List (List Aj))):Nat → (List Int) → Int → Ae ((List Aj) × (Aev × Aev × Int × Aev × Aew × Aey × (List Int) × (List Int) × Int))
 | 0,_,_=>none
 | m + 1,f,g=>(if (decide (g < (e.length:Int))) = true then (AL e g).bind fun j =>
 (Kn j).bind fun h =>
 (BQ h 0 99999).bind fun k =>
 (if (!k) = true then some ([119,104,97,116],c) else (Cm f [h]).bind fun l =>
 (BS e c d m) (l) ((Ag (g + 1)))) else (AL d 0).bind fun a =>
 Bk (fun (n:Bool)=>(if n = true then (AL d 0).bind fun o =>
 (Cz c o f).bind fun i =>
 (Jd i.1).bind fun p =>
 some (p,i.2) else (AL d 0).bind fun q =>
 (C3 c q f).bind fun r =>
 some (r,c))) (fun b=>(if (a == [115,112,111,116]) = true then b ((a == [115,112,111,116])) else (if (a == [112,108,97,99,101]) = true then b ((a == [112,108,97,99,101])) else (if (a == [109,105,114,114,111,114]) = true then b ((a == [109,105,114,114,111,114])) else (if (a == [107,101,101,112]) = true then b ((a == [107,101,101,112])) else (if (a == [99,111,117,110,116,115]) = true then b ((a == [99,111,117,110,116,115])) else (if (a == [109,101,97,115,117,114,101]) = true then b ((a == [109,101,97,115,117,114,101])) else (if (a == [99,97,114,114,121]) = true then b ((a == [99,97,114,114,121])) else b ((a == [118,101,114,115,105,111,110])))))))))))
def Eb (b:(Aev × Aev × Int × Aev × Aew × Aey × (List Int) × (List Int) × Int)) (c:(List Aj)):Ae ((List Aj) × (Aev × Aev × Int × Aev × Aew × Aey × (List Int) × (List Int) × Int)) :=
 (FN c 32).bind fun a =>
 (AL a 0).bind fun d =>
 (G9 d).bind fun e =>
 (if ((Ag ((a.length:Int) - 1)) != e) = true then some ([119,104,97,116],b) else (sl a 1 (a.length:Int)).bind fun f =>
 BS f b a FU ([]) (0))
def Gb (d:((List (List Aj)) × Bool)):Nat → (Aev × Aev × Int × Aev × Aew × Aey × (List Int) × (List Int) × Int) → (List Aj) → Int → Ae ((Aev × Aev × Int × Aev × Aew × Aey × (List Int) × (List Int) × Int) × (List Aj) × Bool)
 | 0,_,_,_=>none
 | m + 1,b,f,c=>(if (decide (c < (d.1.length:Int))) = true then (AL d.1 c).bind fun g =>
 (Eb b g).bind fun a =>
 Bk (fun (h:(Aev × Aev × Int × Aev × Aew × Aey × (List Int) × (List Int) × Int))=>(Cm a.1 [10]).bind fun i =>
 (Cm f i).bind fun j =>
 (Gb d m) (h) (j) ((Ag (c + 1)))) (fun e=>(if (a.1 == [110,111]) = true then (Cm a.2.2.2.2.2.2.2.1 [(Ag (c + 1))]).bind fun k =>
 e ((a.2.1,a.2.2.1,a.2.2.2.1,a.2.2.2.2.1,a.2.2.2.2.2.1,a.2.2.2.2.2.2.1,k,a.2.2.2.2.2.2.2.2.1,a.2.2.2.2.2.2.2.2.2)) else (if (a.1 == [119,104,97,116]) = true then (Cm a.2.2.2.2.2.2.2.2.1 [(Ag (c + 1))]).bind fun l =>
 e ((a.2.1,a.2.2.1,a.2.2.2.1,a.2.2.2.2.1,a.2.2.2.2.2.1,a.2.2.2.2.2.2.1,a.2.2.2.2.2.2.2.1,l,a.2.2.2.2.2.2.2.2.2)) else e (a.2)))) else some ((b.1,b.2.1,b.2.2.1,b.2.2.2.1,b.2.2.2.2.1,b.2.2.2.2.2.1,b.2.2.2.2.2.2.1,b.2.2.2.2.2.2.2.1,(d.1.length:Int)),f,true))
def KX (c:(List Aj)):Ae ((Aev × Aev × Int × Aev × Aew × Aey × (List Int) × (List Int) × Int) × (List Aj) × Bool) :=
 (Lh ).bind fun a =>
 (JI c).bind fun b =>
 (if (!b.2) = true then some (a,[],false) else Gb b FU (a) ([]) (0))
def Hr (a:(List Aj)) (b:Int):Ae Int :=
 some (PU a b)
def IP (b:(List Aj)) (a:(List Aj)):Ae Int :=
 Bk (fun (d:Bool)=>(if d = true then some 0 else (if ((a.length:Int) == 1) = true then (AL a 0).bind fun e =>
 (Hr b (UInt8.toNat e:Int)).bind fun f =>
 some f else (if (decide ((b.length:Int) ≤ (a.length:Int))) = true then some (-1) else none)))) (fun c=>(if ((a.length:Int) == 0) = true then c (true) else c ((a == b))))
def HR (a:(List Aj)) (b:(List Aj)):Ae Int :=
 (IP a b).bind fun c =>
 some c
def HF (a:(List Aj)):Nat → (List Aj) → Int → Ae Int
 | 0,_,_=>none
 | m + 1,b,c=>(HR b a).bind fun d =>
 (if (d == (-1)) = true then some c else (sl b (Ag (d + (a.length:Int))) (b.length:Int)).bind fun e =>
 (HF a m) (e) ((Ag (c + 1))))
def Jr (b:(List Aj)) (a:(List Aj)):Ae Int :=
 (if ((a.length:Int) == 0) = true then none else (if ((a.length:Int) == 1) = true then (AL a 0).bind fun c =>
 some (Ym b (UInt8.toNat c:Int)) else HF a FU (b) (0)))
def DJ (g:Int) (h:(List Aj)) (d:(List Aj)) (e:((List Aj) → (List (List Aj)) → Int → Ae (List (List Aj)))) (i:Int):Nat → (List Aj) → (List (List Aj)) → Int → Ae (List (List Aj))
 | 0,_,_,_=>none
 | m + 1,a,c,b=>(if (decide (b < (Ag ((Fn g (Ag ((h.length:Int) + 1))) - 1)))) = true then (HR a d).bind fun f =>
 (if (decide (f < 0)) = true then e (a) (c) (b) else (sl a 0 (Ag (f + i))).bind fun j =>
 (AL c b).bind fun l =>
 (sl a (Ag (f + (d.length:Int))) (a.length:Int)).bind fun k =>
 (DJ g h d e i m) (k) ((BD c b j)) ((Ag (b + 1)))) else e (a) (c) (b))
def Jq (a:(List Aj)) (b:(List Aj)) (h:Int) (c:Int):Ae (List (List Aj)) :=
 (if (c == 0) = true then some [] else (if (b == []) = true then none else Bk (fun (e:Int)=>(RS (Fn e (Ag ((a.length:Int) + 1))) []).bind fun i =>
 W0 (fun (j:(List Aj)) (f:(List (List Aj))) (d:Int)=>(AL f d).bind fun n =>
 (sl (BD f d j) 0 (Ag (d + 1))).bind fun k =>
 some k) (fun l=>DJ e a b l h FU (a) (i) (0))) (fun g=>(if (decide (c < 0)) = true then (Jr a b).bind fun m =>
 g ((Ag (m + 1))) else g (c)))))
def FZ (a:(List Aj)) (b:(List Aj)):Ae (List (List Aj)) :=
 (Jq a b 0 (-1)).bind fun c =>
 some c
def JR (a:(List Aj)):Ae ((List (List Aj)) × Bool) :=
 (if (a == []) = true then some ([],true) else (AL a (Ag ((a.length:Int) - 1))).bind fun b =>
 (if ((UInt8.toNat b:Int) != 10) = true then some ([],false) else (sl a 0 (Ag ((a.length:Int) - 1))).bind fun c =>
 (FZ c [10]).bind fun d =>
 some (d,true)))
def HH (c:(List Aj)):Ae ((List (List Aj)) × Bool) :=
 (JR c).bind fun a =>
 Bk (fun (d:Bool)=>(if d = true then some ([],false) else some (a.1,true))) (fun b=>(if (!a.2) = true then b (true) else (if (decide (2000 < (c.length:Int))) = true then b (true) else b ((decide (40 < (a.1.length:Int)))))))
def KH  : Ae (Aev × Aev × Int × Aev × Aew × Aey) :=
 some ([(0,0)],[(0,0)],8,[(4,120)],[],[((-1),0,0)])
def Fj (a:(List Aj)):Nat → Int → Int → Ae (Int × Bool)
 | 0,_,_=>none
 | m + 1,c,b=>(if (decide (b < (a.length:Int))) = true then Bk (fun (e:Bool)=>(if e = true then some (0,false) else (AL a b).bind fun f =>
 (Fj a m) ((Ag ((Ag (10 * c)) + (Ag (Mt ((UInt8.toNat f:Int) - 48)))))) ((Ag (b + 1))))) (fun d=>(AL a b).bind fun g =>
 (if (decide ((UInt8.toNat g:Int) < 48)) = true then d (true) else (AL a b).bind fun h =>
 d ((decide (57 < (UInt8.toNat h:Int)))))) else some (c,true))
def JQ (a:(List Aj)):Ae (Int × Bool) :=
 Bk (fun (c:Bool)=>(if c = true then some (0,false) else Fj a FU (0) (0))) (fun b=>(if (a == []) = true then b (true) else (if (decide (9 < (a.length:Int))) = true then b (true) else (if (decide (1 < (a.length:Int))) = true then (AL a 0).bind fun d =>
 b (((UInt8.toNat d:Int) == 48)) else b (false)))))
def Jw (a:(List Aj)):Ae Int :=
 Bk (fun (f:Bool)=>(if f = true then some 0 else Bk (fun (g:Bool)=>(if g = true then some 1 else Bk (fun (h:Bool)=>(if h = true then some 2 else Bk (fun (i:Bool)=>(if i = true then some 3 else (if (a == [99,97,114,114,121]) = true then some 4 else some (-1)))) (fun e=>(if (a == [112,108,97,99,101]) = true then e ((a == [112,108,97,99,101])) else e ((a == [118,101,114,115,105,111,110])))))) (fun c=>(if (a == [115,112,111,116]) = true then c ((a == [115,112,111,116])) else (if (a == [115,111,117,110,100]) = true then c ((a == [115,111,117,110,100])) else (if (a == [109,101,97,115,117,114,101]) = true then c ((a == [109,101,97,115,117,114,101])) else c ((a == [119,104,111])))))))) (fun b=>(if (a == [99,111,117,110,116,115]) = true then b ((a == [99,111,117,110,116,115])) else (if (a == [99,108,111,115,101]) = true then b ((a == [99,108,111,115,101])) else (if (a == [107,105,110,100]) = true then b ((a == [107,105,110,100])) else (if (a == [116,101,120,116]) = true then b ((a == [116,101,120,116])) else (if (a == [116,105,109,101]) = true then b ((a == [116,105,109,101])) else b ((a == [115,116,97,116,101])))))))))) (fun d=>(if (a == [109,105,114,114,111,114]) = true then d ((a == [109,105,114,114,111,114])) else (if (a == [107,101,101,112]) = true then d ((a == [107,101,101,112])) else (if (a == [115,117,109]) = true then d ((a == [115,117,109])) else d ((a == [108,101,97,115,116]))))))
def BX (a:Int) (c:Int) (d:Int):Ae Bool :=
 Bk (fun (e:Bool)=>some e) (fun b=>(if (decide (c ≤ a)) = true then b ((decide (a ≤ d))) else b (false)))
def Gt (a:(Int × Int)):Ae Bool :=
 Bk (fun (c:Bool)=>some c) (fun b=>(BX a.1 0 1280).bind fun d =>
 (if d = true then (BX a.2 0 672).bind fun e =>
 b (e) else b (false)))
def Cn (b:Aev) (c:(Int × Int)):Nat → Int → Ae Int
 | 0,_=>none
 | m + 1,a=>(if (decide (a < (b.length:Int))) = true then (AL b a).bind fun d =>
 (if (M8 c d) = true then some a else (Cn b c m) ((Ag (a + 1)))) else some (-1))
def Ez (a:Aev) (b:(Int × Int)):Ae Int :=
 Cn a b FU (0)
def Dk (a:Aev) (b:(Int × Int)):Ae Bool :=
 (Ez a b).bind fun u8 =>
 some (decide (0 ≤ u8))
def Fm (a:Aev):Nat → Int → Ae Bool
 | 0,_=>none
 | m + 1,b=>(if (decide (b < (a.length:Int))) = true then (AL a b).bind fun c =>
 Bk (fun (e:Bool)=>(if e = true then some false else (Fm a m) ((Ag (b + 1))))) (fun d=>(Gt c).bind fun f =>
 (if (!f) = true then d (true) else (sl a 0 b).bind fun g =>
 (Dk g c).bind fun u64 =>
 d (u64))) else some true)
def DZ (a:Aev):Ae Bool :=
 (BX (a.length:Int) 1 12).bind fun b =>
 (if (!b) = true then some false else Fm a FU (0))
def I2 (a:Bool):Ae (List Aj) :=
 (if a = true then some ([111,107]) else some ([110,111]))
def Dj (a:(Aev × Aev × Int × Aev × Aew × Aey)) (d:Aev) (b:Bool):Ae ((List Aj) × (Aev × Aev × Int × Aev × Aew × Aey)) :=
 Bk (fun (e:(Aev × Aev × Int × Aev × Aew × Aey))=>(I2 b).bind fun f =>
 some (f,e)) (fun c=>(if b = true then c ((d,a.2.1,a.2.2.1,a.2.2.2.1,a.2.2.2.2.1,a.2.2.2.2.2)) else c (a)))
def Gi (a:Aev):Ae (Aev × Bool) :=
 (DZ a).bind fun b =>
 (if (!b) = true then some ([],false) else some (a,true))
def GD (a:Aev) (b:Int) (d:(Int × Int)):Ae (Aev × Bool) :=
 Bk (fun (f:Bool)=>(if f = true then some ([],false) else (Cm [] a).bind fun e =>
 (AL e b).bind fun j =>
 (Gi (BD e b d)).bind fun g =>
 some g)) (fun c=>(DZ a).bind fun h =>
 (if (!h) = true then c (true) else (BX b 0 (Ag ((a.length:Int) - 1))).bind fun i =>
 (if (!i) = true then c (true) else (Gt d).bind fun u64 =>
 c ((!u64)))))
def DR (a:Aev):Nat → Aev → Int → Ae (Aev × Bool)
 | 0,_,_=>none
 | m + 1,c,b=>(if (decide (b < (a.length:Int))) = true then (AL a b).bind fun d =>
 (Cm c [((Ag (1280 - d.1)),d.2)]).bind fun e =>
 (DR a m) (e) ((Ag (b + 1))) else some (c,true))
def HL (a:Aev):Ae (Aev × Bool) :=
 (DZ a).bind fun b =>
 (if (!b) = true then some ([],false) else DR a FU ([]) (0))
def BI (a:(Aev × Aev × Int × Aev × Aew × Aey)) (c:(List Aj)) (b:(List Int)):Ae ((List Aj) × (Aev × Aev × Int × Aev × Aew × Aey)) :=
 (if (c == [115,112,111,116]) = true then Gl (fun (j:(Aev × Aev × Int × Aev × Aew × Aey)) (k:(List Aj))=>some (k,j)) (fun l=>(AL b 0).bind fun m =>
 (AL b 1).bind fun n =>
 (Cm [] a.1).bind fun o =>
 (Cm o [(m,n)]).bind fun p =>
 (Gi p).bind fun d =>
 (Dj a d.1 d.2).bind fun e =>
 l (e.2) (e.1)) else (if (c == [112,108,97,99,101]) = true then (AL b 0).bind fun q =>
 (AL b 1).bind fun r =>
 (AL b 2).bind fun s =>
 (GD a.1 q (r,s)).bind fun f =>
 (Dj a f.1 f.2).bind fun g =>
 some (g.1,g.2) else (if (c == [109,105,114,114,111,114]) = true then (HL a.1).bind fun h =>
 (Dj a h.1 h.2).bind fun i =>
 some (i.1,i.2) else (if (c == [107,101,101,112]) = true then (Cm [] a.1).bind fun t =>
 some ([111,107],(a.1,t,a.2.2.1,a.2.2.2.1,a.2.2.2.2.1,a.2.2.2.2.2)) else (AL b 0).bind fun u =>
 (BX u 1 64).bind fun v =>
 (if (!v) = true then some ([110,111],a) else (AL b 0).bind fun w =>
 some ([111,107],(a.1,a.2.1,w,a.2.2.2.1,a.2.2.2.2.1,a.2.2.2.2.2)))))))
def Fl (a:Aev):Nat → Int → Ae Bool
 | 0,_=>none
 | m + 1,b=>(if (decide (b < (a.length:Int))) = true then (AL a b).bind fun c =>
 Bk (fun (e:Bool)=>(if e = true then some false else (Fl a m) ((Ag (b + 1))))) (fun d=>(BX c.1 1 12).bind fun f =>
 (if (!f) = true then d (true) else (BX c.2 40 220).bind fun g =>
 d ((!g)))) else (BX (a.length:Int) 1 40).bind fun h =>
 some h)
def I4 (a:Aev):Ae Bool :=
 Fl a FU (0)
def Dr (a:(Int × Int × Int × Int)) (b:(Int × Int × Int × Int)):Ae Int :=
 (if (a.2.2.1 != b.2.2.1) = true then some (Ag (a.2.2.1 - b.2.2.1)) else some (Ag (a.2.1 - b.2.1)))
def JS (a:(Int × Int × Int × Int)):Ae Bool :=
 Bk (fun (c:Bool)=>some c) (fun b=>(BX a.1 1 12).bind fun d =>
 (if d = true then (BX a.2.1 1 9).bind fun e =>
 (if e = true then (if (decide (0 ≤ a.2.2.1)) = true then (if (decide (a.2.2.1 < a.2.2.2)) = true then b ((decide (a.2.2.2 ≤ 1000))) else b (false)) else b (false)) else b (false)) else b (false)))
def D3 (c:Aew) (a:(Int × Int × Int × Int)) (f:(Int → Ae Bool)) (g:Int):Nat → Int → Ae Bool
 | 0,_=>none
 | m + 1,d=>(if (decide (d < (c.length:Int))) = true then (AL c d).bind fun b =>
 Bk (fun (h:Bool)=>(if h = true then some false else (D3 c a f g m) ((Ag (d + 1))))) (fun e=>(if (a.2.1 == b.2.1) = true then e ((decide ((Fy a.2.2.1 b.2.2.1) < (Fn a.2.2.2 b.2.2.2)))) else (if (a.1 == b.1) = true then e ((decide ((Fy a.2.2.1 b.2.2.1) < (Fn a.2.2.2 b.2.2.2)))) else e (false)))) else f ((Ag (g + 1))))
def CG (b:Aew):Nat → Int → Ae Bool
 | 0,_=>none
 | m + 1,a=>(if (decide (a < (b.length:Int))) = true then (AL b a).bind fun c =>
 Bk (fun (e:Bool)=>(if e = true then some false else (sl b 0 a).bind fun f =>
 D3 f c (CG b m) a FU (0))) (fun d=>(if (decide (0 < a)) = true then (AL b (Ag (a - 1))).bind fun g =>
 (Dr g c).bind fun h =>
 d ((decide (0 ≤ h))) else d (false))) else some true)
def Eg (a:Aew):Nat → Int → Ae Bool
 | 0,_=>none
 | m + 1,b=>(if (decide (b < (a.length:Int))) = true then (AL a b).bind fun c =>
 (JS c).bind fun d =>
 (if (!d) = true then some false else (Eg a m) ((Ag (b + 1)))) else CG a FU (0))
def FV (a:Aew):Ae Bool :=
 (if (decide (40 < (a.length:Int))) = true then some false else Eg a FU (0))
def DS (d:Aey):Nat → Int → Ae Bool
 | 0,_=>none
 | m + 1,a=>(if (decide (a < (d.length:Int))) = true then (AL d a).bind fun b =>
 Bk (fun (e:Bool)=>(if e = true then some false else (DS d m) ((Ag (a + 1))))) (fun c=>(if (decide (0 < a)) = true then (BX b.1 0 (Ag (a - 1))).bind fun f =>
 (if (!f) = true then c (true) else (BX b.2.1 0 7).bind fun g =>
 (if (!g) = true then c (true) else (BX b.2.2 0 999).bind fun h =>
 c ((!h)))) else (BX b.2.1 0 7).bind fun i =>
 (if (!i) = true then c (true) else (BX b.2.2 0 999).bind fun j =>
 c ((!j))))) else some true)
def FI (a:Aey):Ae Bool :=
 Bk (fun (c:Bool)=>(if c = true then some false else DS a FU (0))) (fun b=>(BX (a.length:Int) 1 60).bind fun d =>
 (if (!d) = true then b (true) else (AL a 0).bind fun e =>
 b ((e.1 != (-1)))))
def Im (a:Aey) (c:(Int × Int × Int)):Ae (Aey × Bool) :=
 (FI a).bind fun d =>
 (if (!d) = true then some ([],false) else Bk (fun (b:Aey)=>(FI b).bind fun e =>
 (if (!e) = true then some ([],false) else some (b,true))) (fun f=>(Cm [] a).bind fun g =>
 (Cm g [c]).bind fun h =>
 f (h)))
def Bn (c:(Aew → Int → Ae Aew)) (d:Int) (e:Int):Nat → Aew → Int → Ae Aew
 | 0,_,_=>none
 | m + 1,b,a=>Bk (fun (h:Bool)=>(if h = true then Bk (fun (i:Aew)=>(Bn c d e m) (i) ((Ag (a - 1)))) (fun j=>(AL b (Ag (a - 1))).bind fun f =>
 (AL b a).bind fun k =>
 (AL b a).bind fun p =>
 (AL (BD b a f) (Ag (a - 1))).bind fun q =>
 j ((BD (BD b a f) (Ag (a - 1)) k))) else c (b) ((Ag (d + 1))))) (fun g=>(if (decide (e < a)) = true then (AL b a).bind fun l =>
 (AL b (Ag (a - 1))).bind fun n =>
 (Dr l n).bind fun o =>
 g ((decide (o < 0))) else g (false)))
def AW (b:Int) (c:Int):Nat → Aew → Int → Ae Aew
 | 0,_,_=>none
 | m + 1,d,a=>(if (decide (a < b)) = true then Bn (AW b c m) a c FU (d) (a) else some d)
def Bj (b:Aew) (a:Int) (c:Int):Ae Aew :=
 AW c a FU (b) ((Ag (a + 1)))
def Bw (e:Int) (d:Int) (c:Int):Nat → Aew → Int → Ae Aew
 | 0,_,_=>none
 | m + 1,b,a=>(if (decide (a < e)) = true then Bk (fun (g:Aew)=>(Bw e d c m) (g) ((Ag (a + 1)))) (fun h=>(AL b (Ag (d + a))).bind fun f =>
 (AL b (Ag (c + a))).bind fun i =>
 (AL b (Ag (c + a))).bind fun j =>
 (AL (BD b (Ag (c + a)) f) (Ag (d + a))).bind fun k =>
 h ((BD (BD b (Ag (c + a)) f) (Ag (d + a)) i))) else some b)
def B7 (a:Aew) (b:Int) (c:Int) (d:Int):Ae Aew :=
 Bw d c b FU (a) (0)
def B0 (b:Int):Nat → Aew → Int → Int → Ae Aew
 | 0,_,_,_=>none
 | m + 1,d,a,c=>(if (a != c) = true then (if (decide (c < a)) = true then (B7 d (Ag (b - a)) b c).bind fun e =>
 (B0 b m) (e) ((Ag (a - c))) (c) else (B7 d (Ag (b - a)) (Ag ((Ag (b + c)) - a)) a).bind fun f =>
 (B0 b m) (f) (a) ((Ag (c - a)))) else (B7 d (Ag (b - a)) b a).bind fun g =>
 some g)
def BJ (b:Aew) (c:Int) (a:Int) (d:Int):Ae Aew :=
 B0 a FU (b) ((Ag (a - c))) ((Ag (d - a)))
def Bz (c:Int):Nat → Aew → Int → Ae Aew
 | 0,_,_=>none
 | m + 1,b,a=>(if (decide (a < (Ag (c - 1)))) = true then Bk (fun (e:Aew)=>(Bz c m) (e) ((Ag (a + 1)))) (fun f=>(AL b (Ag (a + 1))).bind fun d =>
 (AL b a).bind fun g =>
 (AL b a).bind fun h =>
 (AL (BD b a d) (Ag (a + 1))).bind fun i =>
 f ((BD (BD b a d) (Ag (a + 1)) g))) else some b)
def AJ (b:Aew) (d:Int):Nat → Int → Int → Ae Aew
 | 0,_,_=>none
 | m + 1,a,c=>(if (decide (a < c)) = true then (AL b (Ag (Bs .u64 (Bh (Ag (a + c))) 1))).bind fun e =>
 (AL b d).bind fun f =>
 (Dr e f).bind fun g =>
 (if (decide (g < 0)) = true then (AJ b d m) ((Ag ((Ag (Bs .u64 (Bh (Ag (a + c))) 1)) + 1))) (c) else (AJ b d m) (a) ((Ag (Bs .u64 (Bh (Ag (a + c))) 1)))) else Bz a FU (b) (d))
def Bx (c:Int):Nat → Aew → Int → Ae Aew
 | 0,_,_=>none
 | m + 1,b,a=>(if (decide (c < a)) = true then Bk (fun (e:Aew)=>(Bx c m) (e) ((Ag (a - 1)))) (fun f=>(AL b (Ag (a - 1))).bind fun d =>
 (AL b a).bind fun g =>
 (AL b a).bind fun h =>
 (AL (BD b a d) (Ag (a - 1))).bind fun i =>
 f ((BD (BD b a d) (Ag (a - 1)) g))) else some b)
def AH (b:Aew) (d:Int):Nat → Int → Int → Ae Aew
 | 0,_,_=>none
 | m + 1,a,c=>(if (decide (a < c)) = true then (AL b d).bind fun e =>
 (AL b (Ag (Bs .u64 (Bh (Ag (a + c))) 1))).bind fun f =>
 (Dr e f).bind fun g =>
 (if (!(decide (g < 0))) = true then (AH b d m) ((Ag ((Ag (Bs .u64 (Bh (Ag (a + c))) 1)) + 1))) (c) else (AH b d m) (a) ((Ag (Bs .u64 (Bh (Ag (a + c))) 1)))) else Bx a FU (b) (d))
def AG (e:Aew) (b:Int) (c:Int) (d:Int) (rec:(Aew → Int → Int → Int → Ae Aew)):Nat → Int → Int → Ae Aew
 | 0,_,_=>none
 | m + 1,a,f=>(if (decide (a < f)) = true then (AL e (Ag ((Ag ((Ag ((Ag (Bs .u64 (Bh (Ag (b + c))) 1)) + d)) - 1)) - (Ag (Bs .u64 (Bh (Ag (a + f))) 1))))).bind fun o =>
 (AL e (Ag (Bs .u64 (Bh (Ag (a + f))) 1))).bind fun p =>
 (Dr o p).bind fun q =>
 (if (!(decide (q < 0))) = true then (AG e b c d rec m) ((Ag ((Ag (Bs .u64 (Bh (Ag (a + f))) 1)) + 1))) (f) else (AG e b c d rec m) (a) ((Ag (Bs .u64 (Bh (Ag (a + f))) 1)))) else Bk (fun (g:Aew)=>Bk (fun (h:Aew)=>Bk (fun (r:Bool)=>(if r = true then (rec h (Ag (Bs .u64 (Bh (Ag (b + c))) 1)) (Ag ((Ag ((Ag (Bs .u64 (Bh (Ag (b + c))) 1)) + d)) - a)) c).bind fun s =>
 some s else some h)) (fun i=>(if (decide ((Ag (Bs .u64 (Bh (Ag (b + c))) 1)) < (Ag ((Ag ((Ag (Bs .u64 (Bh (Ag (b + c))) 1)) + d)) - a)))) = true then i ((decide ((Ag ((Ag ((Ag (Bs .u64 (Bh (Ag (b + c))) 1)) + d)) - a)) < c))) else i (false)))) (fun j=>Bk (fun (t:Bool)=>(if t = true then (rec g b a (Ag (Bs .u64 (Bh (Ag (b + c))) 1))).bind fun u =>
 j (u) else j (g))) (fun k=>(if (decide (b < a)) = true then k ((decide (a < (Ag (Bs .u64 (Bh (Ag (b + c))) 1))))) else k (false))))) (fun l=>Bk (fun (v:Bool)=>(if v = true then (BJ e a d (Ag ((Ag ((Ag (Bs .u64 (Bh (Ag (b + c))) 1)) + d)) - a))).bind fun w =>
 l (w) else l (e))) (fun n=>(if (decide (a < d)) = true then n ((decide (d < (Ag ((Ag ((Ag (Bs .u64 (Bh (Ag (b + c))) 1)) + d)) - a))))) else n (false)))))
def BW (rec:Aew → Int → Int → Int → Ae Aew) (d:Aew) (b:Int) (a:Int) (c:Int):Ae Aew :=
 (if ((Ag (a - b)) == 1) = true then AJ d b FU (a) (c) else (if ((Ag (c - a)) == 1) = true then AH d a FU (b) (a) else Gl (fun (f:Int) (g:Int)=>AG d b c a rec FU (f) (g)) (fun e=>(if (decide ((Ag (Bs .u64 (Bh (Ag (b + c))) 1)) < a)) = true then e ((Ag ((Ag ((Ag (Bs .u64 (Bh (Ag (b + c))) 1)) + a)) - c))) ((Ag (Bs .u64 (Bh (Ag (b + c))) 1))) else e (b) (a)))))
def AO:Nat → Aew → Int → Int → Int → Ae Aew
 | 0,_,_,_,_=>none
 | m + 1,a,b,c,d=>BW (AO m) a b c d
def Cb (a:Aew) (b:Int) (c:Int) (d:Int):Ae Aew :=
 AO FU a b c d
def Bo (c:Int) (a:Int) (f:(Aew → Int → Ae Aew)):Nat → Aew → Int → Int → Ae Aew
 | 0,_,_,_=>none
 | m + 1,e,b,d=>(if (decide (d ≤ c)) = true then (Cb e b (Ag (b + a)) d).bind fun h =>
 (Bo c a f m) (h) (d) ((Ag (d + (Ag (2 * a))))) else Bk (fun (i:Aew)=>f (i) ((Ag (a * 2)))) (fun g=>(if (decide ((Ag (b + a)) < c)) = true then (Cb e b (Ag (b + a)) c).bind fun j =>
 g (j) else g (e))))
def AE (a:Int):Nat → Aew → Int → Ae Aew
 | 0,_,_=>none
 | m + 1,c,b=>(if (decide (b < a)) = true then Bo a b (AE a m) FU (c) (0) ((Ag (2 * b))) else some c)
def AM (a:Int):Nat → Aew → Int → Int → Ae Aew
 | 0,_,_,_=>none
 | m + 1,c,d,b=>(if (decide (b ≤ a)) = true then (Bj c d b).bind fun e =>
 (AM a m) (e) (b) ((Ag (b + 20))) else (Bj c d a).bind fun f =>
 AE a FU (f) (20))
def C6 (a:Aew) (b:Int):Ae Aew :=
 AM b FU (a) (0) (20)
def B6 (a:Aew):Ae Aew :=
 (C6 a (a.length:Int)).bind fun b =>
 some b
def CI (a:(Aev × Aev × Int × Aev × Aew × Aey)) (f:(List Aj)) (b:(List Int)):Ae ((List Aj) × (Aev × Aev × Int × Aev × Aew × Aey)) :=
 (if (f == [109,101,97,115,117,114,101]) = true then Gl (fun (c:(Aev × Aev × Int × Aev × Aew × Aey)) (g:Aev)=>(I4 g).bind fun j =>
 (if (!j) = true then some ([110,111],c) else some ([111,107],(c.1,c.2.1,c.2.2.1,g,c.2.2.2.2.1,c.2.2.2.2.2)))) (fun k=>(AL b 0).bind fun l =>
 (AL b 1).bind fun m =>
 (Cm [] a.2.2.2.1).bind fun n =>
 (Cm n [(l,m)]).bind fun o =>
 k (a) (o)) else (if (f == [99,97,114,114,121]) = true then Gl (fun (d:(Aev × Aev × Int × Aev × Aew × Aey)) (p:Aew)=>(B6 p).bind fun h =>
 (FV h).bind fun q =>
 (if (!q) = true then some ([110,111],d) else some ([111,107],(d.1,d.2.1,d.2.2.1,d.2.2.2.1,h,d.2.2.2.2.2)))) (fun r=>(AL b 0).bind fun s =>
 (AL b 1).bind fun t =>
 (AL b 2).bind fun u =>
 (AL b 3).bind fun v =>
 (Cm [] a.2.2.2.2.1).bind fun w =>
 (Cm w [(s,t,u,v)]).bind fun x =>
 r (a) (x)) else (AL b 0).bind fun y =>
 (AL b 1).bind fun z =>
 (AL b 2).bind fun aa =>
 (Im a.2.2.2.2.2 (y,z,aa)).bind fun e =>
 Bk (fun (ab:(Aev × Aev × Int × Aev × Aew × Aey))=>(I2 e.2).bind fun ac =>
 some (ac,ab)) (fun i=>(if e.2 = true then i ((a.1,a.2.1,a.2.2.1,a.2.2.2.1,a.2.2.2.2.1,e.1)) else i (a)))))
def H6 (b:Aev) (c:Aev) (d:Int):Ae Bool :=
 Bk (fun (e:Bool)=>some e) (fun a=>(DZ b).bind fun f =>
 (if f = true then (DZ c).bind fun g =>
 (if g = true then (if ((b.length:Int) == (c.length:Int)) = true then (BX d 1 64).bind fun h =>
 a (h) else a (false)) else a (false)) else a (false)))
def Ed (a:(Int × Int)) (b:(Int × Int)):Ae Int :=
 some (Ag ((Ag ((Ag (a.1 - b.1)) * (Ag (a.1 - b.1)))) + (Ag ((Ag (a.2 - b.2)) * (Ag (a.2 - b.2))))))
def Es (a:Aev) (c:(Int × Int)) (d:Ae0) (e:(Ae0 → Int → Ae Ae0)) (f:Int):Nat → (List Int) → Int → Ae Ae0
 | 0,_,_=>none
 | m + 1,g,b=>(if (decide (b < (a.length:Int))) = true then (AL a b).bind fun h =>
 (Ed c h).bind fun i =>
 (Cm g [i]).bind fun j =>
 (Es a c d e f m) (j) ((Ag (b + 1))) else (Cm d [g]).bind fun k =>
 e (k) ((Ag (f + 1))))
def DE (a:Aev) (c:Aev):Nat → Ae0 → Int → Ae Ae0
 | 0,_,_=>none
 | m + 1,d,b=>(if (decide (b < (a.length:Int))) = true then (AL a b).bind fun e =>
 Es c e d (DE a c m) b FU ([]) (0) else some d)
def IF (a:Aev) (b:Aev):Ae Ae0 :=
 DE a b FU ([]) (0)
def La (a:Int):Ae Int :=
 some (B3 .i64 (Ag (Bh ((Bh ((Bh ((B3 .u64 (Bh ((Bs .u64 (Bh ((B3 .u64 (Bs .u64 (Bh ((B3 .u64 (Bs .u64 a 1) 6148914691236517205) + (B3 .u64 a 6148914691236517205))) 2) 3689348814741910323) + (B3 .u64 (Bh ((B3 .u64 (Bs .u64 a 1) 6148914691236517205) + (B3 .u64 a 6148914691236517205))) 3689348814741910323))) 4) + (Bh ((B3 .u64 (Bs .u64 (Bh ((B3 .u64 (Bs .u64 a 1) 6148914691236517205) + (B3 .u64 a 6148914691236517205))) 2) 3689348814741910323) + (B3 .u64 (Bh ((B3 .u64 (Bs .u64 a 1) 6148914691236517205) + (B3 .u64 a 6148914691236517205))) 3689348814741910323))))) 1085102592571150095) + (Bs .u64 (B3 .u64 (Bh ((Bs .u64 (Bh ((B3 .u64 (Bs .u64 (Bh ((B3 .u64 (Bs .u64 a 1) 6148914691236517205) + (B3 .u64 a 6148914691236517205))) 2) 3689348814741910323) + (B3 .u64 (Bh ((B3 .u64 (Bs .u64 a 1) 6148914691236517205) + (B3 .u64 a 6148914691236517205))) 3689348814741910323))) 4) + (Bh ((B3 .u64 (Bs .u64 (Bh ((B3 .u64 (Bs .u64 a 1) 6148914691236517205) + (B3 .u64 a 6148914691236517205))) 2) 3689348814741910323) + (B3 .u64 (Bh ((B3 .u64 (Bs .u64 a 1) 6148914691236517205) + (B3 .u64 a 6148914691236517205))) 3689348814741910323))))) 1085102592571150095) 8))) + (Bs .u64 (Bh ((B3 .u64 (Bh ((Bs .u64 (Bh ((B3 .u64 (Bs .u64 (Bh ((B3 .u64 (Bs .u64 a 1) 6148914691236517205) + (B3 .u64 a 6148914691236517205))) 2) 3689348814741910323) + (B3 .u64 (Bh ((B3 .u64 (Bs .u64 a 1) 6148914691236517205) + (B3 .u64 a 6148914691236517205))) 3689348814741910323))) 4) + (Bh ((B3 .u64 (Bs .u64 (Bh ((B3 .u64 (Bs .u64 a 1) 6148914691236517205) + (B3 .u64 a 6148914691236517205))) 2) 3689348814741910323) + (B3 .u64 (Bh ((B3 .u64 (Bs .u64 a 1) 6148914691236517205) + (B3 .u64 a 6148914691236517205))) 3689348814741910323))))) 1085102592571150095) + (Bs .u64 (B3 .u64 (Bh ((Bs .u64 (Bh ((B3 .u64 (Bs .u64 (Bh ((B3 .u64 (Bs .u64 a 1) 6148914691236517205) + (B3 .u64 a 6148914691236517205))) 2) 3689348814741910323) + (B3 .u64 (Bh ((B3 .u64 (Bs .u64 a 1) 6148914691236517205) + (B3 .u64 a 6148914691236517205))) 3689348814741910323))) 4) + (Bh ((B3 .u64 (Bs .u64 (Bh ((B3 .u64 (Bs .u64 a 1) 6148914691236517205) + (B3 .u64 a 6148914691236517205))) 2) 3689348814741910323) + (B3 .u64 (Bh ((B3 .u64 (Bs .u64 a 1) 6148914691236517205) + (B3 .u64 a 6148914691236517205))) 3689348814741910323))))) 1085102592571150095) 8))) 16))) + (Bs .u64 (Bh ((Bh ((B3 .u64 (Bh ((Bs .u64 (Bh ((B3 .u64 (Bs .u64 (Bh ((B3 .u64 (Bs .u64 a 1) 6148914691236517205) + (B3 .u64 a 6148914691236517205))) 2) 3689348814741910323) + (B3 .u64 (Bh ((B3 .u64 (Bs .u64 a 1) 6148914691236517205) + (B3 .u64 a 6148914691236517205))) 3689348814741910323))) 4) + (Bh ((B3 .u64 (Bs .u64 (Bh ((B3 .u64 (Bs .u64 a 1) 6148914691236517205) + (B3 .u64 a 6148914691236517205))) 2) 3689348814741910323) + (B3 .u64 (Bh ((B3 .u64 (Bs .u64 a 1) 6148914691236517205) + (B3 .u64 a 6148914691236517205))) 3689348814741910323))))) 1085102592571150095) + (Bs .u64 (B3 .u64 (Bh ((Bs .u64 (Bh ((B3 .u64 (Bs .u64 (Bh ((B3 .u64 (Bs .u64 a 1) 6148914691236517205) + (B3 .u64 a 6148914691236517205))) 2) 3689348814741910323) + (B3 .u64 (Bh ((B3 .u64 (Bs .u64 a 1) 6148914691236517205) + (B3 .u64 a 6148914691236517205))) 3689348814741910323))) 4) + (Bh ((B3 .u64 (Bs .u64 (Bh ((B3 .u64 (Bs .u64 a 1) 6148914691236517205) + (B3 .u64 a 6148914691236517205))) 2) 3689348814741910323) + (B3 .u64 (Bh ((B3 .u64 (Bs .u64 a 1) 6148914691236517205) + (B3 .u64 a 6148914691236517205))) 3689348814741910323))))) 1085102592571150095) 8))) + (Bs .u64 (Bh ((B3 .u64 (Bh ((Bs .u64 (Bh ((B3 .u64 (Bs .u64 (Bh ((B3 .u64 (Bs .u64 a 1) 6148914691236517205) + (B3 .u64 a 6148914691236517205))) 2) 3689348814741910323) + (B3 .u64 (Bh ((B3 .u64 (Bs .u64 a 1) 6148914691236517205) + (B3 .u64 a 6148914691236517205))) 3689348814741910323))) 4) + (Bh ((B3 .u64 (Bs .u64 (Bh ((B3 .u64 (Bs .u64 a 1) 6148914691236517205) + (B3 .u64 a 6148914691236517205))) 2) 3689348814741910323) + (B3 .u64 (Bh ((B3 .u64 (Bs .u64 a 1) 6148914691236517205) + (B3 .u64 a 6148914691236517205))) 3689348814741910323))))) 1085102592571150095) + (Bs .u64 (B3 .u64 (Bh ((Bs .u64 (Bh ((B3 .u64 (Bs .u64 (Bh ((B3 .u64 (Bs .u64 a 1) 6148914691236517205) + (B3 .u64 a 6148914691236517205))) 2) 3689348814741910323) + (B3 .u64 (Bh ((B3 .u64 (Bs .u64 a 1) 6148914691236517205) + (B3 .u64 a 6148914691236517205))) 3689348814741910323))) 4) + (Bh ((B3 .u64 (Bs .u64 (Bh ((B3 .u64 (Bs .u64 a 1) 6148914691236517205) + (B3 .u64 a 6148914691236517205))) 2) 3689348814741910323) + (B3 .u64 (Bh ((B3 .u64 (Bs .u64 a 1) 6148914691236517205) + (B3 .u64 a 6148914691236517205))) 3689348814741910323))))) 1085102592571150095) 8))) 16))) 32)))) 127)
def H8 (a:Int):Ae Int :=
 (La a).bind fun b =>
 some b
def DG (d:Ae0) (a:Int) (e:Int) (f:((List Int) → Int → Ae (List Int))):Nat → (List Int) → Int → Ae (List Int)
 | 0,_,_=>none
 | m + 1,b,c=>(if (decide (c < (d.length:Int))) = true then Bk (fun (h:(List Int))=>(DG d a e f m) (h) ((Ag (c + 1)))) (fun g=>(if (decide (0 ≤ c)) = true then (if ((B3 .i64 (Bs .i64 a c) 1) == 0) = true then (AL b a).bind fun i =>
 (AL d e).bind fun j =>
 (AL j c).bind fun k =>
 (AL b (Th .i64 a (KA .i64 1 c))).bind fun l =>
 (AL b a).bind fun n =>
 g ((BD b a (Fn i (Ag (k + l))))) else g (b)) else none)) else f (b) ((Ag (a - 1))))
def Ev (c:Ae0):Nat → (List Int) → Int → Ae (List Int)
 | 0,_,_=>none
 | m + 1,b,a=>(if (decide (0 ≤ a)) = true then (H8 (Bh a)).bind fun d =>
 (AL b a).bind fun e =>
 DG c a d (Ev c m) FU ((BD b a 13194139533312)) (0) else some b)
def II (a:Ae0):Ae (List Int) :=
 (if (decide (0 ≤ (a.length:Int))) = true then (RS (KA .i64 1 (a.length:Int)) 0).bind fun b =>
 Ev a FU (b) ((Ag ((KA .i64 1 (a.length:Int)) - 2))) else none)
def Dw (c:Ae0) (d:(List Int)) (e:(Int → (List Int) → Ae (List Int))) (b:Int) (g:Int) (f:(List Int)):Nat → Int → Ae (List Int)
 | 0,_=>none
 | m + 1,a=>(if (decide (a < (c.length:Int))) = true then Bk (fun (i:Bool)=>(if i = true then (Cm d [a]).bind fun j =>
 (if (decide (0 ≤ a)) = true then e ((Th .i64 b (KA .i64 1 a))) (j) else none) else (Dw c d e b g f m) ((Ag (a + 1))))) (fun h=>(if (decide (0 ≤ a)) = true then (if ((B3 .i64 (Bs .i64 b a) 1) == 0) = true then (AL c g).bind fun k =>
 (AL k a).bind fun l =>
 (AL f b).bind fun n =>
 (AL f (Th .i64 b (KA .i64 1 a))).bind fun o =>
 h (((Ag (l + o)) == n)) else h (false)) else none)) else e (b) (d))
def Dx (a:Ae0) (c:(List Int)):Nat → Int → (List Int) → Int → Ae (List Int)
 | 0,_,_,_=>none
 | m + 1,e,d,b=>(if (decide (b < (a.length:Int))) = true then Gl (fun (f:Int) (g:(List Int))=>(Dx a c m) (f) (g) ((Ag (b + 1)))) (fun h=>Dw a d h e b c FU (0)) else some d)
def GV (a:Ae0):Ae (List Int) :=
 (II a).bind fun b =>
 Dx a b FU (0) ([]) (0)
def Ft (a:(List Int)):Ae (List Int) :=
 (Cm [] a).bind fun b =>
 some b
def EI (a:Aev) (b:Aev) (c:Int) (d:(List Int)):Ae (Aev × Aev × Int × (List Int)) :=
 (Cm [] a).bind fun e =>
 (Cm [] b).bind fun f =>
 (Ft d).bind fun g =>
 some (e,f,c,g)
def Gq (a:Aev) (b:Aev) (c:Int):Ae ((Aev × Aev × Int × (List Int)) × Bool) :=
 (H6 a b c).bind fun d =>
 (if (!d) = true then some (([],[],0,[]),false) else (IF a b).bind fun e =>
 (GV e).bind fun f =>
 (EI a b c f).bind fun g =>
 some (g,true))
def Ef (b:(List Int)) (c:Int):Nat → Int → Int → Ae Bool
 | 0,_,_=>none
 | m + 1,e,d=>(if (decide (d < (b.length:Int))) = true then (AL b d).bind fun a =>
 Bk (fun (g:Bool)=>(if g = true then some false else (if (decide (0 ≤ a)) = true then (Ef b c m) ((Th .i64 e (KA .i64 1 a))) ((Ag (d + 1))) else none))) (fun f=>(BX a 0 (Ag (c - 1))).bind fun h =>
 (if (!h) = true then f (true) else (if (decide (0 ≤ a)) = true then f (((B3 .i64 (Bs .i64 e a) 1) == 1)) else none))) else some ((b.length:Int) == c))
def Ik (a:(List Int)) (b:Int):Ae Bool :=
 Ef a b FU (0) (0)
def Fp (a:(Aev × Aev × Int × (List Int))):Ae Bool :=
 Bk (fun (c:Bool)=>some c) (fun b=>(DZ a.1).bind fun d =>
 (if d = true then (DZ a.2.1).bind fun e =>
 (if e = true then (if ((a.1.length:Int) == (a.2.1.length:Int)) = true then (BX a.2.2.1 1 64).bind fun f =>
 (if f = true then (Ik a.2.2.2 (a.1.length:Int)).bind fun g =>
 b (g) else b (false)) else b (false)) else b (false)) else b (false)))
def Et (a:(Aev × Aev × Int × (List Int))):Nat → Int → Int → Ae Int
 | 0,_,_=>none
 | m + 1,c,b=>(if (decide (b < (a.2.2.2.length:Int))) = true then (AL a.2.2.2 b).bind fun d =>
 (AL a.1 b).bind fun e =>
 (AL a.2.1 d).bind fun f =>
 (Ed e f).bind fun g =>
 (Et a m) ((Ag (c + g))) ((Ag (b + 1))) else some c)
def IG (a:(Aev × Aev × Int × (List Int))):Ae Int :=
 Et a FU (0) (0)
def H7 (a:(Aev × Aev × Int × (List Int))):Ae (Int × Bool) :=
 (Fp a).bind fun b =>
 (if (!b) = true then some (0,false) else (IG a).bind fun c =>
 some (c,true))
def Fr (a:Int) (b:Bool):Ae (List Aj) :=
 (if b = true then (CZ a).bind fun c =>
 some c else some ([110,111]))
def Dg (a:Aev) (c:Aev) (d:Int):Nat → (List Int) → Int → Ae ((Aev × Aev × Int × (List Int)) × Bool)
 | 0,_,_=>none
 | m + 1,e,b=>(if (decide (b < (a.length:Int))) = true then (Cm e [b]).bind fun f =>
 (Dg a c d m) (f) ((Ag (b + 1))) else (EI a c d e).bind fun g =>
 some (g,true))
def ER (a:Aev) (b:Aev) (c:Int):Ae ((Aev × Aev × Int × (List Int)) × Bool) :=
 (H6 a b c).bind fun d =>
 (if (!d) = true then some (([],[],0,[]),false) else Dg a b c FU ([]) (0))
def I3 (a:Int):Ae Bool :=
 (BX a 0 80).bind fun b =>
 some b
def Fk (a:(Aev × Aev × Int × (List Int))):Nat → (List Aex) → Int → Ae (List Aex)
 | 0,_,_=>none
 | m + 1,c,b=>(if (decide (b < (a.2.2.2.length:Int))) = true then (AL a.2.2.2 b).bind fun d =>
 (AL a.1 b).bind fun e =>
 (AL a.2.1 d).bind fun f =>
 (Cm c [(e,f,a.2.2.1)]).bind fun g =>
 (Fk a m) (g) ((Ag (b + 1))) else some c)
def H5 (a:(Aev × Aev × Int × (List Int))):Ae (List Aex) :=
 Fk a FU ([]) (0)
def Ll (a:Aex) (b:Aex):Ae ((Int × Int) × (Int × Int) × Int × Int) :=
 some (((Ag (a.1.1 - b.1.1)),(Ag (a.1.2 - b.1.2))),((Ag ((Ag (a.2.1.1 - b.2.1.1)) - (Ag (a.1.1 - b.1.1)))),(Ag ((Ag (a.2.1.2 - b.2.1.2)) - (Ag (a.1.2 - b.1.2))))),(Ag ((Ag ((Ag (a.1.1 - b.1.1)) * (Ag ((Ag (a.2.1.1 - b.2.1.1)) - (Ag (a.1.1 - b.1.1)))))) + (Ag ((Ag (a.1.2 - b.1.2)) * (Ag ((Ag (a.2.1.2 - b.2.1.2)) - (Ag (a.1.2 - b.1.2)))))))),(Ag ((Ag ((Ag ((Ag (a.2.1.1 - b.2.1.1)) - (Ag (a.1.1 - b.1.1)))) * (Ag ((Ag (a.2.1.1 - b.2.1.1)) - (Ag (a.1.1 - b.1.1)))))) + (Ag ((Ag ((Ag (a.2.1.2 - b.2.1.2)) - (Ag (a.1.2 - b.1.2)))) * (Ag ((Ag (a.2.1.2 - b.2.1.2)) - (Ag (a.1.2 - b.1.2)))))))))
def GW  : Nat → Int → Int → Ae Int
 | 0,_,_=>none
 | m + 1,b,a=>(if (a != 0) = true then (if a = 0 then none else (GW m) (a) ((Int.tmod b a))) else some b)
def Mo (a:Int) (b:Int):Ae Int :=
 GW FU ((Fy a (Ag (0 - a)))) ((Fy b (Ag (0 - b))))
def FH (b:Int) (c:Int):Ae (Int × Int) :=
 (Mo b c).bind fun a =>
 (if a = 0 then none else (if a = 0 then none else some ((Ag (Int.tdiv b a)),(Ag (Int.tdiv c a)))))
def Ij (b:Aex) (c:Aex):Ae (Int × Int) :=
 (Ll b c).bind fun a =>
 (if (decide (0 ≤ a.2.2.1)) = true then some ((Ag ((Ag (a.1.1 * a.1.1)) + (Ag (a.1.2 * a.1.2)))),1) else (if (decide (a.2.2.2 ≤ (Ag (0 - a.2.2.1)))) = true then (Ed b.2.1 c.2.1).bind fun d =>
 some (d,1) else (FH (Ag ((Ag ((Ag (a.1.1 * a.2.1.2)) - (Ag (a.1.2 * a.2.1.1)))) * (Ag ((Ag (a.1.1 * a.2.1.2)) - (Ag (a.1.2 * a.2.1.1)))))) a.2.2.2).bind fun e =>
 some e))
def IE (c:Aex) (d:Aex) (a:Int):Ae Bool :=
 (Ij c d).bind fun b =>
 some (decide ((Ag ((Ag (a * a)) * b.2)) ≤ b.1))
def Dy (u8:(List Aex)) (a:Int) (d:Int) (e:(Ae0 → Int → Ae Ae0)):Nat → Ae0 → Int → Ae Ae0
 | 0,_,_=>none
 | m + 1,c,b=>(if (decide (b < (u8.length:Int))) = true then Bk (fun (g:Ae0)=>(Dy u8 a d e m) (g) ((Ag (b + 1)))) (fun f=>(AL u8 a).bind fun h =>
 (AL u8 b).bind fun i =>
 (IE h i d).bind fun j =>
 (if (!j) = true then (Cm c [[a,b]]).bind fun k =>
 f (k) else f (c))) else e (c) ((Ag (a + 1))))
def Dz (u8:(List Aex)) (b:Int):Nat → Ae0 → Int → Ae Ae0
 | 0,_,_=>none
 | m + 1,c,a=>(if (decide (a < (u8.length:Int))) = true then Dy u8 a b (Dz u8 b m) FU (c) ((Ag (a + 1))) else some c)
def GY (a:(Aev × Aev × Int × (List Int))) (b:Int):Ae Ae0 :=
 (H5 a).bind fun u8 =>
 Dz u8 b FU ([]) (0)
def GZ (a:(Aev × Aev × Int × (List Int))) (b:Int):Ae (Ae0 × Bool) :=
 Bk (fun (d:Bool)=>(if d = true then some ([],false) else (GY a b).bind fun e =>
 some (e,true))) (fun c=>(Fp a).bind fun f =>
 (if (!f) = true then c (true) else (I3 b).bind fun g =>
 c ((!g))))
def CF (a:(Ae0 × Bool)):Nat → (List (List Aj)) → Int → Ae (List Aj)
 | 0,_,_=>none
 | m + 1,c,b=>(if (decide (b < (a.1.length:Int))) = true then Bk (fun (e:(List (List Aj)))=>(CF a m) (e) ((Ag (b + 1)))) (fun f=>(AL a.1 b).bind fun d =>
 (AL d 0).bind fun g =>
 (AL d 1).bind fun h =>
 (CZ g).bind fun i =>
 (Cm i [45]).bind fun j =>
 (CZ h).bind fun k =>
 (Cm j k).bind fun l =>
 (Cm c [l]).bind fun n =>
 f (n)) else (Iy c [32]).bind fun o =>
 some o)
def GJ (b:(Aev × Aev × Int × Aev × Aew × Aey)) (d:Int):Ae (List Aj) :=
 Wz (fun (e:Aev) (f:Aev) (g:Int) (h:(List Int))=>(GZ (e,f,g,h) d).bind fun c =>
 (if (!c.2) = true then some ([110,111]) else (if ((c.1.length:Int) == 0) = true then some ([110,111,110,101]) else CF c FU ([]) (0)))) (fun i=>(ER b.2.1 b.1 b.2.2.1).bind fun a =>
 i (a.1.1) (a.1.2.1) (a.1.2.2.1) (a.1.2.2.2))
def J6 (a:(Aev × Aev × Int × (List Int))):Ae Bool :=
 Bk (fun (c:Bool)=>some c) (fun b=>(Fp a).bind fun d =>
 (if d = true then (if (decide (a.2.2.1 ≤ 16)) = true then b ((decide ((a.1.length:Int) ≤ 6))) else b (false)) else b (false)))
def FP (a:Aex) (b:Int):Ae (Int × Int) :=
 some ((Ag ((Ag (a.1.1 * a.2.2)) + (Ag (b * (Ag (a.2.1.1 - a.1.1)))))),(Ag ((Ag (a.1.2 * a.2.2)) + (Ag (b * (Ag (a.2.1.2 - a.1.2)))))))
def Ge (a:Aex) (b:Int) (c:Int):Ae (Int × Int) :=
 (FP a (Fn (Fy (Ag (c - b)) 0) a.2.2)).bind fun u8 =>
 some u8
def JU (a:Int) (b:Int):Ae (Int × Int) :=
 some ((Bh ((Bh ((Bh ((Bs .u64 a 32) * (Bs .u64 b 32))) + (Bs .u64 (Bh ((Bh ((Bs .u64 a 32) * (B3 .u64 b 4294967295))) + (Bs .u64 (Bh ((B3 .u64 a 4294967295) * (B3 .u64 b 4294967295))) 32))) 32))) + (Bs .u64 (Bh ((B3 .u64 (Bh ((Bh ((Bs .u64 a 32) * (B3 .u64 b 4294967295))) + (Bs .u64 (Bh ((B3 .u64 a 4294967295) * (B3 .u64 b 4294967295))) 32))) 4294967295) + (Bh ((B3 .u64 a 4294967295) * (Bs .u64 b 32))))) 32))),(Bh (a * b)))
def Fo (d:Int) (e:Int) (f:Int) (g:Int):Ae Bool :=
 (JU (Bh d) (Bh g)).bind fun a =>
 (JU (Bh f) (Bh e)).bind fun b =>
 Bk (fun (h:Bool)=>some h) (fun c=>(if (decide (a.1 < b.1)) = true then c (true) else (if (a.1 == b.1) = true then c ((decide (a.2 < b.2))) else c (false))))
def C0 (e:Aex) (g:Int) (h:Int) (k:Aex):Nat → Int → Int → Int → Int → Int → Ae (Int × Int)
 | 0,_,_,_,_,_=>none
 | m + 1,c,d,i,j,f=>(if (decide (f ≤ (Ag (e.2.2 + (Fy g h))))) = true then (Ge e g f).bind fun a =>
 (Ge k h f).bind fun b =>
 Gl (fun (l:Int) (n:Int)=>Gl (fun (s:Int) (t:Int)=>(C0 e g h k m) ((Ag (a.1 - b.1))) ((Ag (a.2 - b.2))) (s) (t) ((Ag (f + 1)))) (fun o=>(Fo l n i j).bind fun u =>
 (if u = true then o (l) (n) else o (i) (j)))) (fun p=>Bk (fun (v:Bool)=>(if v = true then p ((Ag ((Ag ((Ag (c * (Ag ((Ag (a.2 - b.2)) - d)))) - (Ag (d * (Ag ((Ag (a.1 - b.1)) - c)))))) * (Ag ((Ag (c * (Ag ((Ag (a.2 - b.2)) - d)))) - (Ag (d * (Ag ((Ag (a.1 - b.1)) - c))))))))) ((Ag ((Ag ((Ag ((Ag (a.1 - b.1)) - c)) * (Ag ((Ag (a.1 - b.1)) - c)))) + (Ag ((Ag ((Ag (a.2 - b.2)) - d)) * (Ag ((Ag (a.2 - b.2)) - d))))))) else p ((Ag ((Ag ((Ag (a.1 - b.1)) * (Ag (a.1 - b.1)))) + (Ag ((Ag (a.2 - b.2)) * (Ag (a.2 - b.2))))))) (1))) (fun q=>(if (decide ((Ag ((Ag (c * (Ag ((Ag (a.1 - b.1)) - c)))) + (Ag (d * (Ag ((Ag (a.2 - b.2)) - d)))))) < 0)) = true then q ((decide ((Ag (0 - (Ag ((Ag (c * (Ag ((Ag (a.1 - b.1)) - c)))) + (Ag (d * (Ag ((Ag (a.2 - b.2)) - d)))))))) < (Ag ((Ag ((Ag ((Ag (a.1 - b.1)) - c)) * (Ag ((Ag (a.1 - b.1)) - c)))) + (Ag ((Ag ((Ag (a.2 - b.2)) - d)) * (Ag ((Ag (a.2 - b.2)) - d))))))))) else q (false)))) else (FH i j).bind fun r =>
 (FH r.1 (Ag ((Ag (r.2 * e.2.2)) * e.2.2))).bind fun w =>
 some w)
def Gg (c:Aex) (d:Aex) (e:Int) (f:Int):Ae (Int × Int) :=
 (FP c 0).bind fun a =>
 (FP d 0).bind fun b =>
 C0 c e f d FU ((Ag (a.1 - b.1))) ((Ag (a.2 - b.2))) ((Ag ((Ag ((Ag (a.1 - b.1)) * (Ag (a.1 - b.1)))) + (Ag ((Ag (a.2 - b.2)) * (Ag (a.2 - b.2))))))) (1) (1)
def Gh (c:Aex) (d:Aex) (e:Int) (f:Int) (a:Int):Ae Bool :=
 (Gg c d e f).bind fun b =>
 some (decide (b.1 < (Ag ((Ag (a * a)) * b.2))))
def D6 (u8:(List Aex)) (a:Int) (c:(List Int)) (e:Int) (f:(Ae0 → Int → Ae Ae0)):Nat → Ae0 → Int → Ae Ae0
 | 0,_,_=>none
 | m + 1,d,b=>(if (decide (b < (u8.length:Int))) = true then Bk (fun (h:Ae0)=>(D6 u8 a c e f m) (h) ((Ag (b + 1)))) (fun g=>(AL u8 a).bind fun i =>
 (AL u8 b).bind fun j =>
 (AL c a).bind fun k =>
 (AL c b).bind fun l =>
 (Gh i j k l e).bind fun n =>
 (if n = true then (Cm d [[a,b]]).bind fun o =>
 g (o) else g (d))) else f (d) ((Ag (a + 1))))
def D7 (u8:(List Aex)) (b:(List Int)) (c:Int):Nat → Ae0 → Int → Ae Ae0
 | 0,_,_=>none
 | m + 1,d,a=>(if (decide (a < (u8.length:Int))) = true then D6 u8 a b c (D7 u8 b c m) FU (d) ((Ag (a + 1))) else some d)
def Hw (a:(Aev × Aev × Int × (List Int))) (b:(List Int)) (c:Int):Ae Ae0 :=
 (H5 a).bind fun u8 =>
 D7 u8 b c FU ([]) (0)
def Gf (a:(Aev × Aev × Int × (List Int))) (b:Int):Ae Bool :=
 (RS (a.1.length:Int) 0).bind fun c =>
 (Hw a c b).bind fun d =>
 some ((d.length:Int) == 0)
def Ih (b:(Aev × Aev × Int × (List Int))) (c:Int) (d:Int):Ae (Aev × Aev × Int × (List Int)) :=
 (EI b.1 b.2.1 b.2.2.1 b.2.2.2).bind fun a =>
 Bk (fun (f:(List Int))=>some (a.1,a.2.1,a.2.2.1,f)) (fun g=>(AL a.2.2.2 d).bind fun e =>
 (AL a.2.2.2 c).bind fun h =>
 (AL a.2.2.2 c).bind fun i =>
 (AL (BD a.2.2.2 c e) d).bind fun j =>
 g ((BD (BD a.2.2.2 c e) d h)))
def Ee (c:(Aev × Aev × Int × (List Int))) (a:Int) (d:Int) (e:(Int → Ae (Int × Int × Bool))):Nat → Int → Ae (Int × Int × Bool)
 | 0,_=>none
 | m + 1,b=>(if (decide (b < (c.1.length:Int))) = true then (Ih c a b).bind fun f =>
 (Gf f d).bind fun g =>
 (if g = true then some (a,b,true) else (Ee c a d e m) ((Ag (b + 1)))) else e ((Ag (a + 1))))
def Dm (a:(Aev × Aev × Int × (List Int))) (c:Int):Nat → Int → Ae (Int × Int × Bool)
 | 0,_=>none
 | m + 1,b=>(if (decide (b < (a.1.length:Int))) = true then Ee a b c (Dm a c m) FU ((Ag (b + 1))) else some (0,0,false))
def Ii (a:(Aev × Aev × Int × (List Int))) (b:Int):Ae (Int × Int × Bool) :=
 Dm a b FU (0)
def CK (a:(List Int)) (b:Int) (rec:(Aez → (List Int) → Int → Ae Aez)) (g:Int) (e:(Aez → Ae Aez)):Nat → Aez → Bool → Int → Ae Aez
 | 0,_,_,_=>none
 | m + 1,d,h,c=>(if (decide (c < (a.length:Int))) = true then Gl (fun (j:Aez) (k:Bool)=>(CK a b rec g e m) (j) (k) ((Ag (c + 1)))) (fun i=>(AL a c).bind fun f =>
 (if h = true then (if (decide (0 ≤ c) && decide (c < 6)) = true then (if (decide (0 ≤ (a.length:Int)) && decide ((a.length:Int) < 6)) = true then (if (decide (0 ≤ f) && decide (f < 5)) = true then (if (decide (0 ≤ b) && decide (b < 5)) = true then (d.1[c.toNat * 150 + (a.length:Int).toNat * 25 + f.toNat * 5 + b.toNat * 1]?).bind fun l =>
 i (d) ((!l)) else none) else none) else none) else none) else i (d) (false))) else (if h = true then (Ft a).bind fun n =>
 (Cm n [b]).bind fun o =>
 (rec d o (Ag (g + b))).bind fun p =>
 e (p) else e (d)))
def Cu (b:(List Int)) (rec:(Aez → (List Int) → Int → Ae Aez)) (c:Int):Nat → Aez → Int → Ae Aez
 | 0,_,_=>none
 | m + 1,d,a=>(if (decide (a ≤ 4)) = true then Bk (fun (e:Aez)=>(Cu b rec c m) (e) ((Ag (a + 1)))) (fun f=>CK b a rec c f FU (d) (true) (0)) else some d)
def EL (rec:Aez → (List Int) → Int → Ae Aez) (b:Aez) (c:(List Int)) (d:Int):Ae Aez :=
 Gl (fun (a:Aez) (g:Bool)=>(if g = true then some a else (if ((c.length:Int) == a.2.1) = true then (Ft c).bind fun e =>
 (if (List.isEmpty e) = true then none else some (a.1,a.2.1,e,d)) else Cu c rec d FU (a) (0)))) (fun f=>(if (!(List.isEmpty b.2.2.1)) = true then f (b) ((decide (b.2.2.2 ≤ d))) else f (b) (false)))
def Cl:Nat → Aez → (List Int) → Int → Ae Aez
 | 0,_,_,_=>none
 | m + 1,a,b,c=>EL (Cl m) a b c
def GX (a:Aez) (b:(List Int)) (c:Int):Ae Aez :=
 Cl FU a b c
def DL (u8:(List Aex)) (c:Int) (d:Int) (a:Int) (f:Int) (g:(Aez → Int → Ae Ae1)):Nat → Aez → Int → Ae Ae1
 | 0,_,_=>none
 | m + 1,e,b=>(if (decide (b ≤ 4)) = true then Bk (fun (h:Aez)=>(DL u8 c d a f g m) (h) ((Ag (b + 1)))) (fun i=>(AL u8 c).bind fun j =>
 (AL u8 d).bind fun k =>
 (if (decide (0 ≤ c) && decide (c < 6)) = true then (if (decide (0 ≤ d) && decide (d < 6)) = true then (if (decide (0 ≤ a) && decide (a < 5)) = true then (Gh j k a b f).bind fun l =>
 (if (decide (0 ≤ b) && decide (b < 5)) = true then (NN e.1 (c.toNat * 150 + d.toNat * 25 + a.toNat * 5 + b.toNat * 1) l).bind fun n =>
 i ((n,e.2.1,e.2.2.1,e.2.2.2)) else none) else none) else none) else none)) else g (e) ((Ag (a + 1))))
def DM (u8:(List Aex)) (b:Int) (a:Int) (c:Int) (d:(Aez → Int → Ae Ae1)):Nat → Aez → Int → Ae Ae1
 | 0,_,_=>none
 | m + 1,e,f=>(if (decide (f ≤ 4)) = true then DL u8 b a f c (DM u8 b a c d m) FU (e) (0) else d (e) ((Ag (a + 1))))
def DN (u8:(List Aex)) (a:Int) (b:Int) (c:(Aez → Int → Ae Ae1)):Nat → Aez → Int → Ae Ae1
 | 0,_,_=>none
 | m + 1,d,e=>(if (decide (e < (u8.length:Int))) = true then DM u8 a e b (DN u8 a b c m) FU (d) (0) else c (d) ((Ag (a + 1))))
def DO (u8:(List Aex)) (b:Int):Nat → Aez → Int → Ae Ae1
 | 0,_,_=>none
 | m + 1,c,a=>(if (decide (a < (u8.length:Int))) = true then DN u8 a b (DO u8 b m) FU (c) ((Ag (a + 1))) else (GX c [] 0).bind fun d =>
 some (d.2.2.1,d.2.2.2))
def HI (a:(Aev × Aev × Int × (List Int))) (b:Int):Ae Ae1 :=
 (H5 a).bind fun u8 =>
 DO u8 b FU (((List.replicate 900 false),(u8.length:Int),[],0)) (0)
def Il (a:(Aev × Aev × Int × (List Int))) (b:Int):Ae (Int × Bool) :=
 Bk (fun (d:Bool)=>(if d = true then some (0,false) else (Gf a b).bind fun e =>
 (if e = true then some (0,true) else (Ii a b).bind fun f =>
 (if f.2.2 = true then some (1,true) else (HI a b).bind fun g =>
 (if (!(List.isEmpty g.1)) = true then some (2,true) else some (3,true)))))) (fun c=>(J6 a).bind fun h =>
 (if (!h) = true then c (true) else (I3 b).bind fun i =>
 c ((!i))))
def Ds (a:Aev) (b:Int) (f:(Int → Int → Int → Ae (Int × Int))):Nat → Int → Int → Int → Ae (Int × Int)
 | 0,_,_,_=>none
 | m + 1,d,e,c=>(if (decide (c < (a.length:Int))) = true then Gl (fun (h:Int) (i:Int)=>(Ds a b f m) (h) (i) ((Ag (c + 1)))) (fun g=>(AL a b).bind fun j =>
 (AL a c).bind fun k =>
 (AL a d).bind fun l =>
 (AL a e).bind fun n =>
 (Ed j k).bind fun o =>
 (Ed l n).bind fun p =>
 (if (decide (o < p)) = true then g (b) (c) else g (d) (e))) else f (d) (e) ((Ag (b + 1))))
def DQ (a:Aev):Nat → Int → Int → Int → Ae (Int × Int)
 | 0,_,_,_=>none
 | m + 1,c,d,b=>(if (decide (b < (a.length:Int))) = true then Ds a b (DQ a m) FU (c) (d) ((Ag (b + 1))) else some (c,d))
def HK (a:Aev):Ae (Int × Int) :=
 DQ a FU (0) (1) (0)
def EC (a:Aev):Ae (Int × Bool) :=
 Bk (fun (d:Bool)=>(if d = true then some (0,false) else (HK a).bind fun b =>
 (AL a b.1).bind fun e =>
 (AL a b.2).bind fun f =>
 (Ed e f).bind fun g =>
 some (g,true))) (fun c=>(DZ a).bind fun h =>
 (if (!h) = true then c (true) else c ((decide ((a.length:Int) < 2)))))
def H4 (a:Int):Ae (List Aj) :=
 (CZ (Ag (Int.tdiv a 8))).bind fun b =>
 Bk (fun (d:(List Aj))=>some d) (fun c=>(if (decide (0 < (Int.tmod a 8))) = true then (CZ (Int.tmod a 8)).bind fun e =>
 (Cm [43] e).bind fun f =>
 (Cm b f).bind fun g =>
 c (g) else c (b)))
def Jy (a:(Int × Int)):Ae ((List Aj) × Bool) :=
 (Gt a).bind fun b =>
 (if (!b) = true then some ([],false) else (H4 a.1).bind fun c =>
 (Cm c [44]).bind fun d =>
 (H4 a.2).bind fun e =>
 (Cm d e).bind fun f =>
 some (f,true))
def DF (b:Int):Nat → Int → Ae Int
 | 0,_=>none
 | m + 1,a=>(if (decide ((Ag ((Ag ((Ag (4800 * a)) * 4800)) * a)) < (Ag (1000000 * b)))) = true then (DF b m) ((Ag (a + 1))) else some a)
def Kd (a:(Int × Int)) (b:(Int × Int)):Ae Int :=
 (Ed a b).bind fun c =>
 DF c FU (0)
def Gz (a:(Int × Int)) (b:(Int × Int)):Ae (Int × Bool) :=
 Bk (fun (d:Bool)=>(if d = true then some (0,false) else (Kd a b).bind fun e =>
 some (e,true))) (fun c=>(Gt a).bind fun f =>
 (if (!f) = true then c (true) else (Gt b).bind fun g =>
 c ((!g))))
def EB (a:Aev):Nat → Int → Int → Ae Int
 | 0,_,_=>none
 | m + 1,c,b=>(if (decide (b < (a.length:Int))) = true then (AL a b).bind fun d =>
 (EB a m) ((Ag (c + d.1))) ((Ag (b + 1))) else some c)
def Jx (a:Aev):Ae Int :=
 EB a FU (0) (0)
def Gy (b:Aev):Nat → Int → Int → Int → Ae Int
 | 0,_,_,_=>none
 | m + 1,c,d,e=>(if (decide (e < (b.length:Int))) = true then (AL b e).bind fun a =>
 (if (decide (c < a.1)) = true then (if a.2 = 0 then none else some (Ag (d + (Ag (Int.tdiv (Ag (60000 * c)) a.2))))) else (if a.2 = 0 then none else (Gy b m) ((Ag (c - a.1))) ((Ag (d + (Ag (Int.tdiv (Ag (60000 * a.1)) a.2))))) ((Ag (e + 1))))) else some d)
def Ji (a:Aev) (b:Int):Ae Int :=
 Gy a FU (b) (0) (0)
def Ku (a:Aev) (b:Int):Ae (Int × Bool) :=
 Bk (fun (d:Bool)=>(if d = true then some (0,false) else (Ji a b).bind fun e =>
 some (e,true))) (fun c=>(I4 a).bind fun f =>
 (if (!f) = true then c (true) else (Jx a).bind fun g =>
 (BX b 0 g).bind fun h =>
 c ((!h))))
def Ew (b:Aew) (f:Int) (c:Int):Nat → Int → Ae (Int × Bool)
 | 0,_=>none
 | m + 1,d=>(if (decide (d < (b.length:Int))) = true then (AL b d).bind fun a =>
 Bk (fun (g:Bool)=>(if g = true then some (a.1,true) else (Ew b f c m) ((Ag (d + 1))))) (fun e=>(if (a.2.1 == f) = true then (if (decide (a.2.2.1 ≤ c)) = true then e ((decide (c < a.2.2.2))) else e (false)) else e (false))) else some (0,false))
def IJ (b:Aew) (c:Int) (d:Int):Ae (Int × Bool) :=
 Bk (fun (e:Bool)=>(if e = true then some (0,false) else Ew b c d FU (0))) (fun a=>(FV b).bind fun f =>
 (if (!f) = true then a (true) else (BX c 1 9).bind fun g =>
 (if (!g) = true then a (true) else (BX d 0 999).bind fun u64 =>
 a ((!u64)))))
def DP (a:(List Int)) (b:Aey):Nat → Int → Ae Bool
 | 0,_=>none
 | m + 1,c=>(if (decide (c < (a.length:Int))) = true then (AL a c).bind fun d =>
 (BX d 0 (Ag ((b.length:Int) - 1))).bind fun e =>
 (if (!e) = true then some false else (DP a b m) ((Ag (c + 1)))) else (FI b).bind fun f =>
 some f)
def HJ (a:Aey) (b:(List Int)):Ae Bool :=
 DP b a FU (0)
def CS  : Nat → (List Int) → Int → Int → Ae (List Int)
 | 0,_,_,_=>none
 | m + 1,a,b,c=>(if (decide (b < c)) = true then Bk (fun (e:(List Int))=>(CS m) (e) ((Ag (b + 1))) ((Ag (c - 1)))) (fun f=>(AL a c).bind fun d =>
 (AL a b).bind fun g =>
 (AL a b).bind fun h =>
 (AL (BD a b d) c).bind fun i =>
 f ((BD (BD a b d) c g))) else some a)
def Em (a:(List Int)):Ae (List Int) :=
 CS FU (a) (0) ((Ag ((a.length:Int) - 1)))
def E6 (b:Aey):Nat → Int → (List Int) → Ae (List Int)
 | 0,_,_=>none
 | m + 1,a,c=>(if (decide (0 ≤ a)) = true then (Cm c [a]).bind fun d =>
 (AL b a).bind fun e =>
 (E6 b m) (e.1) (d) else (Em c).bind fun f =>
 some f)
def KZ (a:Aey) (b:Int):Ae (List Int) :=
 E6 a FU (b) ([])
def Dl (a:(List Int)) (b:Aey):Nat → (List Int) → Int → Ae (List Int)
 | 0,_,_=>none
 | m + 1,c,d=>(if (decide (d < (a.length:Int))) = true then (AL a d).bind fun e =>
 (AL b e).bind fun f =>
 (AL b e).bind fun g =>
 (AL c f.2.1).bind fun h =>
 (Dl a b m) ((BD c f.2.1 g.2.2)) ((Ag (d + 1))) else some c)
def Fi (a:Aey) (b:Int):Nat → (List Int) → Int → Ae (List Int)
 | 0,_,_=>none
 | m + 1,c,d=>(if (decide (d < 8)) = true then (Cm c [(-1)]).bind fun e =>
 (Fi a b m) (e) ((Ag (d + 1))) else (KZ a b).bind fun f =>
 Dl f a FU (c) (0))
def JP (a:Aey) (b:Int):Ae (List Int) :=
 Fi a b FU ([]) (0)
def JT (a:Aey) (b:Int):Ae ((List Int) × Bool) :=
 (HJ a [b]).bind fun c =>
 (if (!c) = true then some ([],false) else (JP a b).bind fun d =>
 some (d,true))
def Cw (a:((List Int) × Bool)):Nat → (List (List Aj)) → Int → Ae (List Aj)
 | 0,_,_=>none
 | m + 1,b,c=>(if (decide (c < (a.1.length:Int))) = true then Bk (fun (f:(List (List Aj)))=>(Cw a m) (f) ((Ag (c + 1)))) (fun d=>(AL a.1 c).bind fun e =>
 (if (decide (e < 0)) = true then (Cm b [[45]]).bind fun g =>
 d (g) else (CZ e).bind fun h =>
 (Cm b [h]).bind fun i =>
 d (i))) else (Iy b [32]).bind fun j =>
 some j)
def Fx (b:(Aev × Aev × Int × Aev × Aew × Aey)) (c:Int):Ae (List Aj) :=
 (JT b.2.2.2.2.2 c).bind fun a =>
 (if (!a.2) = true then some ([110,111]) else Cw a FU ([]) (0))
def Ca (a:(Aev × Aev × Int × Aev × Aew × Aey)) (c:(List Aj)) (b:(List Int)):Ae (List Aj) :=
 (if (c == [115,117,109]) = true then Wz (fun (l:Aev) (m:Aev) (n:Int) (o:(List Int))=>(H7 (l,m,n,o)).bind fun f =>
 (Fr f.1 f.2).bind fun p =>
 some p) (fun q=>(Gq a.2.1 a.1 a.2.2.1).bind fun d =>
 q (d.1.1) (d.1.2.1) (d.1.2.2.1) (d.1.2.2.2)) else (if (c == [99,108,111,115,101]) = true then (AL b 0).bind fun r =>
 (GJ a r).bind fun s =>
 some s else (if (c == [107,105,110,100]) = true then Wz (fun (t:Aev) (u:Aev) (v:Int) (w:(List Int))=>(AL b 0).bind fun x =>
 (Il (t,u,v,w) x).bind fun g =>
 (Fr g.1 g.2).bind fun y =>
 some y) (fun z=>(ER a.2.1 a.1 a.2.2.1).bind fun e =>
 z (e.1.1) (e.1.2.1) (e.1.2.2.1) (e.1.2.2.2)) else (if (c == [108,101,97,115,116]) = true then (EC a.1).bind fun h =>
 (Fr h.1 h.2).bind fun aa =>
 some aa else (if (c == [116,101,120,116]) = true then (AL b 0).bind fun ab =>
 (if (decide ((a.1.length:Int) ≤ ab)) = true then some ([110,111]) else (AL b 0).bind fun ac =>
 (AL a.1 ac).bind fun ad =>
 (Jy ad).bind fun ae =>
 some ae.1) else (if (c == [115,111,117,110,100]) = true then (AL b 0).bind fun af =>
 (AL b 1).bind fun ag =>
 (if (decide ((a.1.length:Int) ≤ (Fy af ag))) = true then some ([110,111]) else (AL b 0).bind fun ah =>
 (AL a.1 ah).bind fun ai =>
 (AL b 1).bind fun aj =>
 (AL a.1 aj).bind fun ak =>
 (Gz ai ak).bind fun i =>
 (Fr i.1 i.2).bind fun al =>
 some al) else (if (c == [116,105,109,101]) = true then (AL b 0).bind fun am =>
 (Ku a.2.2.2.1 am).bind fun j =>
 (Fr j.1 j.2).bind fun an =>
 some an else (if (c == [119,104,111]) = true then (AL b 0).bind fun ao =>
 (AL b 1).bind fun ap =>
 (IJ a.2.2.2.2.1 ao ap).bind fun k =>
 (if (!k.2) = true then some ([110,111,110,101]) else (CZ k.1).bind fun aq =>
 some aq) else (AL b 0).bind fun ar =>
 (Fx a ar).bind fun au =>
 some au))))))))
def BT (e:(List (List Aj))) (b:(Aev × Aev × Int × Aev × Aew × Aey)) (a:(List Aj)):Nat → (List Int) → Int → Ae ((List Aj) × (Aev × Aev × Int × Aev × Aew × Aey))
 | 0,_,_=>none
 | m + 1,c,f=>(if (decide (f < (e.length:Int))) = true then (AL e f).bind fun l =>
 (JQ l).bind fun g =>
 Bk (fun (n:Bool)=>(if n = true then some ([119,104,97,116],b) else (Cm c [g.1]).bind fun o =>
 (BT e b a m) (o) ((Ag (f + 1))))) (fun i=>(if (!g.2) = true then i (true) else i ((decide (99999 < g.1))))) else (Jw a).bind fun p =>
 (if ((c.length:Int) != p) = true then some ([119,104,97,116],b) else Bk (fun (q:Bool)=>(if q = true then (BI b a c).bind fun j =>
 some (j.1,j.2) else Bk (fun (r:Bool)=>(if r = true then (CI b a c).bind fun k =>
 some (k.1,k.2) else (Ca b a c).bind fun s =>
 some (s,b))) (fun h=>(if (a == [109,101,97,115,117,114,101]) = true then h ((a == [109,101,97,115,117,114,101])) else (if (a == [99,97,114,114,121]) = true then h ((a == [99,97,114,114,121])) else h ((a == [118,101,114,115,105,111,110]))))))) (fun d=>(if (a == [115,112,111,116]) = true then d ((a == [115,112,111,116])) else (if (a == [112,108,97,99,101]) = true then d ((a == [112,108,97,99,101])) else (if (a == [109,105,114,114,111,114]) = true then d ((a == [109,105,114,114,111,114])) else (if (a == [107,101,101,112]) = true then d ((a == [107,101,101,112])) else d ((a == [99,111,117,110,116,115])))))))))
def Dv (b:(Aev × Aev × Int × Aev × Aew × Aey)) (c:(List Aj)):Ae ((List Aj) × (Aev × Aev × Int × Aev × Aew × Aey)) :=
 (FZ c [32]).bind fun a =>
 (AL a 0).bind fun d =>
 (sl a 1 (a.length:Int)).bind fun e =>
 BT e b d FU ([]) (0)
def Eu (a:((List (List Aj)) × Bool)):Nat → (Aev × Aev × Int × Aev × Aew × Aey) → (List (List Aj)) → Int → Ae ((Bool × (Aev × Aev × Int × Aev × Aew × Aey)) × (List (List Aj)) × Bool)
 | 0,_,_,_=>none
 | m + 1,c,d,b=>(if (decide (b < (a.1.length:Int))) = true then (AL a.1 b).bind fun f =>
 (Dv c f).bind fun e =>
 (Cm d [e.1]).bind fun g =>
 (Eu a m) (e.2) (g) ((Ag (b + 1))) else some ((true,c),d,true))
def IH (b:(List Aj)):Ae ((Bool × (Aev × Aev × Int × Aev × Aew × Aey)) × (List (List Aj)) × Bool) :=
 (HH b).bind fun a =>
 (if (!a.2) = true then some ((false,([],[],0,[],[],[])),[],false) else (KH ).bind fun c =>
 Eu a FU (c) ([]) (0))
def Ie (b:(List Aj)):Ae (Aev × Bool) :=
 (KX b).bind fun a =>
 (if (!a.2.2) = true then some ([],false) else some (a.1.1,true))
def Hi (b:(List Aj)):Ae (Aev × Bool) :=
 (IH b).bind fun a =>
 (if a.1.1 = true then (if (!a.2.2) = true then some ([],false) else some (a.1.2.1,true)) else (if (!a.2.2) = true then some ([],false) else none))
def Kt (a:(Int × Int)) (b:(Int × Int)):Ae Bool :=
 (if (a.1 != b.1) = true then some false else (if (a.2 != b.2) = true then some false else some true))
def Hh (b:Aev) (c:Aev):Nat → Int → Ae Bool
 | 0,_=>none
 | m + 1,a=>(if (decide (a < (b.length:Int))) = true then (AL b a).bind fun d =>
 (AL c a).bind fun e =>
 (Kt d e).bind fun f =>
 (if (!f) = true then some false else (Hh b c m) ((Ag (a + 1)))) else some true)
def JO (a:Aev) (b:Aev):Ae Bool :=
 (if ((a.length:Int) != (b.length:Int)) = true then some false else Hh a b FU (0))
def Ep  : Nat → Aev → Int → Int → Ae (Int × Aev)
 | 0,_,_,_=>none
 | m + 1,b,c,a=>(if (decide (a < (b.length:Int))) = true then (AL b a).bind fun d =>
 (AL (BD b a (c,d.2)) a).bind fun e =>
 (Ep m) ((BD (BD b a (c,d.2)) a (e.1,(Ag (c + 1))))) ((Ag ((Ag (c + 1)) + 1))) ((Ag (a + 1))) else some (c,b))
def Kc (a:Aev) (b:Int):Ae (Int × Aev) :=
 Ep FU (a) (b) (0)
def Er (a:Aev):Nat → Int → Int → Ae Int
 | 0,_,_=>none
 | m + 1,b,c=>(if (decide (c < (a.length:Int))) = true then (AL a c).bind fun d =>
 (if (d.1 != b) = true then some (-1) else (AL a c).bind fun e =>
 (if (e.2 != (Ag (b + 1))) = true then some (-1) else (Er a m) ((Ag ((Ag (b + 1)) + 1))) ((Ag (c + 1))))) else some b)
def ID (a:Aev) (b:Int):Ae Int :=
 Er a FU (b) (0)
def GU (a:(List Aj)):Ae Bool :=
 (if (decide (1048576 < (a.length:Int))) = true then some true else (Ie a).bind fun b =>
 (Hi a).bind fun d =>
 Bk (fun (j:Bool)=>(if j = true then some false else (Kc d.1 1).bind fun c =>
 (ID c.2 1).bind fun e =>
 (if (decide (e < 0)) = true then some false else (if (e != c.1) = true then some false else (Hi a).bind fun f =>
 Bk (fun (k:Bool)=>(if k = true then some false else (ID c.2 1).bind fun g =>
 (if (decide (g < 0)) = true then some false else (if (g != c.1) = true then some false else some true)))) (fun h=>(JO f.1 b.1).bind fun l =>
 (if (!l) = true then h (true) else h ((f.2 != b.2)))))))) (fun i=>(JO d.1 b.1).bind fun m =>
 (if (!m) = true then i (true) else i ((d.2 != b.2)))))
end Go.Proofs.YtellehgihceicaaGreatDoor
