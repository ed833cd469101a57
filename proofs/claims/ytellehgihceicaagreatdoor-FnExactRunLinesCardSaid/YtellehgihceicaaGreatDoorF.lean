/-
 THE FUNCTIONS of this seat as plain functions, by program (gen.py).
-/
import Derived.Test.YtellehgihceicaaGreatDoorCore20
import Derived.Test.YtellehgihceicaaGreatDoorLibF
set_option linter.unusedVariables false
set_option linter.unusedSimpArgs false
set_option maxRecDepth 100000
set_option maxHeartbeats 1600000
namespace Go.Proofs.YtellehgihceicaaGreatDoor
open Go
def MC (x y:(Int × Int)):Bool:=(x.1 == y.1) && (x.2 == y.2)
def Lf  : Af (Ae1 × Ae1 × Int × Ae1 × Ae2 × Ae4 × (List Int) × (List Int) × Int) :=
 some ([(0,0)],[(0,0)],8,[(4,120)],[],[((-1),0,0)],[],[],0)
def EZ (a:(List Ai)) (e:Int):Nat → (List (List Ai)) → Int → Int → Af (List (List Ai))
 | 0,_,_,_=>none
 | m + 1,c,d,b=>(if (decide (b < (a.length:Int))) = true then Gk (fun (g:(List (List Ai))) (h:Int)=>(EZ a e m) (g) (h) ((Ag (b + 1)))) (fun f=>(AM a b).bind fun i =>
 (if ((UInt8.toNat i:Int) == e) = true then (sl a d b).bind fun j =>
 (Ck c [j]).bind fun k =>
 f (k) ((Ag (b + 1))) else f (c) (d))) else (sl a d (a.length:Int)).bind fun l =>
 (Ck c [l]).bind fun n =>
 some n)
def FM (a:(List Ai)) (b:Int):Af (List (List Ai)) :=
 EZ a b FU ([]) (0) (0)
def JH (a:(List Ai)):Af ((List (List Ai)) × Bool) :=
 Bk (fun (e:Bool)=>(if e = true then some ([],false) else (FM a 10).bind fun c =>
 (sl c 0 (Ag ((c.length:Int) - 1))).bind fun d =>
 (if (decide (40 < (d.length:Int))) = true then some ([],false) else some (d,true)))) (fun b=>(if (decide (2000 < (a.length:Int))) = true then b (true) else (if (a != []) = true then (AM a (Ag ((a.length:Int) - 1))).bind fun f =>
 b (((UInt8.toNat f:Int) != 10)) else b (false))))
def G8 (a:(List Ai)):Af Int :=
 Bk (fun (f:Bool)=>(if f = true then some 0 else Bk (fun (g:Bool)=>(if g = true then some 1 else Bk (fun (h:Bool)=>(if h = true then some 2 else Bk (fun (i:Bool)=>(if i = true then some 3 else (if (a == [99,97,114,114,121]) = true then some 4 else some (-1)))) (fun e=>(if (a == [112,108,97,99,101]) = true then e ((a == [112,108,97,99,101])) else e ((a == [118,101,114,115,105,111,110])))))) (fun c=>(if (a == [115,112,111,116]) = true then c ((a == [115,112,111,116])) else (if (a == [115,111,117,110,100]) = true then c ((a == [115,111,117,110,100])) else (if (a == [109,101,97,115,117,114,101]) = true then c ((a == [109,101,97,115,117,114,101])) else c ((a == [119,104,111])))))))) (fun b=>(if (a == [99,111,117,110,116,115]) = true then b ((a == [99,111,117,110,116,115])) else (if (a == [99,108,111,115,101]) = true then b ((a == [99,108,111,115,101])) else (if (a == [107,105,110,100]) = true then b ((a == [107,105,110,100])) else (if (a == [116,101,120,116]) = true then b ((a == [116,101,120,116])) else (if (a == [116,105,109,101]) = true then b ((a == [116,105,109,101])) else b ((a == [115,116,97,116,101])))))))))) (fun d=>(if (a == [109,105,114,114,111,114]) = true then d ((a == [109,105,114,114,111,114])) else (if (a == [107,101,101,112]) = true then d ((a == [107,101,101,112])) else (if (a == [115,117,109]) = true then d ((a == [115,117,109])) else d ((a == [108,101,97,115,116]))))))
def BO (a:Int) (c:Int) (d:Int):Af Bool :=
 Bk (fun (e:Bool)=>some e) (fun b=>(if (decide (c ≤ a)) = true then b ((decide (a ≤ d))) else b (false)))
def FD (a:(List Ai)):Nat → Int → Int → Af Int
 | 0,_,_=>none
 | m + 1,c,b=>(if (decide (b < (a.length:Int))) = true then Bk (fun (e:Bool)=>(if e = true then some (-1) else (AM a b).bind fun f =>
 (FD a m) ((Ag ((Ag (10 * c)) + (Ag (Mv ((UInt8.toNat f:Int) - 48)))))) ((Ag (b + 1))))) (fun d=>(AM a b).bind fun g =>
 (if (decide ((UInt8.toNat g:Int) < 48)) = true then d (true) else (AM a b).bind fun h =>
 d ((decide (57 < (UInt8.toNat h:Int)))))) else some c)
def Kl (a:(List Ai)):Af Int :=
 Bk (fun (c:Bool)=>(if c = true then some (-1) else FD a FU (0) (0))) (fun b=>(BO (a.length:Int) 1 6).bind fun d =>
 (if (!d) = true then b (true) else (AM a 0).bind fun e =>
 (if ((UInt8.toNat e:Int) == 48) = true then b ((decide (1 < (a.length:Int)))) else b (false))))
def Gl (a:Ae1):Af Ae1 :=
 (Ck [] a).bind fun b =>
 some b
def HV (a:(Int × Int)):Af Bool :=
 Bk (fun (c:Bool)=>some c) (fun b=>(BO a.1 0 1280).bind fun d =>
 (if d = true then (BO a.2 0 672).bind fun e =>
 b (e) else b (false)))
def FE (a:Ae1) (c:(Int × Int)) (d:(Int → Af Bool)) (e:Int):Nat → Int → Af Bool
 | 0,_=>none
 | m + 1,b=>(if (decide (b < (a.length:Int))) = true then (AM a b).bind fun f =>
 (if (MC c f) = true then some false else (FE a c d e m) ((Ag (b + 1)))) else d ((Ag (e + 1))))
def El (a:Ae1):Nat → Int → Af Bool
 | 0,_=>none
 | m + 1,b=>(if (decide (b < (a.length:Int))) = true then (AM a b).bind fun c =>
 (HV c).bind fun d =>
 (if (!d) = true then some false else (sl a 0 b).bind fun e =>
 FE e c (El a m) b FU (0)) else (BO (a.length:Int) 1 12).bind fun f =>
 some f)
def FJ (a:Ae1):Af Bool :=
 El a FU (0)
def EF (a:(Ae1 × Ae1 × Int × Ae1 × Ae2 × Ae4 × (List Int) × (List Int) × Int)) (d:Ae1) (b:Bool):Af (Bool × (Ae1 × Ae1 × Int × Ae1 × Ae2 × Ae4 × (List Int) × (List Int) × Int)) :=
 Bk (fun (e:(Ae1 × Ae1 × Int × Ae1 × Ae2 × Ae4 × (List Int) × (List Int) × Int))=>some (b,e)) (fun c=>(if b = true then c ((d,a.2.1,a.2.2.1,a.2.2.2.1,a.2.2.2.2.1,a.2.2.2.2.2.1,a.2.2.2.2.2.2.1,a.2.2.2.2.2.2.2.1,a.2.2.2.2.2.2.2.2)) else c (a)))
def Mp (a:Ae1) (c:Int):Af Bool :=
 Bk (fun (d:Bool)=>some d) (fun b=>(FJ a).bind fun e =>
 (if e = true then (BO c 0 (Ag ((a.length:Int) - 1))).bind fun f =>
 b (f) else b (false)))
def Hb (a:Ae1):Af (Ae1 × Bool) :=
 (FJ a).bind fun b =>
 (if (!b) = true then some ([],false) else some (a,true))
def GB (b:Ae1) (a:Int) (d:(Int × Int)):Af (Ae1 × Bool) :=
 (Mp b a).bind fun e =>
 (if (!e) = true then some ([],false) else (Gl b).bind fun c =>
 (AM c a).bind fun g =>
 (Hb (BG c a d)).bind fun f =>
 some f)
def KE (a:(Int × Int)):Af (Int × Int) :=
 some ((Ag (1280 - a.1)),a.2)
def DK (a:Ae1):Nat → Ae1 → Int → Af (Ae1 × Bool)
 | 0,_,_=>none
 | m + 1,c,b=>(if (decide (b < (a.length:Int))) = true then (AM a b).bind fun d =>
 (KE d).bind fun e =>
 (Ck c [e]).bind fun f =>
 (DK a m) (f) ((Ag (b + 1))) else some (c,true))
def HD (a:Ae1):Af (Ae1 × Bool) :=
 (FJ a).bind fun b =>
 (if (!b) = true then some ([],false) else DK a FU ([]) (0))
def I8 (a:(Int × Int)):Af Bool :=
 Bk (fun (c:Bool)=>some c) (fun b=>(BO a.1 1 12).bind fun d =>
 (if d = true then (BO a.2 40 220).bind fun e =>
 b (e) else b (false)))
def FC (a:Ae1):Nat → Int → Af Bool
 | 0,_=>none
 | m + 1,b=>(if (decide (b < (a.length:Int))) = true then (AM a b).bind fun c =>
 (I8 c).bind fun d =>
 (if (!d) = true then some false else (FC a m) ((Ag (b + 1)))) else (BO (a.length:Int) 1 40).bind fun e =>
 some e)
def Jb (a:Ae1):Af Bool :=
 FC a FU (0)
def HQ (a:(Int × Int × Int × Int)) (b:(Int × Int × Int × Int)):Af Bool :=
 Bk (fun (d:Bool)=>some d) (fun c=>(if (decide (a.2.2.1 < b.2.2.1)) = true then c (true) else (if (a.2.2.1 == b.2.2.1) = true then c ((decide (a.2.1 < b.2.1))) else c (false))))
def Ju (a:Int):Af Bool :=
 (BO a 1 12).bind fun b =>
 some b
def Jf (a:Int):Af Bool :=
 (BO a 1 9).bind fun b =>
 some b
def EH (c:Ae2) (a:(Int × Int × Int × Int)) (f:(Int → Af Bool)) (g:Int):Nat → Int → Af Bool
 | 0,_=>none
 | m + 1,d=>(if (decide (d < (c.length:Int))) = true then (AM c d).bind fun b =>
 Bk (fun (h:Bool)=>(if h = true then some false else (EH c a f g m) ((Ag (d + 1))))) (fun e=>(if (b.2.1 == a.2.1) = true then e ((decide (a.2.2.1 < b.2.2.2))) else (if (b.1 == a.1) = true then e ((decide (a.2.2.1 < b.2.2.2))) else e (false)))) else f ((Ag (g + 1))))
def Du (b:Ae2):Nat → Int → Af Bool
 | 0,_=>none
 | m + 1,c=>(if (decide (c < (b.length:Int))) = true then (AM b c).bind fun a =>
 Bk (fun (e:Bool)=>(if e = true then some false else (sl b 0 c).bind fun f =>
 EH f a (Du b m) c FU (0))) (fun d=>(Ju a.1).bind fun g =>
 (if (!g) = true then d (true) else (Jf a.2.1).bind fun h =>
 (if (!h) = true then d (true) else (BO a.2.2.1 0 999).bind fun i =>
 (if (!i) = true then d (true) else (BO a.2.2.2 (Ag (a.2.2.1 + 1)) 1000).bind fun j =>
 (if (!j) = true then d (true) else (if (decide (0 < c)) = true then (AM b (Ag (c - 1))).bind fun k =>
 (HQ k a).bind fun l =>
 d ((!l)) else d (false))))))) else some (decide ((b.length:Int) ≤ 40)))
def Jg (a:Ae2):Af Bool :=
 Du a FU (0)
def FF (a:Ae2) (c:(Int × Int × Int × Int)) (d:(Ae2 → Af (Ae2 × Bool))):Nat → Int → Af (Ae2 × Bool)
 | 0,_=>none
 | m + 1,b=>Bk (fun (f:Bool)=>(if f = true then (FF a c d m) ((Ag (b - 1))) else (sl a 0 b).bind fun u64 =>
 (sl a b (a.length:Int)).bind fun g =>
 (Ck [] u64).bind fun h =>
 (Ck h [c]).bind fun i =>
 (Ck i g).bind fun j =>
 d (j))) (fun e=>(if (decide (0 < b)) = true then (AM a (Ag (b - 1))).bind fun k =>
 (HQ c k).bind fun l =>
 e (l) else e (false)))
def EG (b:Ae2):Nat → Ae2 → Int → Af (Ae2 × Bool)
 | 0,_,_=>none
 | m + 1,a,c=>(if (decide (c < (b.length:Int))) = true then Bk (fun (d:Ae2)=>(EG b m) (d) ((Ag (c + 1)))) (fun e=>(AM b c).bind fun f =>
 FF a f e FU ((a.length:Int))) else (Jg a).bind fun g =>
 (if (!g) = true then some ([],false) else some (a,true)))
def Je (a:Ae2):Af (Ae2 × Bool) :=
 EG a FU ([]) (0)
def FA (d:Ae4):Nat → Int → Af Bool
 | 0,_=>none
 | m + 1,c=>(if (decide (c < (d.length:Int))) = true then (AM d c).bind fun a =>
 Bk (fun (e:Bool)=>(if e = true then some false else (FA d m) ((Ag (c + 1))))) (fun b=>(BO a.1 0 (Ag (c - 1))).bind fun f =>
 (if (!f) = true then (if (decide (0 < c)) = true then b (true) else (if (a.1 != (-1)) = true then b (true) else (BO a.2.1 0 7).bind fun g =>
 (if (!g) = true then b (true) else (BO a.2.2 0 999).bind fun h =>
 b ((!h))))) else (BO a.2.1 0 7).bind fun i =>
 (if (!i) = true then b (true) else (BO a.2.2 0 999).bind fun j =>
 b ((!j))))) else (BO (d.length:Int) 1 60).bind fun k =>
 some k)
def HU (a:Ae4):Af Bool :=
 FA a FU (0)
def Ib (a:Ae4) (d:(Int × Int × Int)):Af (Ae4 × Bool) :=
 Bk (fun (b:Ae4)=>Bk (fun (e:Bool)=>(if e = true then some ([],false) else some (b,true))) (fun c=>(HU a).bind fun f =>
 (if (!f) = true then c (true) else (HU b).bind fun g =>
 c ((!g))))) (fun h=>(Ck [] a).bind fun i =>
 (Ck i [d]).bind fun j =>
 h (j))
def C1 (a:(Ae1 × Ae1 × Int × Ae1 × Ae2 × Ae4 × (List Int) × (List Int) × Int)) (f:(List Ai)) (b:(List Int)):Af (Bool × (Ae1 × Ae1 × Int × Ae1 × Ae2 × Ae4 × (List Int) × (List Int) × Int)) :=
 Gk (fun (s:(Ae1 × Ae1 × Int × Ae1 × Ae2 × Ae4 × (List Int) × (List Int) × Int)) (t:Bool)=>some (t,s)) (fun c=>(if (f == [115,112,111,116]) = true then (AM b 0).bind fun u =>
 (AM b 1).bind fun v =>
 (Gl a.1).bind fun w =>
 (Ck w [(u,v)]).bind fun x =>
 (Hb x).bind fun k =>
 (EF a k.1 k.2).bind fun l =>
 c (l.2) (l.1) else (if (f == [112,108,97,99,101]) = true then (AM b 0).bind fun y =>
 (AM b 1).bind fun z =>
 (AM b 2).bind fun aa =>
 (GB a.1 y (z,aa)).bind fun m =>
 (EF a m.1 m.2).bind fun n =>
 c (n.2) (n.1) else (if (f == [109,105,114,114,111,114]) = true then (HD a.1).bind fun o =>
 (EF a o.1 o.2).bind fun p =>
 c (p.2) (p.1) else (if (f == [107,101,101,112]) = true then (Gl a.1).bind fun ab =>
 c ((a.1,ab,a.2.2.1,a.2.2.2.1,a.2.2.2.2.1,a.2.2.2.2.2.1,a.2.2.2.2.2.2.1,a.2.2.2.2.2.2.2.1,a.2.2.2.2.2.2.2.2)) (true) else (if (f == [99,111,117,110,116,115]) = true then (AM b 0).bind fun ac =>
 (BO ac 1 64).bind fun h =>
 (if h = true then (AM b 0).bind fun ad =>
 c ((a.1,a.2.1,ad,a.2.2.2.1,a.2.2.2.2.1,a.2.2.2.2.2.1,a.2.2.2.2.2.2.1,a.2.2.2.2.2.2.2.1,a.2.2.2.2.2.2.2.2)) (h) else c (a) (h)) else (if (f == [109,101,97,115,117,114,101]) = true then Gk (fun (d:(Ae1 × Ae1 × Int × Ae1 × Ae2 × Ae4 × (List Int) × (List Int) × Int)) (q:Ae1)=>(Jb q).bind fun i =>
 (if i = true then c ((d.1,d.2.1,d.2.2.1,q,d.2.2.2.2.1,d.2.2.2.2.2.1,d.2.2.2.2.2.2.1,d.2.2.2.2.2.2.2.1,d.2.2.2.2.2.2.2.2)) (i) else c (d) (i))) (fun ae=>(AM b 0).bind fun af =>
 (AM b 1).bind fun ag =>
 (Ck [] a.2.2.2.1).bind fun ah =>
 (Ck ah [(af,ag)]).bind fun ai =>
 ae (a) (ai)) else (if (f == [99,97,114,114,121]) = true then W8 (fun (e:(Ae1 × Ae1 × Int × Ae1 × Ae2 × Ae4 × (List Int) × (List Int) × Int)) (aj:Ae2) (j:Bool)=>(if j = true then c ((e.1,e.2.1,e.2.2.1,e.2.2.2.1,aj,e.2.2.2.2.2.1,e.2.2.2.2.2.2.1,e.2.2.2.2.2.2.2.1,e.2.2.2.2.2.2.2.2)) (j) else c (e) (j))) (fun ak=>(AM b 0).bind fun al =>
 (AM b 1).bind fun am =>
 (AM b 2).bind fun an =>
 (AM b 3).bind fun ao =>
 (Ck [] a.2.2.2.2.1).bind fun ap =>
 (Ck ap [(al,am,an,ao)]).bind fun aq =>
 (Je aq).bind fun r =>
 ak (a) (r.1) (r.2)) else (if (f == [118,101,114,115,105,111,110]) = true then (AM b 0).bind fun ar =>
 (AM b 1).bind fun au =>
 (AM b 2).bind fun av =>
 (Ib a.2.2.2.2.2.1 (ar,au,av)).bind fun g =>
 (if g.2 = true then c ((a.1,a.2.1,a.2.2.1,a.2.2.2.1,a.2.2.2.2.1,g.1,a.2.2.2.2.2.2.1,a.2.2.2.2.2.2.2.1,a.2.2.2.2.2.2.2.2)) (g.2) else c (a) (g.2)) else c (a) (true))))))))))
def Jc (a:Bool):Af (List Ai) :=
 (if (!a) = true then some ([110,111]) else some ([111,107]))
def Jd (b:Ae1) (c:Ae1):Af Bool :=
 Bk (fun (d:Bool)=>some d) (fun a=>(FJ b).bind fun e =>
 (if e = true then (FJ c).bind fun f =>
 (if f = true then a (((b.length:Int) == (c.length:Int))) else a (false)) else a (false)))
def Iy (b:Ae1) (c:Ae1) (d:Int):Af Bool :=
 Bk (fun (e:Bool)=>some e) (fun a=>(Jd b c).bind fun f =>
 (if f = true then (BO d 1 64).bind fun g =>
 a (g) else a (false)))
def GQ (a:(Int × Int)) (b:(Int × Int)):Af Int :=
 some (Ag ((Ag ((Ag (a.1 - b.1)) * (Ag (a.1 - b.1)))) + (Ag ((Ag (a.2 - b.2)) * (Ag (a.2 - b.2))))))
def Fg (a:Ae1) (c:(Int × Int)) (d:Ae6) (e:(Ae6 → Int → Af Ae6)) (f:Int):Nat → (List Int) → Int → Af Ae6
 | 0,_,_=>none
 | m + 1,g,b=>(if (decide (b < (a.length:Int))) = true then (AM a b).bind fun h =>
 (GQ c h).bind fun u64 =>
 (Ck g [u64]).bind fun i =>
 (Fg a c d e f m) (i) ((Ag (b + 1))) else (Ck d [g]).bind fun j =>
 e (j) ((Ag (f + 1))))
def Ey (a:Ae1) (c:Ae1):Nat → Ae6 → Int → Af Ae6
 | 0,_,_=>none
 | m + 1,d,b=>(if (decide (b < (a.length:Int))) = true then (AM a b).bind fun e =>
 Fg c e d (Ey a c m) b FU ([]) (0) else some d)
def JK (a:Ae1) (b:Ae1):Af Ae6 :=
 Ey a b FU ([]) (0)
def EP (a:Int) (b:Int):Af Int :=
 (if (decide (a < b)) = true then some a else some b)
def D0 (d:(List Int)) (a:Int) (e:((List Int) → Int → Af (List Int))):Nat → (List Int) → Int → Af (List Int)
 | 0,_,_=>none
 | m + 1,b,c=>(if (decide (c < (d.length:Int))) = true then Bk (fun (g:(List Int))=>(D0 d a e m) (g) ((Ag (c + 1)))) (fun f=>(AM d c).bind fun h =>
 (if (decide (0 ≤ (Bh c))) = true then (if ((B5 .i64 (Bq .i64 a (Bh c)) 1) == 1) = true then (AM b a).bind fun i =>
 (AM b (Si .i64 a (K0 .i64 1 (Bh c)))).bind fun j =>
 (EP i (Ag (h + j))).bind fun k =>
 (AM b a).bind fun l =>
 f ((BG b a k)) else f (b)) else none)) else e (b) ((Ag (a + 1))))
def Ex (b:Ae6) (a:Int) (d:(List Int)) (e:((List Int) → Int → Af (List Int))):Nat → Int → Int → Af (List Int)
 | 0,_,_=>none
 | m + 1,f,c=>(if (decide (c < (b.length:Int))) = true then (if (decide (0 ≤ (Bh c))) = true then (Ex b a d e m) ((Ag (f + (B5 .i64 (Bq .i64 a (Bh c)) 1)))) ((Ag (c + 1))) else none) else (AM d a).bind fun h =>
 (AM b (Ag ((b.length:Int) - f))).bind fun g =>
 D0 g a e FU ((BG d a 1000000000)) (0))
def EX (a:Ae6):Nat → (List Int) → Int → Af (List Int)
 | 0,_,_=>none
 | m + 1,b,c=>(if (decide (c < (K0 .i64 1 (Bh (a.length:Int))))) = true then Ex a c b (EX a m) FU (0) (0) else some b)
def JD (a:Ae6):Af (List Int) :=
 (if (decide (0 ≤ (Bh (a.length:Int)))) = true then (RY (K0 .i64 1 (Bh (a.length:Int))) 0).bind fun b =>
 EX a FU (b) (1) else none)
def EY (d:(List Int)) (b:Int) (e:(List Int)) (g:(List Int)) (h:(Int → (List Int) → Int → Af Ae7)) (i:Int):Nat → Int → Int → Af Ae7
 | 0,_,_=>none
 | m + 1,c,a=>(if (decide (a < (d.length:Int))) = true then Bk (fun (k:Int)=>(EY d b e g h i m) (k) ((Ag (a + 1)))) (fun j=>(AM d a).bind fun l =>
 Bk (fun (n:Bool)=>(if n = true then j (a) else j (c))) (fun f=>(if (decide (c < 0)) = true then (if (decide (0 ≤ (Bh a))) = true then (if ((B5 .i64 (Bq .i64 b (Bh a)) 1) == 1) = true then (AM e b).bind fun o =>
 (AM e (Si .i64 b (K0 .i64 1 (Bh a)))).bind fun p =>
 f (((Ag (l + p)) == o)) else f (false)) else none) else f (false)))) else (Ck g [c]).bind fun q =>
 (if (decide (0 ≤ (Bh c))) = true then h ((Si .i64 b (K0 .i64 1 (Bh c)))) (q) ((Ag (i + 1))) else none))
def DT (b:Ae6) (a:(List Int)):Nat → Int → (List Int) → Int → Af Ae7
 | 0,_,_,_=>none
 | m + 1,e,d,c=>(if (decide (c < (b.length:Int))) = true then (AM b c).bind fun f =>
 EY f e a d (DT b a m) c FU ((-1)) (0) else (AM a (Ag ((a.length:Int) - 1))).bind fun g =>
 some (d,g))
def JE (a:Ae6):Af Ae7 :=
 (JD a).bind fun b =>
 DT a b FU ((Ag ((b.length:Int) - 1))) ([]) (0)
def JF (a:(List Int)):Af (List Int) :=
 (Ck [] a).bind fun b =>
 some b
def HW (a:Ae1) (b:Ae1) (c:Int) (d:(List Int)):Af (Ae1 × Ae1 × Int × (List Int)) :=
 (Gl a).bind fun u8 =>
 (Gl b).bind fun e =>
 (JF d).bind fun f =>
 some (u8,e,c,f)
def Gn (a:Ae1) (b:Ae1) (c:Int):Af ((Ae1 × Ae1 × Int × (List Int)) × Bool) :=
 (Iy a b c).bind fun d =>
 (if (!d) = true then some (([],[],0,[]),false) else (JK a b).bind fun e =>
 (JE e).bind fun f =>
 (HW a b c f.1).bind fun g =>
 some (g,true))
def FZ (a:(List Int)) (c:Int):Nat → Int → Af Bool
 | 0,_=>none
 | m + 1,b=>(if (decide (b < (a.length:Int))) = true then (AM a b).bind fun d =>
 (if (d == c) = true then some true else (FZ a c m) ((Ag (b + 1)))) else some false)
def KU (a:(List Int)) (b:Int):Af Bool :=
 FZ a b FU (0)
def E9 (a:(List Int)) (c:Int):Nat → Int → Af Bool
 | 0,_=>none
 | m + 1,b=>(if (decide (b < (a.length:Int))) = true then (AM a b).bind fun d =>
 Bk (fun (f:Bool)=>(if f = true then some false else (E9 a c m) ((Ag (b + 1))))) (fun e=>(BO d 0 (Ag (c - 1))).bind fun g =>
 (if (!g) = true then e (true) else (sl a 0 b).bind fun h =>
 (KU h d).bind fun i =>
 e (i))) else some ((a.length:Int) == c))
def Jt (a:(List Int)) (b:Int):Af Bool :=
 E9 a b FU (0)
def HX (a:(Ae1 × Ae1 × Int × (List Int))):Af Bool :=
 Bk (fun (c:Bool)=>some c) (fun b=>(Jd a.1 a.2.1).bind fun d =>
 (if d = true then (BO a.2.2.1 1 64).bind fun e =>
 (if e = true then (Jt a.2.2.2 (a.1.length:Int)).bind fun f =>
 b (f) else b (false)) else b (false)))
def Ff (a:(Ae1 × Ae1 × Int × (List Int))):Nat → (List Ae3) → Int → Af (List Ae3)
 | 0,_,_=>none
 | m + 1,c,b=>(if (decide (b < (a.2.2.2.length:Int))) = true then (AM a.2.2.2 b).bind fun d =>
 (AM a.1 b).bind fun e =>
 (AM a.2.1 d).bind fun f =>
 (Ck c [(e,f,a.2.2.1)]).bind fun g =>
 (Ff a m) (g) ((Ag (b + 1))) else some c)
def GA (a:(Ae1 × Ae1 × Int × (List Int))):Af (List Ae3) :=
 Ff a FU ([]) (0)
def Gb (a:(List Ae3)):Nat → Int → Int → Af Int
 | 0,_,_=>none
 | m + 1,c,b=>(if (decide (b < (a.length:Int))) = true then (AM a b).bind fun d =>
 (GQ d.1 d.2.1).bind fun e =>
 (Gb a m) ((Ag (c + e))) ((Ag (b + 1))) else some c)
def KW (a:(Ae1 × Ae1 × Int × (List Int))):Af Int :=
 (GA a).bind fun b =>
 Gb b FU (0) (0)
def Hx (a:(Ae1 × Ae1 × Int × (List Int))):Af (Int × Bool) :=
 (HX a).bind fun b =>
 (if (!b) = true then some (0,false) else (KW a).bind fun c =>
 some (c,true))
def FN:Nat → Int → Af (List Ai)
 | 0,_=>none
 | m + 1,a=>(if (decide (a < 10)) = true then some (Ky [(Mv (Ag (48 + a)))]) else Bk (fun (b:(List Ai))=>some b) (fun c=>(FN m (Ag (Int.tdiv a 10))).bind fun d =>
 (Ck d (Ky [(Mv (Ag (48 + (Int.tmod a 10))))])).bind fun e =>
 c (e)))
def Dd (a:Int):Af (List Ai) :=
 FN FU a
def Mn (a:Int):Af (List Ai) :=
 (if (decide (a < 0)) = true then (Dd (Ag (0 - a))).bind fun b =>
 (Ck [45] b).bind fun c =>
 some c else (Dd a).bind fun d =>
 some d)
def Fq (a:Int) (b:Bool):Af (List Ai) :=
 (if (!b) = true then some ([110,111]) else (Mn a).bind fun c =>
 some c)
def Df (a:Ae1) (c:Ae1) (d:Int):Nat → (List Int) → Int → Af ((Ae1 × Ae1 × Int × (List Int)) × Bool)
 | 0,_,_=>none
 | m + 1,e,b=>(if (decide (b < (a.length:Int))) = true then (Ck e [b]).bind fun f =>
 (Df a c d m) (f) ((Ag (b + 1))) else (HW a c d e).bind fun g =>
 some (g,true))
def Gm (a:Ae1) (b:Ae1) (c:Int):Af ((Ae1 × Ae1 × Int × (List Int)) × Bool) :=
 (Iy a b c).bind fun d =>
 (if (!d) = true then some (([],[],0,[]),false) else Df a b c FU ([]) (0))
def EC (a:(Ae1 × Ae1 × Int × Ae1 × Ae2 × Ae4 × (List Int) × (List Int) × Int)):Af ((Ae1 × Ae1 × Int × (List Int)) × Bool) :=
 (Gm a.2.1 a.1 a.2.2.1).bind fun b =>
 some b
def Hc (a:Int):Af Bool :=
 (BO a 0 80).bind fun b =>
 some b
def Lg (b:(Ae1 × Ae1 × Int × (List Int))) (c:Int):Af Bool :=
 Bk (fun (d:Bool)=>some d) (fun a=>(HX b).bind fun e =>
 (if e = true then (Hc c).bind fun f =>
 a (f) else a (false)))
def Kp (a:Ae3) (b:Ae3):Af (Int × Int × Int × Int) :=
 some ((Ag (a.1.1 - b.1.1)),(Ag (a.1.2 - b.1.2)),(Ag (a.2.1.1 - b.2.1.1)),(Ag (a.2.1.2 - b.2.1.2)))
def Li (c:Ae3) (d:Ae3):Af (Int × Int) :=
 (Kp c d).bind fun a =>
 Bk (fun (e:Bool)=>(if e = true then some (0,0) else some ((Ag (0 - (Ag ((Ag (a.1 * (Ag (a.2.2.1 - a.1)))) + (Ag (a.2.1 * (Ag (a.2.2.2 - a.2.1)))))))),(Ag ((Ag ((Ag (a.2.2.1 - a.1)) * (Ag (a.2.2.1 - a.1)))) + (Ag ((Ag (a.2.2.2 - a.2.1)) * (Ag (a.2.2.2 - a.2.1))))))))) (fun b=>(if (decide ((Ag (0 - (Ag ((Ag (a.1 * (Ag (a.2.2.1 - a.1)))) + (Ag (a.2.1 * (Ag (a.2.2.2 - a.2.1)))))))) ≤ 0)) = true then b (true) else b ((decide ((Ag ((Ag ((Ag (a.2.2.1 - a.1)) * (Ag (a.2.2.1 - a.1)))) + (Ag ((Ag (a.2.2.2 - a.2.1)) * (Ag (a.2.2.2 - a.2.1)))))) ≤ (Ag (0 - (Ag ((Ag (a.1 * (Ag (a.2.2.1 - a.1)))) + (Ag (a.2.1 * (Ag (a.2.2.2 - a.2.1)))))))))))))
def Hk (a:Int) (b:Int):Af Int :=
 (if (decide (b < a)) = true then some a else some b)
def Mo (a:Int):Af Int :=
 (Hk a (Ag (0 - a))).bind fun b =>
 some b
def Gw (c:Int) (d:Int):Nat → Int → Int → Af (Int × Int)
 | 0,_,_=>none
 | m + 1,a,b=>(if (decide (0 < b)) = true then (if b = 0 then none else (Gw c d m) (b) ((Int.tmod a b))) else (if a = 0 then none else (if a = 0 then none else some ((Ag (Int.tdiv c a)),(Ag (Int.tdiv d a))))))
def Ja (a:Int) (b:Int):Af (Int × Int) :=
 (Mo a).bind fun c =>
 Gw a b FU (c) (b)
def JL (b:Ae3) (c:Ae3):Af (Int × Int) :=
 (Kp b c).bind fun a =>
 (Li b c).bind fun d =>
 (if (decide (0 < d.2)) = true then (Ja (Ag ((Ag ((Ag (a.1 * a.2.2.2)) - (Ag (a.2.1 * a.2.2.1)))) * (Ag ((Ag (a.1 * a.2.2.2)) - (Ag (a.2.1 * a.2.2.1)))))) d.2).bind fun e =>
 some e else (EP (Ag ((Ag (a.1 * a.1)) + (Ag (a.2.1 * a.2.1)))) (Ag ((Ag (a.2.2.1 * a.2.2.1)) + (Ag (a.2.2.2 * a.2.2.2))))).bind fun f =>
 some (f,1))
def Kn (c:Ae3) (d:Ae3) (a:Int):Af Bool :=
 (JL c d).bind fun b =>
 some (decide ((Ag ((Ag (a * a)) * b.2)) ≤ b.1))
def Fd (u8:(List Ae3)) (d:Ae3) (e:Int) (b:Int) (f:(Ae6 → Int → Af Ae6)):Nat → Ae6 → Int → Af Ae6
 | 0,_,_=>none
 | m + 1,c,a=>(if (decide (a < (u8.length:Int))) = true then Bk (fun (h:Ae6)=>(Fd u8 d e b f m) (h) ((Ag (a + 1)))) (fun g=>(AM u8 a).bind fun i =>
 (Kn d i e).bind fun j =>
 (if (!j) = true then (Ck c [[b,a]]).bind fun k =>
 g (k) else g (c))) else f (c) ((Ag (b + 1))))
def Fe (u8:(List Ae3)) (b:Int):Nat → Ae6 → Int → Af Ae6
 | 0,_,_=>none
 | m + 1,c,a=>(if (decide (a < (u8.length:Int))) = true then (AM u8 a).bind fun d =>
 Fd u8 d b a (Fe u8 b m) FU (c) ((Ag (a + 1))) else some c)
def JJ (a:(Ae1 × Ae1 × Int × (List Int))) (b:Int):Af Ae6 :=
 (GA a).bind fun u8 =>
 Fe u8 b FU ([]) (0)
def GR (a:(Ae1 × Ae1 × Int × (List Int))) (b:Int):Af (Ae6 × Bool) :=
 (Lg a b).bind fun c =>
 (if (!c) = true then some ([],false) else (JJ a b).bind fun d =>
 some (d,true))
def CR (c:(Ae6 × Bool)):Nat → (List Ai) → Int → Af (List Ai)
 | 0,_,_=>none
 | m + 1,a,b=>(if (decide (b < (c.1.length:Int))) = true then (AM c.1 b).bind fun d =>
 Bk (fun (f:(List Ai))=>(AM d 0).bind fun g =>
 (AM d 1).bind fun h =>
 (Dd g).bind fun i =>
 (Ck i [45]).bind fun j =>
 (Dd h).bind fun k =>
 (Ck j k).bind fun l =>
 (Ck f l).bind fun n =>
 (CR c m) (n) ((Ag (b + 1)))) (fun e=>(if (decide (0 < b)) = true then (Ck a [32]).bind fun o =>
 e (o) else e (a))) else (if (a == []) = true then some ([110,111,110,101]) else some a))
def Hn (d:(Ae1 × Ae1 × Int × Ae1 × Ae2 × Ae4 × (List Int) × (List Int) × Int)) (e:Int):Af (List Ai) :=
 (EC d).bind fun a =>
 (GR a.1 e).bind fun b =>
 Bk (fun (f:Bool)=>(if f = true then some ([110,111]) else CR b FU ([]) (0))) (fun c=>(if (!a.2) = true then c (true) else c ((!b.2))))
def L5 (a:(Ae1 × Ae1 × Int × (List Int))):Af Bool :=
 Bk (fun (c:Bool)=>some c) (fun b=>(HX a).bind fun d =>
 (if d = true then (if (decide (a.2.2.1 ≤ 16)) = true then b ((decide ((a.1.length:Int) ≤ 6))) else b (false)) else b (false)))
def Lz (a:Ae3) (b:Int):Af (Int × Int) :=
 some ((Ag ((Ag (a.1.1 * a.2.2)) + (Ag ((Ag (a.2.1.1 - a.1.1)) * b)))),(Ag ((Ag (a.1.2 * a.2.2)) + (Ag ((Ag (a.2.1.2 - a.1.2)) * b)))))
def Ip (a:Ae3) (b:Int) (c:Int):Af (Int × Int) :=
 (EP a.2.2 (Ag (c - b))).bind fun d =>
 (Hk 0 d).bind fun e =>
 (Lz a e).bind fun f =>
 some f
def Kk (a:Int) (b:Int) (c:Int) (d:Int):Af (Int × Int) :=
 Bk (fun (f:Bool)=>(if f = true then some ((Ag ((Ag ((Ag (a * d)) - (Ag (b * c)))) * (Ag ((Ag (a * d)) - (Ag (b * c)))))),(Ag ((Ag ((Ag (c - a)) * (Ag (c - a)))) + (Ag ((Ag (d - b)) * (Ag (d - b))))))) else (EP (Ag ((Ag (a * a)) + (Ag (b * b)))) (Ag ((Ag (c * c)) + (Ag (d * d))))).bind fun g =>
 some (g,1))) (fun e=>(if (decide (0 < (Ag (0 - (Ag ((Ag (a * (Ag (c - a)))) + (Ag (b * (Ag (d - b)))))))))) = true then e ((decide ((Ag (0 - (Ag ((Ag (a * (Ag (c - a)))) + (Ag (b * (Ag (d - b)))))))) < (Ag ((Ag ((Ag (c - a)) * (Ag (c - a)))) + (Ag ((Ag (d - b)) * (Ag (d - b))))))))) else e (false)))
def Ko (c:Int) (a:Int) (d:Int) (b:Int):Af Bool :=
 (if a = 0 then none else (if b = 0 then none else (if ((Ag (Int.tdiv c a)) != (Ag (Int.tdiv d b))) = true then (if a = 0 then none else (if b = 0 then none else some (decide ((Ag (Int.tdiv c a)) < (Ag (Int.tdiv d b)))))) else (if a = 0 then none else (if b = 0 then none else some (decide ((Ag ((Int.tmod c a) * b)) < (Ag ((Int.tmod d b) * a)))))))))
def EU (c:Int) (d:Int) (a:Ae3) (g:Ae3):Nat → Int → Int → Int → Af (Int × Int)
 | 0,_,_,_=>none
 | m + 1,e,h,b=>(Hk c d).bind fun p =>
 (if (decide (b < (Ag (a.2.2 + p)))) = true then Gk (fun (q:Int) (r:Int)=>(EU c d a g m) (q) (r) ((Ag (b + 1)))) (fun i=>(Ip a c b).bind fun j =>
 (Ip g d b).bind fun k =>
 (Ip a c (Ag (b + 1))).bind fun l =>
 (Ip g d (Ag (b + 1))).bind fun n =>
 (Kk (Ag (j.1 - k.1)) (Ag (j.2 - k.2)) (Ag (l.1 - n.1)) (Ag (l.2 - n.2))).bind fun f =>
 Bk (fun (s:Bool)=>(if s = true then i (f.1) (f.2) else i (e) (h))) (fun o=>(if (decide (e < 0)) = true then o (true) else (Ko f.1 f.2 e h).bind fun t =>
 o (t)))) else (Ja e (Ag ((Ag (h * a.2.2)) * a.2.2))).bind fun u =>
 some u)
def Iw (a:Ae3) (b:Ae3) (c:Int) (d:Int):Af (Int × Int) :=
 EU c d a b FU ((-1)) (1) (0)
def IZ (c:Ae3) (d:Ae3) (e:Int) (f:Int) (b:Int):Af Bool :=
 (Iw c d e f).bind fun a =>
 (if a.2 = 0 then none else some (decide ((Ag (b * b)) ≤ (Ag (Int.tdiv a.1 a.2)))))
def EV (u8:(List Ae3)) (c:(List Int)) (b:Int) (e:Ae3) (f:Int) (g:(Ae6 → Int → Af Ae6)):Nat → Ae6 → Int → Af Ae6
 | 0,_,_=>none
 | m + 1,d,a=>(if (decide (a < (u8.length:Int))) = true then Bk (fun (i:Ae6)=>(EV u8 c b e f g m) (i) ((Ag (a + 1)))) (fun h=>(AM u8 a).bind fun j =>
 (AM c b).bind fun k =>
 (AM c a).bind fun l =>
 (IZ e j k l f).bind fun n =>
 (if (!n) = true then (Ck d [[b,a]]).bind fun o =>
 h (o) else h (d))) else g (d) ((Ag (b + 1))))
def EW (u8:(List Ae3)) (b:(List Int)) (c:Int):Nat → Ae6 → Int → Af Ae6
 | 0,_,_=>none
 | m + 1,d,a=>(if (decide (a < (u8.length:Int))) = true then (AM u8 a).bind fun e =>
 EV u8 b a e c (EW u8 b c m) FU (d) ((Ag (a + 1))) else some d)
def Ix (a:(Ae1 × Ae1 × Int × (List Int))) (b:(List Int)) (c:Int):Af Ae6 :=
 (GA a).bind fun u8 =>
 EW u8 b c FU ([]) (0)
def Km (a:(Ae1 × Ae1 × Int × (List Int))) (c:Int) (d:Int):Af (Ae1 × Ae1 × Int × (List Int)) :=
 (HW a.1 a.2.1 a.2.2.1 a.2.2.2).bind fun b =>
 (AM a.2.2.2 d).bind fun e =>
 (AM b.2.2.2 c).bind fun g =>
 (AM a.2.2.2 c).bind fun f =>
 (AM (BG b.2.2.2 c e) d).bind fun h =>
 some (b.1,b.2.1,b.2.2.1,(BG (BG b.2.2.2 c e) d f))
def FB (c:(Ae1 × Ae1 × Int × (List Int))) (a:Int) (u8:(List Int)) (d:Int) (e:(Int → Af (Int × Int))):Nat → Int → Af (Int × Int)
 | 0,_=>none
 | m + 1,b=>(if (decide (b < (c.1.length:Int))) = true then (Km c a b).bind fun f =>
 (Ix f u8 d).bind fun g =>
 (if ((g.length:Int) == 0) = true then some (a,b) else (FB c a u8 d e m) ((Ag (b + 1)))) else e ((Ag (a + 1))))
def Ek (a:(Ae1 × Ae1 × Int × (List Int))) (u8:(List Int)) (c:Int):Nat → Int → Af (Int × Int)
 | 0,_=>none
 | m + 1,b=>(if (decide (b < (a.1.length:Int))) = true then FB a b u8 c (Ek a u8 c m) FU ((Ag (b + 1))) else some ((-1),(-1)))
def Kj (a:(Ae1 × Ae1 × Int × (List Int))) (b:Int):Af (Int × Int) :=
 (RY (a.1.length:Int) 0).bind fun u8 =>
 Ek a u8 b FU (0)
def G7 (e:((List Ae3) × Int × (List Int))) (a:Int) (b:Int) (c:Int) (d:Int):Af (Bool × ((List Ae3) × Int × (List Int))) :=
 Bk (fun (g:((List Ae3) × Int × (List Int)))=>(if (decide (0 ≤ a) && decide (a < 6)) = true then (if (decide (0 ≤ b) && decide (b < 6)) = true then (if (decide (0 ≤ c) && decide (c < 5)) = true then (if (decide (0 ≤ d) && decide (d < 5)) = true then (g.2.2[a.toNat * 150 + b.toNat * 25 + c.toNat * 5 + d.toNat * 1]?).bind fun j =>
 some ((j == 1),g) else none) else none) else none) else none)) (fun h=>(if (decide (0 ≤ a) && decide (a < 6)) = true then (if (decide (0 ≤ b) && decide (b < 6)) = true then (if (decide (0 ≤ c) && decide (c < 5)) = true then (if (decide (0 ≤ d) && decide (d < 5)) = true then (e.2.2[a.toNat * 150 + b.toNat * 25 + c.toNat * 5 + d.toNat * 1]?).bind fun k =>
 (if (k == 0) = true then Gk (fun (f:((List Ae3) × Int × (List Int))) (l:Int)=>(NM f.2.2 (a.toNat * 150 + b.toNat * 25 + c.toNat * 5 + d.toNat * 1) l).bind fun m =>
 h ((f.1,f.2.1,m))) (fun i=>(AM e.1 a).bind fun n =>
 (AM e.1 b).bind fun o =>
 (IZ n o c d e.2.1).bind fun p =>
 (if p = true then i (e) (1) else i (e) (2))) else h (e)) else none) else none) else none) else none))
def CN (a:(List Int)) (b:Int) (f:(((List Ae3) × Int × (List Int)) → Af ((List Int) × ((List Ae3) × Int × (List Int))))) (rec:(((List Ae3) × Int × (List Int)) → (List Int) → Int → Af ((List Int) × ((List Ae3) × Int × (List Int))))) (g:Int):Nat → ((List Ae3) × Int × (List Int)) → Bool → Int → Af ((List Int) × ((List Ae3) × Int × (List Int)))
 | 0,_,_,_=>none
 | m + 1,c,h,d=>(if (decide (d < (a.length:Int))) = true then Gk (fun (k:((List Ae3) × Int × (List Int))) (l:Bool)=>(CN a b f rec g m) (k) (l) ((Ag (d + 1)))) (fun i=>(AM a d).bind fun n =>
 (if h = true then (G7 c d (a.length:Int) n b).bind fun j =>
 i (j.2) (j.1) else i (c) (false))) else (if (!h) = true then f (c) else (JF a).bind fun o =>
 (Ck o [b]).bind fun p =>
 (rec c p (Ag (g - b))).bind fun e =>
 (if (decide (0 < (e.1.length:Int))) = true then some (e.1,e.2) else f (e.2))))
def CP (a:Int) (c:(List Int)) (rec:(((List Ae3) × Int × (List Int)) → (List Int) → Int → Af ((List Int) × ((List Ae3) × Int × (List Int))))):Nat → ((List Ae3) × Int × (List Int)) → Int → Af ((List Int) × ((List Ae3) × Int × (List Int)))
 | 0,_,_=>none
 | m + 1,d,b=>(EP a 4).bind fun e =>
 (if (decide (b ≤ e)) = true then Bk (fun (f:((List Ae3) × Int × (List Int)))=>(CP a c rec m) (f) ((Ag (b + 1)))) (fun g=>CN c b g rec a FU (d) (true) (0)) else some ([],d))
def FSx (rec:((List Ae3) × Int × (List Int)) → (List Int) → Int → Af ((List Int) × ((List Ae3) × Int × (List Int)))) (a:((List Ae3) × Int × (List Int))) (b:(List Int)) (c:Int):Af ((List Int) × ((List Ae3) × Int × (List Int))) :=
 (if ((b.length:Int) == (a.1.length:Int)) = true then (if (decide (0 < c)) = true then some ([],a) else some (b,a)) else CP c b rec FU (a) (0))
def Db:Nat → ((List Ae3) × Int × (List Int)) → (List Int) → Int → Af ((List Int) × ((List Ae3) × Int × (List Int)))
 | 0,_,_,_=>none
 | m + 1,a,b,c=>FSx (Db m) a b c
def HP (a:((List Ae3) × Int × (List Int))) (b:(List Int)) (c:Int):Af ((List Int) × ((List Ae3) × Int × (List Int))) :=
 Db FU a b c
def Ea (c:(Ae1 × Ae1 × Int × (List Int))):Nat → ((List Ae3) × Int × (List Int)) → Int → Af Ae7
 | 0,_,_=>none
 | m + 1,d,a=>(if (decide (a ≤ (Ag (4 * (c.1.length:Int))))) = true then (HP d [] a).bind fun b =>
 (if (decide (0 < (b.1.length:Int))) = true then some (b.1,a) else (Ea c m) (b.2) ((Ag (a + 1)))) else some ([],0))
def Jr (a:(Ae1 × Ae1 × Int × (List Int))) (b:Int):Af Ae7 :=
 (GA a).bind fun u8 =>
 Ea a FU ((u8,b,(List.replicate 900 0))) (0)
def Ia (a:(Ae1 × Ae1 × Int × (List Int))) (b:Int):Af (Int × Bool) :=
 Bk (fun (d:Bool)=>(if d = true then some (0,false) else (RY (a.1.length:Int) 0).bind fun e =>
 (Ix a e b).bind fun f =>
 (if ((f.length:Int) == 0) = true then some (0,true) else (Kj a b).bind fun g =>
 (if (decide (0 ≤ g.1)) = true then some (1,true) else (Jr a b).bind fun h =>
 (if (decide (0 < (h.1.length:Int))) = true then some (2,true) else some (3,true)))))) (fun c=>(L5 a).bind fun i =>
 (if (!i) = true then c (true) else (Hc b).bind fun j =>
 c ((!j))))
def D2 (c:Ae1) (e:(Int × Int)) (d:Int) (f:(Int → Int → Int → Int → Af (Int × Int × Int))):Nat → Int → Int → Int → Int → Af (Int × Int × Int)
 | 0,_,_,_,_=>none
 | m + 1,g,h,a,b=>(if (decide (b < (c.length:Int))) = true then W8 (fun (k:Int) (l:Int) (n:Int)=>(D2 c e d f m) (k) (l) (n) ((Ag (b + 1)))) (fun i=>(AM c b).bind fun o =>
 (GQ e o).bind fun u64 =>
 Bk (fun (p:Bool)=>(if p = true then i (d) (b) (u64) else i (g) (h) (a))) (fun j=>(if (decide (a < 0)) = true then j (true) else j ((decide (u64 < a)))))) else f (g) (h) (a) ((Ag (d + 1))))
def Fc (a:Ae1):Nat → Int → Int → Int → Int → Af (Int × Int × Int)
 | 0,_,_,_,_=>none
 | m + 1,c,d,e,b=>(if (decide (b < (a.length:Int))) = true then (AM a b).bind fun f =>
 D2 a f b (Fc a m) FU (c) (d) (e) ((Ag (b + 1))) else some (c,d,e))
def JI (a:Ae1):Af (Int × Int × Int) :=
 Fc a FU (0) (0) ((-1)) (0)
def Ec (a:Ae1):Af (Int × Bool) :=
 Bk (fun (c:Bool)=>(if c = true then some (0,false) else (JI a).bind fun d =>
 some (d.2.2,true))) (fun b=>(FJ a).bind fun e =>
 (if (!e) = true then b (true) else b ((decide ((a.length:Int) < 2)))))
def E8 (a:Ae1):Nat → Int → Int → Af Int
 | 0,_,_=>none
 | m + 1,c,b=>(if (decide (b < (a.length:Int))) = true then (AM a b).bind fun d =>
 (E8 a m) ((Ag (c + d.1))) ((Ag (b + 1))) else some c)
def Js (a:Ae1):Af Int :=
 E8 a FU (0) (0)
def L6 (a:Ae1) (c:Int):Af Bool :=
 Bk (fun (d:Bool)=>some d) (fun b=>(Jb a).bind fun e =>
 (if e = true then (Js a).bind fun f =>
 (BO c 0 f).bind fun g =>
 b (g) else b (false)))
def Hw (b:Int) (a:Int):Af Int :=
 (if a = 0 then none else some (Ag (Int.tdiv (Ag (60000 * b)) a)))
def Di (b:Ae1):Nat → Int → Int → Int → Af Int
 | 0,_,_,_=>none
 | m + 1,c,d,e=>(if (decide (e < (b.length:Int))) = true then (AM b e).bind fun a =>
 (if (decide (c < a.1)) = true then (Hw c a.2).bind fun f =>
 some (Ag (d + f)) else (Hw a.1 a.2).bind fun g =>
 (Di b m) ((Ag (c - a.1))) ((Ag (d + g))) ((Ag (e + 1)))) else some d)
def FI (a:Ae1) (b:Int):Af Int :=
 Di a FU (b) (0) (0)
def Kq (a:Ae1) (b:Int):Af (Int × Bool) :=
 (L6 a b).bind fun c =>
 (if (!c) = true then some (0,false) else (FI a b).bind fun d =>
 some (d,true))
def Lh (a:Int):Af Bool :=
 (BO a 0 999).bind fun b =>
 some b
def G9 (f:Ae2) (g:Int) (c:Int) (d:Int):Nat → Int → Af Int
 | 0,_=>none
 | m + 1,e=>(if (decide (e < (f.length:Int))) = true then (AM f e).bind fun a =>
 Bk (fun (h:Bool)=>(if h = true then some e else (G9 f g c d m) ((Ag (e + 1))))) (fun b=>(if (g == 0) = true then (if (c == 0) = true then (BO d a.2.2.1 (Ag (a.2.2.2 - 1))).bind fun i =>
 b (i) else (if (a.1 == c) = true then (BO d a.2.2.1 (Ag (a.2.2.2 - 1))).bind fun j =>
 b (j) else b (false))) else (if (a.2.1 == g) = true then (if (c == 0) = true then (BO d a.2.2.1 (Ag (a.2.2.2 - 1))).bind fun k =>
 b (k) else (if (a.1 == c) = true then (BO d a.2.2.1 (Ag (a.2.2.2 - 1))).bind fun l =>
 b (l) else b (false))) else b (false)))) else some (-1))
def Kz (a:Ae2) (b:Int) (c:Int) (d:Int):Af Int :=
 G9 a b c d FU (0)
def I9 (a:Ae2) (c:Int) (d:Int):Af (Int × Bool) :=
 Bk (fun (e:Bool)=>(if e = true then some (0,false) else (Kz a c 0 d).bind fun f =>
 (AM a f).bind fun g =>
 some (g.1,true))) (fun b=>(Jg a).bind fun h =>
 (if (!h) = true then b (true) else (Jf c).bind fun i =>
 (if (!i) = true then b (true) else (Lh d).bind fun j =>
 (if (!j) = true then b (true) else (Kz a c 0 d).bind fun k =>
 b ((decide (k < 0)))))))
def Ml (a:Ae4) (c:Int):Af Bool :=
 Bk (fun (d:Bool)=>some d) (fun b=>(HU a).bind fun e =>
 (if e = true then (BO c 0 (Ag ((a.length:Int) - 1))).bind fun f =>
 b (f) else b (false)))
def E4 (b:Ae4):Nat → Int → (List Int) → Af (List Int)
 | 0,_,_=>none
 | m + 1,a,c=>(if (decide (0 ≤ a)) = true then (Ck [a] c).bind fun d =>
 (AM b a).bind fun e =>
 (E4 b m) (e.1) (d) else some c)
def KT (a:Ae4) (b:Int):Af (List Int) :=
 E4 a FU (b) ([])
def ES (a:(List Int)) (b:Ae4):Nat → (List Int) → Int → Af (List Int)
 | 0,_,_=>none
 | m + 1,c,d=>(if (decide (d < (a.length:Int))) = true then (AM a d).bind fun e =>
 (AM b e).bind fun u64 =>
 (AM b e).bind fun f =>
 (AM c u64.2.1).bind fun g =>
 (ES a b m) ((BG c u64.2.1 f.2.2)) ((Ag (d + 1))) else some c)
def ET (a:Ae4) (c:Int):Nat → (List Int) → Af (List Int)
 | 0,_=>none
 | m + 1,b=>(if (decide ((b.length:Int) < 8)) = true then (Ck b [(-1)]).bind fun d =>
 (ET a c m) (d) else (KT a c).bind fun e =>
 ES e a FU (b) (0))
def JC (a:Ae4) (b:Int):Af (List Int) :=
 ET a b FU ([])
def JM (a:Ae4) (b:Int):Af ((List Int) × Bool) :=
 (Ml a b).bind fun c =>
 (if (!c) = true then some ([],false) else (JC a b).bind fun d =>
 some (d,true))
def D1 (b:(List Int)):Nat → (List Ai) → Int → Af (List Ai)
 | 0,_,_=>none
 | m + 1,c,a=>(if (decide (a < (b.length:Int))) = true then Bk (fun (h:(List Ai))=>(D1 b m) (h) ((Ag (a + 1)))) (fun d=>(AM b a).bind fun e =>
 Bk (fun (f:(List Ai))=>(if (decide (e < 0)) = true then (Ck f [45]).bind fun i =>
 d (i) else (Dd e).bind fun j =>
 (Ck f j).bind fun k =>
 d (k))) (fun g=>(if (decide (0 < a)) = true then (Ck c [32]).bind fun l =>
 g (l) else g (c)))) else some c)
def JG (a:(List Int)):Af (List Ai) :=
 D1 a FU ([]) (0)
def IY (a:Int):Af (List Ai) :=
 (if ((Int.tmod a 8) == 0) = true then (Dd (Ag (Int.tdiv a 8))).bind fun b =>
 some b else (Dd (Ag (Int.tdiv a 8))).bind fun c =>
 (Ck c [43]).bind fun d =>
 (Dd (Int.tmod a 8)).bind fun e =>
 (Ck d e).bind fun f =>
 some f)
def Kh (a:(Int × Int)):Af (List Ai) :=
 (IY a.1).bind fun b =>
 (Ck b [44]).bind fun c =>
 (IY a.2).bind fun d =>
 (Ck c d).bind fun e =>
 some e
def Mm (b:(Int × Int)) (c:(Int × Int)):Af Bool :=
 Bk (fun (d:Bool)=>some d) (fun a=>(HV b).bind fun e =>
 (if e = true then (HV c).bind fun f =>
 a (f) else a (false)))
def EE (c:Int):Nat → Int → Int → Af Int
 | 0,_,_=>none
 | m + 1,a,b=>(if (decide (a < b)) = true then (if (decide ((Ag (1000000 * c)) ≤ (Ag ((Ag ((Ag (4800 * (Ag (Int.tdiv (Ag (a + b)) 2)))) * 4800)) * (Ag (Int.tdiv (Ag (a + b)) 2)))))) = true then (EE c m) (a) ((Ag (Int.tdiv (Ag (a + b)) 2))) else (EE c m) ((Ag ((Ag (Int.tdiv (Ag (a + b)) 2)) + 1))) (b)) else some a)
def Ki (a:Int):Af Int :=
 EE a FU (0) (1000)
def Le (a:(Int × Int)) (b:(Int × Int)):Af Int :=
 (GQ a b).bind fun c =>
 (Ki c).bind fun d =>
 some d
def Hy (a:(Int × Int)) (b:(Int × Int)):Af (Int × Bool) :=
 (Mm a b).bind fun c =>
 (if (!c) = true then some (0,false) else (Le a b).bind fun d =>
 some (d,true))
def CB (a:(List Int)) (b:(Ae1 × Ae1 × Int × Ae1 × Ae2 × Ae4 × (List Int) × (List Int) × Int)) (d:(List Ai)):Nat → Int → Af (List Ai)
 | 0,_=>none
 | m + 1,c=>(if (decide (c < (a.length:Int))) = true then (AM a c).bind fun f =>
 (if (decide ((b.1.length:Int) ≤ f)) = true then some ([110,111]) else (CB a b d m) ((Ag (c + 1)))) else (if (d == [116,101,120,116]) = true then (AM a 0).bind fun g =>
 (AM b.1 g).bind fun h =>
 (Kh h).bind fun i =>
 some i else (AM a 0).bind fun j =>
 (AM b.1 j).bind fun k =>
 (AM a 1).bind fun l =>
 (AM b.1 l).bind fun n =>
 (Hy k n).bind fun e =>
 (Fq e.1 e.2).bind fun o =>
 some o))
def C5 (a:(Ae1 × Ae1 × Int × Ae1 × Ae2 × Ae4 × (List Int) × (List Int) × Int)) (b:(List Ai)) (c:(List Int)):Af (List Ai) :=
 (if (b == [115,117,109]) = true then jK5 (fun (l:Ae1) (m:Ae1) (n:Int) (o:(List Int)) (p:Bool)=>(if (!p) = true then some ([110,111]) else (Hx (l,m,n,o)).bind fun e =>
 (Fq e.1 e.2).bind fun q =>
 some q)) (fun r=>(Gn a.2.1 a.1 a.2.2.1).bind fun d =>
 r (d.1.1) (d.1.2.1) (d.1.2.2.1) (d.1.2.2.2) (d.2)) else (if (b == [99,108,111,115,101]) = true then (AM c 0).bind fun s =>
 (Hn a s).bind fun t =>
 some t else (if (b == [107,105,110,100]) = true then (EC a).bind fun f =>
 (if (!f.2) = true then some ([110,111]) else (AM c 0).bind fun u =>
 (Ia f.1 u).bind fun g =>
 (Fq g.1 g.2).bind fun v =>
 some v) else (if (b == [108,101,97,115,116]) = true then (Ec a.1).bind fun h =>
 (Fq h.1 h.2).bind fun w =>
 some w else (if (b == [116,105,109,101]) = true then (AM c 0).bind fun x =>
 (Kq a.2.2.2.1 x).bind fun i =>
 (Fq i.1 i.2).bind fun y =>
 some y else (if (b == [119,104,111]) = true then (AM c 0).bind fun z =>
 (AM c 1).bind fun aa =>
 (I9 a.2.2.2.2.1 z aa).bind fun j =>
 (if (!j.2) = true then some ([110,111,110,101]) else (Dd j.1).bind fun ab =>
 some ab) else (if (b == [115,116,97,116,101]) = true then (AM c 0).bind fun ac =>
 (JM a.2.2.2.2.2.1 ac).bind fun k =>
 (if (!k.2) = true then some ([110,111]) else (JG k.1).bind fun ad =>
 some ad) else CB c a b FU (0))))))))
def BR (e:(List (List Ai))) (c:(Ae1 × Ae1 × Int × Ae1 × Ae2 × Ae4 × (List Int) × (List Int) × Int)) (d:(List (List Ai))):Nat → (List Int) → Int → Af ((List Ai) × (Ae1 × Ae1 × Int × Ae1 × Ae2 × Ae4 × (List Int) × (List Int) × Int))
 | 0,_,_=>none
 | m + 1,f,g=>(if (decide (g < (e.length:Int))) = true then (AM e g).bind fun j =>
 (Kl j).bind fun h =>
 (BO h 0 99999).bind fun k =>
 (if (!k) = true then some ([119,104,97,116],c) else (Ck f [h]).bind fun l =>
 (BR e c d m) (l) ((Ag (g + 1)))) else (AM d 0).bind fun a =>
 Bk (fun (n:Bool)=>(if n = true then (AM d 0).bind fun o =>
 (C1 c o f).bind fun i =>
 (Jc i.1).bind fun p =>
 some (p,i.2) else (AM d 0).bind fun q =>
 (C5 c q f).bind fun r =>
 some (r,c))) (fun b=>(if (a == [115,112,111,116]) = true then b ((a == [115,112,111,116])) else (if (a == [112,108,97,99,101]) = true then b ((a == [112,108,97,99,101])) else (if (a == [109,105,114,114,111,114]) = true then b ((a == [109,105,114,114,111,114])) else (if (a == [107,101,101,112]) = true then b ((a == [107,101,101,112])) else (if (a == [99,111,117,110,116,115]) = true then b ((a == [99,111,117,110,116,115])) else (if (a == [109,101,97,115,117,114,101]) = true then b ((a == [109,101,97,115,117,114,101])) else (if (a == [99,97,114,114,121]) = true then b ((a == [99,97,114,114,121])) else b ((a == [118,101,114,115,105,111,110])))))))))))
def Eb (b:(Ae1 × Ae1 × Int × Ae1 × Ae2 × Ae4 × (List Int) × (List Int) × Int)) (c:(List Ai)):Af ((List Ai) × (Ae1 × Ae1 × Int × Ae1 × Ae2 × Ae4 × (List Int) × (List Int) × Int)) :=
 (FM c 32).bind fun a =>
 (AM a 0).bind fun d =>
 (G8 d).bind fun e =>
 (if ((Ag ((a.length:Int) - 1)) != e) = true then some ([119,104,97,116],b) else (sl a 1 (a.length:Int)).bind fun f =>
 BR f b a FU ([]) (0))
def Ga (d:((List (List Ai)) × Bool)):Nat → (Ae1 × Ae1 × Int × Ae1 × Ae2 × Ae4 × (List Int) × (List Int) × Int) → (List Ai) → Int → Af ((Ae1 × Ae1 × Int × Ae1 × Ae2 × Ae4 × (List Int) × (List Int) × Int) × (List Ai) × Bool)
 | 0,_,_,_=>none
 | m + 1,b,f,c=>(if (decide (c < (d.1.length:Int))) = true then (AM d.1 c).bind fun g =>
 (Eb b g).bind fun a =>
 Bk (fun (h:(Ae1 × Ae1 × Int × Ae1 × Ae2 × Ae4 × (List Int) × (List Int) × Int))=>(Ck a.1 [10]).bind fun i =>
 (Ck f i).bind fun j =>
 (Ga d m) (h) (j) ((Ag (c + 1)))) (fun e=>(if (a.1 == [110,111]) = true then (Ck a.2.2.2.2.2.2.2.1 [(Ag (c + 1))]).bind fun k =>
 e ((a.2.1,a.2.2.1,a.2.2.2.1,a.2.2.2.2.1,a.2.2.2.2.2.1,a.2.2.2.2.2.2.1,k,a.2.2.2.2.2.2.2.2.1,a.2.2.2.2.2.2.2.2.2)) else (if (a.1 == [119,104,97,116]) = true then (Ck a.2.2.2.2.2.2.2.2.1 [(Ag (c + 1))]).bind fun l =>
 e ((a.2.1,a.2.2.1,a.2.2.2.1,a.2.2.2.2.1,a.2.2.2.2.2.1,a.2.2.2.2.2.2.1,a.2.2.2.2.2.2.2.1,l,a.2.2.2.2.2.2.2.2.2)) else e (a.2)))) else some ((b.1,b.2.1,b.2.2.1,b.2.2.2.1,b.2.2.2.2.1,b.2.2.2.2.2.1,b.2.2.2.2.2.2.1,b.2.2.2.2.2.2.2.1,(d.1.length:Int)),f,true))
def KV (c:(List Ai)):Af ((Ae1 × Ae1 × Int × Ae1 × Ae2 × Ae4 × (List Int) × (List Int) × Int) × (List Ai) × Bool) :=
 (Lf ).bind fun a =>
 (JH c).bind fun b =>
 (if (!b.2) = true then some (a,[],false) else Ga b FU (a) ([]) (0))
def Jv (a:(List Ai)):Af (List Ai) :=
 (KV a).bind fun b =>
 some b.2.1
def Hm (a:(List Ai)) (b:Int):Af Int :=
 some (PU a b)
def IJ (b:(List Ai)) (a:(List Ai)):Af Int :=
 Bk (fun (d:Bool)=>(if d = true then some 0 else (if ((a.length:Int) == 1) = true then (AM a 0).bind fun e =>
 (Hm b (UInt8.toNat e:Int)).bind fun f =>
 some f else (if (decide ((b.length:Int) ≤ (a.length:Int))) = true then some (-1) else none)))) (fun c=>(if ((a.length:Int) == 0) = true then c (true) else c ((a == b))))
def HO (a:(List Ai)) (b:(List Ai)):Af Int :=
 (IJ a b).bind fun c =>
 some c
def HC (a:(List Ai)):Nat → (List Ai) → Int → Af Int
 | 0,_,_=>none
 | m + 1,b,c=>(HO b a).bind fun d =>
 (if (d == (-1)) = true then some c else (sl b (Ag (d + (a.length:Int))) (b.length:Int)).bind fun e =>
 (HC a m) (e) ((Ag (c + 1))))
def Jq (b:(List Ai)) (a:(List Ai)):Af Int :=
 (if ((a.length:Int) == 0) = true then none else (if ((a.length:Int) == 1) = true then (AM a 0).bind fun c =>
 some (Yy b (UInt8.toNat c:Int)) else HC a FU (b) (0)))
def DJ (g:Int) (h:(List Ai)) (d:(List Ai)) (e:((List Ai) → (List (List Ai)) → Int → Af (List (List Ai)))) (i:Int):Nat → (List Ai) → (List (List Ai)) → Int → Af (List (List Ai))
 | 0,_,_,_=>none
 | m + 1,a,c,b=>(if (decide (b < (Ag ((Fn g (Ag ((h.length:Int) + 1))) - 1)))) = true then (HO a d).bind fun f =>
 (if (decide (f < 0)) = true then e (a) (c) (b) else (sl a 0 (Ag (f + i))).bind fun j =>
 (AM c b).bind fun l =>
 (sl a (Ag (f + (d.length:Int))) (a.length:Int)).bind fun k =>
 (DJ g h d e i m) (k) ((BG c b j)) ((Ag (b + 1)))) else e (a) (c) (b))
def Jp (a:(List Ai)) (b:(List Ai)) (h:Int) (c:Int):Af (List (List Ai)) :=
 (if (c == 0) = true then some [] else (if (b == []) = true then none else Bk (fun (e:Int)=>(RY (Fn e (Ag ((a.length:Int) + 1))) []).bind fun i =>
 W8 (fun (j:(List Ai)) (f:(List (List Ai))) (d:Int)=>(AM f d).bind fun n =>
 (sl (BG f d j) 0 (Ag (d + 1))).bind fun k =>
 some k) (fun l=>DJ e a b l h FU (a) (i) (0))) (fun g=>(if (decide (c < 0)) = true then (Jq a b).bind fun m =>
 g ((Ag (m + 1))) else g (c)))))
def FY (a:(List Ai)) (b:(List Ai)):Af (List (List Ai)) :=
 (Jp a b 0 (-1)).bind fun c =>
 some c
def JP (a:(List Ai)):Af ((List (List Ai)) × Bool) :=
 (if (a == []) = true then some ([],true) else (AM a (Ag ((a.length:Int) - 1))).bind fun b =>
 (if ((UInt8.toNat b:Int) != 10) = true then some ([],false) else (sl a 0 (Ag ((a.length:Int) - 1))).bind fun c =>
 (FY c [10]).bind fun d =>
 some (d,true)))
def HE (c:(List Ai)):Af ((List (List Ai)) × Bool) :=
 (JP c).bind fun a =>
 Bk (fun (d:Bool)=>(if d = true then some ([],false) else some (a.1,true))) (fun b=>(if (!a.2) = true then b (true) else (if (decide (2000 < (c.length:Int))) = true then b (true) else b ((decide (40 < (a.1.length:Int)))))))
def KF  : Af (Ae1 × Ae1 × Int × Ae1 × Ae2 × Ae4) :=
 some ([(0,0)],[(0,0)],8,[(4,120)],[],[((-1),0,0)])
def Fi (a:(List Ai)):Nat → Int → Int → Af (Int × Bool)
 | 0,_,_=>none
 | m + 1,c,b=>(if (decide (b < (a.length:Int))) = true then Bk (fun (e:Bool)=>(if e = true then some (0,false) else (AM a b).bind fun f =>
 (Fi a m) ((Ag ((Ag (10 * c)) + (Ag (Mv ((UInt8.toNat f:Int) - 48)))))) ((Ag (b + 1))))) (fun d=>(AM a b).bind fun g =>
 (if (decide ((UInt8.toNat g:Int) < 48)) = true then d (true) else (AM a b).bind fun h =>
 d ((decide (57 < (UInt8.toNat h:Int)))))) else some (c,true))
def JO (a:(List Ai)):Af (Int × Bool) :=
 Bk (fun (c:Bool)=>(if c = true then some (0,false) else Fi a FU (0) (0))) (fun b=>(if (a == []) = true then b (true) else (if (decide (9 < (a.length:Int))) = true then b (true) else (if (decide (1 < (a.length:Int))) = true then (AM a 0).bind fun d =>
 b (((UInt8.toNat d:Int) == 48)) else b (false)))))
def Jw (a:(List Ai)):Af Int :=
 Bk (fun (f:Bool)=>(if f = true then some 0 else Bk (fun (g:Bool)=>(if g = true then some 1 else Bk (fun (h:Bool)=>(if h = true then some 2 else Bk (fun (i:Bool)=>(if i = true then some 3 else (if (a == [99,97,114,114,121]) = true then some 4 else some (-1)))) (fun e=>(if (a == [112,108,97,99,101]) = true then e ((a == [112,108,97,99,101])) else e ((a == [118,101,114,115,105,111,110])))))) (fun c=>(if (a == [115,112,111,116]) = true then c ((a == [115,112,111,116])) else (if (a == [115,111,117,110,100]) = true then c ((a == [115,111,117,110,100])) else (if (a == [109,101,97,115,117,114,101]) = true then c ((a == [109,101,97,115,117,114,101])) else c ((a == [119,104,111])))))))) (fun b=>(if (a == [99,111,117,110,116,115]) = true then b ((a == [99,111,117,110,116,115])) else (if (a == [99,108,111,115,101]) = true then b ((a == [99,108,111,115,101])) else (if (a == [107,105,110,100]) = true then b ((a == [107,105,110,100])) else (if (a == [116,101,120,116]) = true then b ((a == [116,101,120,116])) else (if (a == [116,105,109,101]) = true then b ((a == [116,105,109,101])) else b ((a == [115,116,97,116,101])))))))))) (fun d=>(if (a == [109,105,114,114,111,114]) = true then d ((a == [109,105,114,114,111,114])) else (if (a == [107,101,101,112]) = true then d ((a == [107,101,101,112])) else (if (a == [115,117,109]) = true then d ((a == [115,117,109])) else d ((a == [108,101,97,115,116]))))))
def BW (a:Int) (c:Int) (d:Int):Af Bool :=
 Bk (fun (e:Bool)=>some e) (fun b=>(if (decide (c ≤ a)) = true then b ((decide (a ≤ d))) else b (false)))
def Gr (a:(Int × Int)):Af Bool :=
 Bk (fun (c:Bool)=>some c) (fun b=>(BW a.1 0 1280).bind fun d =>
 (if d = true then (BW a.2 0 672).bind fun e =>
 b (e) else b (false)))
def Cn (b:Ae1) (c:(Int × Int)):Nat → Int → Af Int
 | 0,_=>none
 | m + 1,a=>(if (decide (a < (b.length:Int))) = true then (AM b a).bind fun d =>
 (if (MC c d) = true then some a else (Cn b c m) ((Ag (a + 1)))) else some (-1))
def Ez (a:Ae1) (b:(Int × Int)):Af Int :=
 Cn a b FU (0)
def Dk (a:Ae1) (b:(Int × Int)):Af Bool :=
 (Ez a b).bind fun u8 =>
 some (decide (0 ≤ u8))
def Fl (a:Ae1):Nat → Int → Af Bool
 | 0,_=>none
 | m + 1,b=>(if (decide (b < (a.length:Int))) = true then (AM a b).bind fun c =>
 Bk (fun (e:Bool)=>(if e = true then some false else (Fl a m) ((Ag (b + 1))))) (fun d=>(Gr c).bind fun f =>
 (if (!f) = true then d (true) else (sl a 0 b).bind fun g =>
 (Dk g c).bind fun u64 =>
 d (u64))) else some true)
def DZ (a:Ae1):Af Bool :=
 (BW (a.length:Int) 1 12).bind fun b =>
 (if (!b) = true then some false else Fl a FU (0))
def Iz (a:Bool):Af (List Ai) :=
 (if a = true then some ([111,107]) else some ([110,111]))
def Dj (a:(Ae1 × Ae1 × Int × Ae1 × Ae2 × Ae4)) (d:Ae1) (b:Bool):Af ((List Ai) × (Ae1 × Ae1 × Int × Ae1 × Ae2 × Ae4)) :=
 Bk (fun (e:(Ae1 × Ae1 × Int × Ae1 × Ae2 × Ae4))=>(Iz b).bind fun f =>
 some (f,e)) (fun c=>(if b = true then c ((d,a.2.1,a.2.2.1,a.2.2.2.1,a.2.2.2.2.1,a.2.2.2.2.2)) else c (a)))
def Gh (a:Ae1):Af (Ae1 × Bool) :=
 (DZ a).bind fun b =>
 (if (!b) = true then some ([],false) else some (a,true))
def GC (a:Ae1) (b:Int) (d:(Int × Int)):Af (Ae1 × Bool) :=
 Bk (fun (f:Bool)=>(if f = true then some ([],false) else (Ck [] a).bind fun e =>
 (AM e b).bind fun j =>
 (Gh (BG e b d)).bind fun g =>
 some g)) (fun c=>(DZ a).bind fun h =>
 (if (!h) = true then c (true) else (BW b 0 (Ag ((a.length:Int) - 1))).bind fun i =>
 (if (!i) = true then c (true) else (Gr d).bind fun u64 =>
 c ((!u64)))))
def DR (a:Ae1):Nat → Ae1 → Int → Af (Ae1 × Bool)
 | 0,_,_=>none
 | m + 1,c,b=>(if (decide (b < (a.length:Int))) = true then (AM a b).bind fun d =>
 (Ck c [((Ag (1280 - d.1)),d.2)]).bind fun e =>
 (DR a m) (e) ((Ag (b + 1))) else some (c,true))
def HI (a:Ae1):Af (Ae1 × Bool) :=
 (DZ a).bind fun b =>
 (if (!b) = true then some ([],false) else DR a FU ([]) (0))
def BI (a:(Ae1 × Ae1 × Int × Ae1 × Ae2 × Ae4)) (c:(List Ai)) (b:(List Int)):Af ((List Ai) × (Ae1 × Ae1 × Int × Ae1 × Ae2 × Ae4)) :=
 (if (c == [115,112,111,116]) = true then Gk (fun (j:(Ae1 × Ae1 × Int × Ae1 × Ae2 × Ae4)) (k:(List Ai))=>some (k,j)) (fun l=>(AM b 0).bind fun m =>
 (AM b 1).bind fun n =>
 (Ck [] a.1).bind fun o =>
 (Ck o [(m,n)]).bind fun p =>
 (Gh p).bind fun d =>
 (Dj a d.1 d.2).bind fun e =>
 l (e.2) (e.1)) else (if (c == [112,108,97,99,101]) = true then (AM b 0).bind fun q =>
 (AM b 1).bind fun r =>
 (AM b 2).bind fun s =>
 (GC a.1 q (r,s)).bind fun f =>
 (Dj a f.1 f.2).bind fun g =>
 some (g.1,g.2) else (if (c == [109,105,114,114,111,114]) = true then (HI a.1).bind fun h =>
 (Dj a h.1 h.2).bind fun i =>
 some (i.1,i.2) else (if (c == [107,101,101,112]) = true then (Ck [] a.1).bind fun t =>
 some ([111,107],(a.1,t,a.2.2.1,a.2.2.2.1,a.2.2.2.2.1,a.2.2.2.2.2)) else (AM b 0).bind fun u =>
 (BW u 1 64).bind fun v =>
 (if (!v) = true then some ([110,111],a) else (AM b 0).bind fun w =>
 some ([111,107],(a.1,a.2.1,w,a.2.2.2.1,a.2.2.2.2.1,a.2.2.2.2.2)))))))
def Fk (a:Ae1):Nat → Int → Af Bool
 | 0,_=>none
 | m + 1,b=>(if (decide (b < (a.length:Int))) = true then (AM a b).bind fun c =>
 Bk (fun (e:Bool)=>(if e = true then some false else (Fk a m) ((Ag (b + 1))))) (fun d=>(BW c.1 1 12).bind fun f =>
 (if (!f) = true then d (true) else (BW c.2 40 220).bind fun g =>
 d ((!g)))) else (BW (a.length:Int) 1 40).bind fun h =>
 some h)
def I1 (a:Ae1):Af Bool :=
 Fk a FU (0)
def Dr (a:(Int × Int × Int × Int)) (b:(Int × Int × Int × Int)):Af Int :=
 (if (a.2.2.1 != b.2.2.1) = true then some (Ag (a.2.2.1 - b.2.2.1)) else some (Ag (a.2.1 - b.2.1)))
def JQ (a:(Int × Int × Int × Int)):Af Bool :=
 Bk (fun (c:Bool)=>some c) (fun b=>(BW a.1 1 12).bind fun d =>
 (if d = true then (BW a.2.1 1 9).bind fun e =>
 (if e = true then (if (decide (0 ≤ a.2.2.1)) = true then (if (decide (a.2.2.1 < a.2.2.2)) = true then b ((decide (a.2.2.2 ≤ 1000))) else b (false)) else b (false)) else b (false)) else b (false)))
def D3 (c:Ae2) (a:(Int × Int × Int × Int)) (f:(Int → Af Bool)) (g:Int):Nat → Int → Af Bool
 | 0,_=>none
 | m + 1,d=>(if (decide (d < (c.length:Int))) = true then (AM c d).bind fun b =>
 Bk (fun (h:Bool)=>(if h = true then some false else (D3 c a f g m) ((Ag (d + 1))))) (fun e=>(if (a.2.1 == b.2.1) = true then e ((decide ((Fx a.2.2.1 b.2.2.1) < (Fn a.2.2.2 b.2.2.2)))) else (if (a.1 == b.1) = true then e ((decide ((Fx a.2.2.1 b.2.2.1) < (Fn a.2.2.2 b.2.2.2)))) else e (false)))) else f ((Ag (g + 1))))
def CF (b:Ae2):Nat → Int → Af Bool
 | 0,_=>none
 | m + 1,a=>(if (decide (a < (b.length:Int))) = true then (AM b a).bind fun c =>
 Bk (fun (e:Bool)=>(if e = true then some false else (sl b 0 a).bind fun f =>
 D3 f c (CF b m) a FU (0))) (fun d=>(if (decide (0 < a)) = true then (AM b (Ag (a - 1))).bind fun g =>
 (Dr g c).bind fun h =>
 d ((decide (0 ≤ h))) else d (false))) else some true)
def Eh (a:Ae2):Nat → Int → Af Bool
 | 0,_=>none
 | m + 1,b=>(if (decide (b < (a.length:Int))) = true then (AM a b).bind fun c =>
 (JQ c).bind fun d =>
 (if (!d) = true then some false else (Eh a m) ((Ag (b + 1)))) else CF a FU (0))
def FT (a:Ae2):Af Bool :=
 (if (decide (40 < (a.length:Int))) = true then some false else Eh a FU (0))
def DS (d:Ae4):Nat → Int → Af Bool
 | 0,_=>none
 | m + 1,a=>(if (decide (a < (d.length:Int))) = true then (AM d a).bind fun b =>
 Bk (fun (e:Bool)=>(if e = true then some false else (DS d m) ((Ag (a + 1))))) (fun c=>(if (decide (0 < a)) = true then (BW b.1 0 (Ag (a - 1))).bind fun f =>
 (if (!f) = true then c (true) else (BW b.2.1 0 7).bind fun g =>
 (if (!g) = true then c (true) else (BW b.2.2 0 999).bind fun h =>
 c ((!h)))) else (BW b.2.1 0 7).bind fun i =>
 (if (!i) = true then c (true) else (BW b.2.2 0 999).bind fun j =>
 c ((!j))))) else some true)
def FH (a:Ae4):Af Bool :=
 Bk (fun (c:Bool)=>(if c = true then some false else DS a FU (0))) (fun b=>(BW (a.length:Int) 1 60).bind fun d =>
 (if (!d) = true then b (true) else (AM a 0).bind fun e =>
 b ((e.1 != (-1)))))
def Ii (a:Ae4) (c:(Int × Int × Int)):Af (Ae4 × Bool) :=
 (FH a).bind fun d =>
 (if (!d) = true then some ([],false) else Bk (fun (b:Ae4)=>(FH b).bind fun e =>
 (if (!e) = true then some ([],false) else some (b,true))) (fun f=>(Ck [] a).bind fun g =>
 (Ck g [c]).bind fun h =>
 f (h)))
def Bm (c:(Ae2 → Int → Af Ae2)) (d:Int) (e:Int):Nat → Ae2 → Int → Af Ae2
 | 0,_,_=>none
 | m + 1,b,a=>Bk (fun (h:Bool)=>(if h = true then Bk (fun (i:Ae2)=>(Bm c d e m) (i) ((Ag (a - 1)))) (fun j=>(AM b (Ag (a - 1))).bind fun f =>
 (AM b a).bind fun k =>
 (AM b a).bind fun p =>
 (AM (BG b a f) (Ag (a - 1))).bind fun q =>
 j ((BG (BG b a f) (Ag (a - 1)) k))) else c (b) ((Ag (d + 1))))) (fun g=>(if (decide (e < a)) = true then (AM b a).bind fun l =>
 (AM b (Ag (a - 1))).bind fun n =>
 (Dr l n).bind fun o =>
 g ((decide (o < 0))) else g (false)))
def AW (b:Int) (c:Int):Nat → Ae2 → Int → Af Ae2
 | 0,_,_=>none
 | m + 1,d,a=>(if (decide (a < b)) = true then Bm (AW b c m) a c FU (d) (a) else some d)
def Bj (b:Ae2) (a:Int) (c:Int):Af Ae2 :=
 AW c a FU (b) ((Ag (a + 1)))
def Bw (e:Int) (d:Int) (c:Int):Nat → Ae2 → Int → Af Ae2
 | 0,_,_=>none
 | m + 1,b,a=>(if (decide (a < e)) = true then Bk (fun (g:Ae2)=>(Bw e d c m) (g) ((Ag (a + 1)))) (fun h=>(AM b (Ag (d + a))).bind fun f =>
 (AM b (Ag (c + a))).bind fun i =>
 (AM b (Ag (c + a))).bind fun j =>
 (AM (BG b (Ag (c + a)) f) (Ag (d + a))).bind fun k =>
 h ((BG (BG b (Ag (c + a)) f) (Ag (d + a)) i))) else some b)
def B7 (a:Ae2) (b:Int) (c:Int) (d:Int):Af Ae2 :=
 Bw d c b FU (a) (0)
def B0 (b:Int):Nat → Ae2 → Int → Int → Af Ae2
 | 0,_,_,_=>none
 | m + 1,d,a,c=>(if (a != c) = true then (if (decide (c < a)) = true then (B7 d (Ag (b - a)) b c).bind fun e =>
 (B0 b m) (e) ((Ag (a - c))) (c) else (B7 d (Ag (b - a)) (Ag ((Ag (b + c)) - a)) a).bind fun f =>
 (B0 b m) (f) (a) ((Ag (c - a)))) else (B7 d (Ag (b - a)) b a).bind fun g =>
 some g)
def BJ (b:Ae2) (c:Int) (a:Int) (d:Int):Af Ae2 :=
 B0 a FU (b) ((Ag (a - c))) ((Ag (d - a)))
def Bz (c:Int):Nat → Ae2 → Int → Af Ae2
 | 0,_,_=>none
 | m + 1,b,a=>(if (decide (a < (Ag (c - 1)))) = true then Bk (fun (e:Ae2)=>(Bz c m) (e) ((Ag (a + 1)))) (fun f=>(AM b (Ag (a + 1))).bind fun d =>
 (AM b a).bind fun g =>
 (AM b a).bind fun h =>
 (AM (BG b a d) (Ag (a + 1))).bind fun i =>
 f ((BG (BG b a d) (Ag (a + 1)) g))) else some b)
def AJ (b:Ae2) (d:Int):Nat → Int → Int → Af Ae2
 | 0,_,_=>none
 | m + 1,a,c=>(if (decide (a < c)) = true then (AM b (Ag (Bq .u64 (Bh (Ag (a + c))) 1))).bind fun e =>
 (AM b d).bind fun f =>
 (Dr e f).bind fun g =>
 (if (decide (g < 0)) = true then (AJ b d m) ((Ag ((Ag (Bq .u64 (Bh (Ag (a + c))) 1)) + 1))) (c) else (AJ b d m) (a) ((Ag (Bq .u64 (Bh (Ag (a + c))) 1)))) else Bz a FU (b) (d))
def Bx (c:Int):Nat → Ae2 → Int → Af Ae2
 | 0,_,_=>none
 | m + 1,b,a=>(if (decide (c < a)) = true then Bk (fun (e:Ae2)=>(Bx c m) (e) ((Ag (a - 1)))) (fun f=>(AM b (Ag (a - 1))).bind fun d =>
 (AM b a).bind fun g =>
 (AM b a).bind fun h =>
 (AM (BG b a d) (Ag (a - 1))).bind fun i =>
 f ((BG (BG b a d) (Ag (a - 1)) g))) else some b)
def AH (b:Ae2) (d:Int):Nat → Int → Int → Af Ae2
 | 0,_,_=>none
 | m + 1,a,c=>(if (decide (a < c)) = true then (AM b d).bind fun e =>
 (AM b (Ag (Bq .u64 (Bh (Ag (a + c))) 1))).bind fun f =>
 (Dr e f).bind fun g =>
 (if (!(decide (g < 0))) = true then (AH b d m) ((Ag ((Ag (Bq .u64 (Bh (Ag (a + c))) 1)) + 1))) (c) else (AH b d m) (a) ((Ag (Bq .u64 (Bh (Ag (a + c))) 1)))) else Bx a FU (b) (d))
def AG (e:Ae2) (b:Int) (c:Int) (d:Int) (rec:(Ae2 → Int → Int → Int → Af Ae2)):Nat → Int → Int → Af Ae2
 | 0,_,_=>none
 | m + 1,a,f=>(if (decide (a < f)) = true then (AM e (Ag ((Ag ((Ag ((Ag (Bq .u64 (Bh (Ag (b + c))) 1)) + d)) - 1)) - (Ag (Bq .u64 (Bh (Ag (a + f))) 1))))).bind fun o =>
 (AM e (Ag (Bq .u64 (Bh (Ag (a + f))) 1))).bind fun p =>
 (Dr o p).bind fun q =>
 (if (!(decide (q < 0))) = true then (AG e b c d rec m) ((Ag ((Ag (Bq .u64 (Bh (Ag (a + f))) 1)) + 1))) (f) else (AG e b c d rec m) (a) ((Ag (Bq .u64 (Bh (Ag (a + f))) 1)))) else Bk (fun (g:Ae2)=>Bk (fun (h:Ae2)=>Bk (fun (r:Bool)=>(if r = true then (rec h (Ag (Bq .u64 (Bh (Ag (b + c))) 1)) (Ag ((Ag ((Ag (Bq .u64 (Bh (Ag (b + c))) 1)) + d)) - a)) c).bind fun s =>
 some s else some h)) (fun i=>(if (decide ((Ag (Bq .u64 (Bh (Ag (b + c))) 1)) < (Ag ((Ag ((Ag (Bq .u64 (Bh (Ag (b + c))) 1)) + d)) - a)))) = true then i ((decide ((Ag ((Ag ((Ag (Bq .u64 (Bh (Ag (b + c))) 1)) + d)) - a)) < c))) else i (false)))) (fun j=>Bk (fun (t:Bool)=>(if t = true then (rec g b a (Ag (Bq .u64 (Bh (Ag (b + c))) 1))).bind fun u =>
 j (u) else j (g))) (fun k=>(if (decide (b < a)) = true then k ((decide (a < (Ag (Bq .u64 (Bh (Ag (b + c))) 1))))) else k (false))))) (fun l=>Bk (fun (v:Bool)=>(if v = true then (BJ e a d (Ag ((Ag ((Ag (Bq .u64 (Bh (Ag (b + c))) 1)) + d)) - a))).bind fun w =>
 l (w) else l (e))) (fun n=>(if (decide (a < d)) = true then n ((decide (d < (Ag ((Ag ((Ag (Bq .u64 (Bh (Ag (b + c))) 1)) + d)) - a))))) else n (false)))))
def BV (rec:Ae2 → Int → Int → Int → Af Ae2) (d:Ae2) (b:Int) (a:Int) (c:Int):Af Ae2 :=
 (if ((Ag (a - b)) == 1) = true then AJ d b FU (a) (c) else (if ((Ag (c - a)) == 1) = true then AH d a FU (b) (a) else Gk (fun (f:Int) (g:Int)=>AG d b c a rec FU (f) (g)) (fun e=>(if (decide ((Ag (Bq .u64 (Bh (Ag (b + c))) 1)) < a)) = true then e ((Ag ((Ag ((Ag (Bq .u64 (Bh (Ag (b + c))) 1)) + a)) - c))) ((Ag (Bq .u64 (Bh (Ag (b + c))) 1))) else e (b) (a)))))
def AN:Nat → Ae2 → Int → Int → Int → Af Ae2
 | 0,_,_,_,_=>none
 | m + 1,a,b,c,d=>BV (AN m) a b c d
def Cb (a:Ae2) (b:Int) (c:Int) (d:Int):Af Ae2 :=
 AN FU a b c d
def Bn (c:Int) (a:Int) (f:(Ae2 → Int → Af Ae2)):Nat → Ae2 → Int → Int → Af Ae2
 | 0,_,_,_=>none
 | m + 1,e,b,d=>(if (decide (d ≤ c)) = true then (Cb e b (Ag (b + a)) d).bind fun h =>
 (Bn c a f m) (h) (d) ((Ag (d + (Ag (2 * a))))) else Bk (fun (i:Ae2)=>f (i) ((Ag (a * 2)))) (fun g=>(if (decide ((Ag (b + a)) < c)) = true then (Cb e b (Ag (b + a)) c).bind fun j =>
 g (j) else g (e))))
def AD (a:Int):Nat → Ae2 → Int → Af Ae2
 | 0,_,_=>none
 | m + 1,c,b=>(if (decide (b < a)) = true then Bn a b (AD a m) FU (c) (0) ((Ag (2 * b))) else some c)
def AL (a:Int):Nat → Ae2 → Int → Int → Af Ae2
 | 0,_,_,_=>none
 | m + 1,c,d,b=>(if (decide (b ≤ a)) = true then (Bj c d b).bind fun e =>
 (AL a m) (e) (b) ((Ag (b + 20))) else (Bj c d a).bind fun f =>
 AD a FU (f) (20))
def C8 (a:Ae2) (b:Int):Af Ae2 :=
 AL b FU (a) (0) (20)
def B6 (a:Ae2):Af Ae2 :=
 (C8 a (a.length:Int)).bind fun b =>
 some b
def CG (a:(Ae1 × Ae1 × Int × Ae1 × Ae2 × Ae4)) (f:(List Ai)) (b:(List Int)):Af ((List Ai) × (Ae1 × Ae1 × Int × Ae1 × Ae2 × Ae4)) :=
 (if (f == [109,101,97,115,117,114,101]) = true then Gk (fun (c:(Ae1 × Ae1 × Int × Ae1 × Ae2 × Ae4)) (g:Ae1)=>(I1 g).bind fun j =>
 (if (!j) = true then some ([110,111],c) else some ([111,107],(c.1,c.2.1,c.2.2.1,g,c.2.2.2.2.1,c.2.2.2.2.2)))) (fun k=>(AM b 0).bind fun l =>
 (AM b 1).bind fun m =>
 (Ck [] a.2.2.2.1).bind fun n =>
 (Ck n [(l,m)]).bind fun o =>
 k (a) (o)) else (if (f == [99,97,114,114,121]) = true then Gk (fun (d:(Ae1 × Ae1 × Int × Ae1 × Ae2 × Ae4)) (p:Ae2)=>(B6 p).bind fun h =>
 (FT h).bind fun q =>
 (if (!q) = true then some ([110,111],d) else some ([111,107],(d.1,d.2.1,d.2.2.1,d.2.2.2.1,h,d.2.2.2.2.2)))) (fun r=>(AM b 0).bind fun s =>
 (AM b 1).bind fun t =>
 (AM b 2).bind fun u =>
 (AM b 3).bind fun v =>
 (Ck [] a.2.2.2.2.1).bind fun w =>
 (Ck w [(s,t,u,v)]).bind fun x =>
 r (a) (x)) else (AM b 0).bind fun y =>
 (AM b 1).bind fun z =>
 (AM b 2).bind fun aa =>
 (Ii a.2.2.2.2.2 (y,z,aa)).bind fun e =>
 Bk (fun (ab:(Ae1 × Ae1 × Int × Ae1 × Ae2 × Ae4))=>(Iz e.2).bind fun ac =>
 some (ac,ab)) (fun i=>(if e.2 = true then i ((a.1,a.2.1,a.2.2.1,a.2.2.2.1,a.2.2.2.2.1,e.1)) else i (a)))))
def H2 (b:Ae1) (c:Ae1) (d:Int):Af Bool :=
 Bk (fun (e:Bool)=>some e) (fun a=>(DZ b).bind fun f =>
 (if f = true then (DZ c).bind fun g =>
 (if g = true then (if ((b.length:Int) == (c.length:Int)) = true then (BW d 1 64).bind fun h =>
 a (h) else a (false)) else a (false)) else a (false)))
def Ed (a:(Int × Int)) (b:(Int × Int)):Af Int :=
 some (Ag ((Ag ((Ag (a.1 - b.1)) * (Ag (a.1 - b.1)))) + (Ag ((Ag (a.2 - b.2)) * (Ag (a.2 - b.2))))))
def Es (a:Ae1) (c:(Int × Int)) (d:Ae6) (e:(Ae6 → Int → Af Ae6)) (f:Int):Nat → (List Int) → Int → Af Ae6
 | 0,_,_=>none
 | m + 1,g,b=>(if (decide (b < (a.length:Int))) = true then (AM a b).bind fun h =>
 (Ed c h).bind fun i =>
 (Ck g [i]).bind fun j =>
 (Es a c d e f m) (j) ((Ag (b + 1))) else (Ck d [g]).bind fun k =>
 e (k) ((Ag (f + 1))))
def DE (a:Ae1) (c:Ae1):Nat → Ae6 → Int → Af Ae6
 | 0,_,_=>none
 | m + 1,d,b=>(if (decide (b < (a.length:Int))) = true then (AM a b).bind fun e =>
 Es c e d (DE a c m) b FU ([]) (0) else some d)
def IB (a:Ae1) (b:Ae1):Af Ae6 :=
 DE a b FU ([]) (0)
def KY (a:Int):Af Int :=
 some (B5 .i64 (Ag (Bh ((Bh ((Bh ((B5 .u64 (Bh ((Bq .u64 (Bh ((B5 .u64 (Bq .u64 (Bh ((B5 .u64 (Bq .u64 a 1) 6148914691236517205) + (B5 .u64 a 6148914691236517205))) 2) 3689348814741910323) + (B5 .u64 (Bh ((B5 .u64 (Bq .u64 a 1) 6148914691236517205) + (B5 .u64 a 6148914691236517205))) 3689348814741910323))) 4) + (Bh ((B5 .u64 (Bq .u64 (Bh ((B5 .u64 (Bq .u64 a 1) 6148914691236517205) + (B5 .u64 a 6148914691236517205))) 2) 3689348814741910323) + (B5 .u64 (Bh ((B5 .u64 (Bq .u64 a 1) 6148914691236517205) + (B5 .u64 a 6148914691236517205))) 3689348814741910323))))) 1085102592571150095) + (Bq .u64 (B5 .u64 (Bh ((Bq .u64 (Bh ((B5 .u64 (Bq .u64 (Bh ((B5 .u64 (Bq .u64 a 1) 6148914691236517205) + (B5 .u64 a 6148914691236517205))) 2) 3689348814741910323) + (B5 .u64 (Bh ((B5 .u64 (Bq .u64 a 1) 6148914691236517205) + (B5 .u64 a 6148914691236517205))) 3689348814741910323))) 4) + (Bh ((B5 .u64 (Bq .u64 (Bh ((B5 .u64 (Bq .u64 a 1) 6148914691236517205) + (B5 .u64 a 6148914691236517205))) 2) 3689348814741910323) + (B5 .u64 (Bh ((B5 .u64 (Bq .u64 a 1) 6148914691236517205) + (B5 .u64 a 6148914691236517205))) 3689348814741910323))))) 1085102592571150095) 8))) + (Bq .u64 (Bh ((B5 .u64 (Bh ((Bq .u64 (Bh ((B5 .u64 (Bq .u64 (Bh ((B5 .u64 (Bq .u64 a 1) 6148914691236517205) + (B5 .u64 a 6148914691236517205))) 2) 3689348814741910323) + (B5 .u64 (Bh ((B5 .u64 (Bq .u64 a 1) 6148914691236517205) + (B5 .u64 a 6148914691236517205))) 3689348814741910323))) 4) + (Bh ((B5 .u64 (Bq .u64 (Bh ((B5 .u64 (Bq .u64 a 1) 6148914691236517205) + (B5 .u64 a 6148914691236517205))) 2) 3689348814741910323) + (B5 .u64 (Bh ((B5 .u64 (Bq .u64 a 1) 6148914691236517205) + (B5 .u64 a 6148914691236517205))) 3689348814741910323))))) 1085102592571150095) + (Bq .u64 (B5 .u64 (Bh ((Bq .u64 (Bh ((B5 .u64 (Bq .u64 (Bh ((B5 .u64 (Bq .u64 a 1) 6148914691236517205) + (B5 .u64 a 6148914691236517205))) 2) 3689348814741910323) + (B5 .u64 (Bh ((B5 .u64 (Bq .u64 a 1) 6148914691236517205) + (B5 .u64 a 6148914691236517205))) 3689348814741910323))) 4) + (Bh ((B5 .u64 (Bq .u64 (Bh ((B5 .u64 (Bq .u64 a 1) 6148914691236517205) + (B5 .u64 a 6148914691236517205))) 2) 3689348814741910323) + (B5 .u64 (Bh ((B5 .u64 (Bq .u64 a 1) 6148914691236517205) + (B5 .u64 a 6148914691236517205))) 3689348814741910323))))) 1085102592571150095) 8))) 16))) + (Bq .u64 (Bh ((Bh ((B5 .u64 (Bh ((Bq .u64 (Bh ((B5 .u64 (Bq .u64 (Bh ((B5 .u64 (Bq .u64 a 1) 6148914691236517205) + (B5 .u64 a 6148914691236517205))) 2) 3689348814741910323) + (B5 .u64 (Bh ((B5 .u64 (Bq .u64 a 1) 6148914691236517205) + (B5 .u64 a 6148914691236517205))) 3689348814741910323))) 4) + (Bh ((B5 .u64 (Bq .u64 (Bh ((B5 .u64 (Bq .u64 a 1) 6148914691236517205) + (B5 .u64 a 6148914691236517205))) 2) 3689348814741910323) + (B5 .u64 (Bh ((B5 .u64 (Bq .u64 a 1) 6148914691236517205) + (B5 .u64 a 6148914691236517205))) 3689348814741910323))))) 1085102592571150095) + (Bq .u64 (B5 .u64 (Bh ((Bq .u64 (Bh ((B5 .u64 (Bq .u64 (Bh ((B5 .u64 (Bq .u64 a 1) 6148914691236517205) + (B5 .u64 a 6148914691236517205))) 2) 3689348814741910323) + (B5 .u64 (Bh ((B5 .u64 (Bq .u64 a 1) 6148914691236517205) + (B5 .u64 a 6148914691236517205))) 3689348814741910323))) 4) + (Bh ((B5 .u64 (Bq .u64 (Bh ((B5 .u64 (Bq .u64 a 1) 6148914691236517205) + (B5 .u64 a 6148914691236517205))) 2) 3689348814741910323) + (B5 .u64 (Bh ((B5 .u64 (Bq .u64 a 1) 6148914691236517205) + (B5 .u64 a 6148914691236517205))) 3689348814741910323))))) 1085102592571150095) 8))) + (Bq .u64 (Bh ((B5 .u64 (Bh ((Bq .u64 (Bh ((B5 .u64 (Bq .u64 (Bh ((B5 .u64 (Bq .u64 a 1) 6148914691236517205) + (B5 .u64 a 6148914691236517205))) 2) 3689348814741910323) + (B5 .u64 (Bh ((B5 .u64 (Bq .u64 a 1) 6148914691236517205) + (B5 .u64 a 6148914691236517205))) 3689348814741910323))) 4) + (Bh ((B5 .u64 (Bq .u64 (Bh ((B5 .u64 (Bq .u64 a 1) 6148914691236517205) + (B5 .u64 a 6148914691236517205))) 2) 3689348814741910323) + (B5 .u64 (Bh ((B5 .u64 (Bq .u64 a 1) 6148914691236517205) + (B5 .u64 a 6148914691236517205))) 3689348814741910323))))) 1085102592571150095) + (Bq .u64 (B5 .u64 (Bh ((Bq .u64 (Bh ((B5 .u64 (Bq .u64 (Bh ((B5 .u64 (Bq .u64 a 1) 6148914691236517205) + (B5 .u64 a 6148914691236517205))) 2) 3689348814741910323) + (B5 .u64 (Bh ((B5 .u64 (Bq .u64 a 1) 6148914691236517205) + (B5 .u64 a 6148914691236517205))) 3689348814741910323))) 4) + (Bh ((B5 .u64 (Bq .u64 (Bh ((B5 .u64 (Bq .u64 a 1) 6148914691236517205) + (B5 .u64 a 6148914691236517205))) 2) 3689348814741910323) + (B5 .u64 (Bh ((B5 .u64 (Bq .u64 a 1) 6148914691236517205) + (B5 .u64 a 6148914691236517205))) 3689348814741910323))))) 1085102592571150095) 8))) 16))) 32)))) 127)
def H4 (a:Int):Af Int :=
 (KY a).bind fun b =>
 some b
def DG (d:Ae6) (a:Int) (e:Int) (f:((List Int) → Int → Af (List Int))):Nat → (List Int) → Int → Af (List Int)
 | 0,_,_=>none
 | m + 1,b,c=>(if (decide (c < (d.length:Int))) = true then Bk (fun (h:(List Int))=>(DG d a e f m) (h) ((Ag (c + 1)))) (fun g=>(if (decide (0 ≤ c)) = true then (if ((B5 .i64 (Bq .i64 a c) 1) == 0) = true then (AM b a).bind fun i =>
 (AM d e).bind fun j =>
 (AM j c).bind fun k =>
 (AM b (Tj .i64 a (K0 .i64 1 c))).bind fun l =>
 (AM b a).bind fun n =>
 g ((BG b a (Fn i (Ag (k + l))))) else g (b)) else none)) else f (b) ((Ag (a - 1))))
def Ev (c:Ae6):Nat → (List Int) → Int → Af (List Int)
 | 0,_,_=>none
 | m + 1,b,a=>(if (decide (0 ≤ a)) = true then (H4 (Bh a)).bind fun d =>
 (AM b a).bind fun e =>
 DG c a d (Ev c m) FU ((BG b a 13194139533312)) (0) else some b)
def IE (a:Ae6):Af (List Int) :=
 (if (decide (0 ≤ (a.length:Int))) = true then (RY (K0 .i64 1 (a.length:Int)) 0).bind fun b =>
 Ev a FU (b) ((Ag ((K0 .i64 1 (a.length:Int)) - 2))) else none)
def Dw (c:Ae6) (d:(List Int)) (e:(Int → (List Int) → Af (List Int))) (b:Int) (g:Int) (f:(List Int)):Nat → Int → Af (List Int)
 | 0,_=>none
 | m + 1,a=>(if (decide (a < (c.length:Int))) = true then Bk (fun (i:Bool)=>(if i = true then (Ck d [a]).bind fun j =>
 (if (decide (0 ≤ a)) = true then e ((Tj .i64 b (K0 .i64 1 a))) (j) else none) else (Dw c d e b g f m) ((Ag (a + 1))))) (fun h=>(if (decide (0 ≤ a)) = true then (if ((B5 .i64 (Bq .i64 b a) 1) == 0) = true then (AM c g).bind fun k =>
 (AM k a).bind fun l =>
 (AM f b).bind fun n =>
 (AM f (Tj .i64 b (K0 .i64 1 a))).bind fun o =>
 h (((Ag (l + o)) == n)) else h (false)) else none)) else e (b) (d))
def Dx (a:Ae6) (c:(List Int)):Nat → Int → (List Int) → Int → Af (List Int)
 | 0,_,_,_=>none
 | m + 1,e,d,b=>(if (decide (b < (a.length:Int))) = true then Gk (fun (f:Int) (g:(List Int))=>(Dx a c m) (f) (g) ((Ag (b + 1)))) (fun h=>Dw a d h e b c FU (0)) else some d)
def GS (a:Ae6):Af (List Int) :=
 (IE a).bind fun b =>
 Dx a b FU (0) ([]) (0)
def Ft (a:(List Int)):Af (List Int) :=
 (Ck [] a).bind fun b =>
 some b
def EI (a:Ae1) (b:Ae1) (c:Int) (d:(List Int)):Af (Ae1 × Ae1 × Int × (List Int)) :=
 (Ck [] a).bind fun e =>
 (Ck [] b).bind fun f =>
 (Ft d).bind fun g =>
 some (e,f,c,g)
def Gp (a:Ae1) (b:Ae1) (c:Int):Af ((Ae1 × Ae1 × Int × (List Int)) × Bool) :=
 (H2 a b c).bind fun d =>
 (if (!d) = true then some (([],[],0,[]),false) else (IB a b).bind fun e =>
 (GS e).bind fun f =>
 (EI a b c f).bind fun g =>
 some (g,true))
def Ef (b:(List Int)) (c:Int):Nat → Int → Int → Af Bool
 | 0,_,_=>none
 | m + 1,e,d=>(if (decide (d < (b.length:Int))) = true then (AM b d).bind fun a =>
 Bk (fun (g:Bool)=>(if g = true then some false else (if (decide (0 ≤ a)) = true then (Ef b c m) ((Tj .i64 e (K0 .i64 1 a))) ((Ag (d + 1))) else none))) (fun f=>(BW a 0 (Ag (c - 1))).bind fun h =>
 (if (!h) = true then f (true) else (if (decide (0 ≤ a)) = true then f (((B5 .i64 (Bq .i64 e a) 1) == 1)) else none))) else some ((b.length:Int) == c))
def Ig (a:(List Int)) (b:Int):Af Bool :=
 Ef a b FU (0) (0)
def Fp (a:(Ae1 × Ae1 × Int × (List Int))):Af Bool :=
 Bk (fun (c:Bool)=>some c) (fun b=>(DZ a.1).bind fun d =>
 (if d = true then (DZ a.2.1).bind fun e =>
 (if e = true then (if ((a.1.length:Int) == (a.2.1.length:Int)) = true then (BW a.2.2.1 1 64).bind fun f =>
 (if f = true then (Ig a.2.2.2 (a.1.length:Int)).bind fun g =>
 b (g) else b (false)) else b (false)) else b (false)) else b (false)))
def Et (a:(Ae1 × Ae1 × Int × (List Int))):Nat → Int → Int → Af Int
 | 0,_,_=>none
 | m + 1,c,b=>(if (decide (b < (a.2.2.2.length:Int))) = true then (AM a.2.2.2 b).bind fun d =>
 (AM a.1 b).bind fun e =>
 (AM a.2.1 d).bind fun f =>
 (Ed e f).bind fun g =>
 (Et a m) ((Ag (c + g))) ((Ag (b + 1))) else some c)
def IC (a:(Ae1 × Ae1 × Int × (List Int))):Af Int :=
 Et a FU (0) (0)
def H3 (a:(Ae1 × Ae1 × Int × (List Int))):Af (Int × Bool) :=
 (Fp a).bind fun b =>
 (if (!b) = true then some (0,false) else (IC a).bind fun c =>
 some (c,true))
def Fr (a:Int) (b:Bool):Af (List Ai) :=
 (if b = true then (CY a).bind fun c =>
 some c else some ([110,111]))
def Dg (a:Ae1) (c:Ae1) (d:Int):Nat → (List Int) → Int → Af ((Ae1 × Ae1 × Int × (List Int)) × Bool)
 | 0,_,_=>none
 | m + 1,e,b=>(if (decide (b < (a.length:Int))) = true then (Ck e [b]).bind fun f =>
 (Dg a c d m) (f) ((Ag (b + 1))) else (EI a c d e).bind fun g =>
 some (g,true))
def EQ (a:Ae1) (b:Ae1) (c:Int):Af ((Ae1 × Ae1 × Int × (List Int)) × Bool) :=
 (H2 a b c).bind fun d =>
 (if (!d) = true then some (([],[],0,[]),false) else Dg a b c FU ([]) (0))
def I0 (a:Int):Af Bool :=
 (BW a 0 80).bind fun b =>
 some b
def Fj (a:(Ae1 × Ae1 × Int × (List Int))):Nat → (List Ae3) → Int → Af (List Ae3)
 | 0,_,_=>none
 | m + 1,c,b=>(if (decide (b < (a.2.2.2.length:Int))) = true then (AM a.2.2.2 b).bind fun d =>
 (AM a.1 b).bind fun e =>
 (AM a.2.1 d).bind fun f =>
 (Ck c [(e,f,a.2.2.1)]).bind fun g =>
 (Fj a m) (g) ((Ag (b + 1))) else some c)
def H1 (a:(Ae1 × Ae1 × Int × (List Int))):Af (List Ae3) :=
 Fj a FU ([]) (0)
def Lj (a:Ae3) (b:Ae3):Af ((Int × Int) × (Int × Int) × Int × Int) :=
 some (((Ag (a.1.1 - b.1.1)),(Ag (a.1.2 - b.1.2))),((Ag ((Ag (a.2.1.1 - b.2.1.1)) - (Ag (a.1.1 - b.1.1)))),(Ag ((Ag (a.2.1.2 - b.2.1.2)) - (Ag (a.1.2 - b.1.2))))),(Ag ((Ag ((Ag (a.1.1 - b.1.1)) * (Ag ((Ag (a.2.1.1 - b.2.1.1)) - (Ag (a.1.1 - b.1.1)))))) + (Ag ((Ag (a.1.2 - b.1.2)) * (Ag ((Ag (a.2.1.2 - b.2.1.2)) - (Ag (a.1.2 - b.1.2)))))))),(Ag ((Ag ((Ag ((Ag (a.2.1.1 - b.2.1.1)) - (Ag (a.1.1 - b.1.1)))) * (Ag ((Ag (a.2.1.1 - b.2.1.1)) - (Ag (a.1.1 - b.1.1)))))) + (Ag ((Ag ((Ag (a.2.1.2 - b.2.1.2)) - (Ag (a.1.2 - b.1.2)))) * (Ag ((Ag (a.2.1.2 - b.2.1.2)) - (Ag (a.1.2 - b.1.2)))))))))
def GT  : Nat → Int → Int → Af Int
 | 0,_,_=>none
 | m + 1,b,a=>(if (a != 0) = true then (if a = 0 then none else (GT m) (a) ((Int.tmod b a))) else some b)
def Mq (a:Int) (b:Int):Af Int :=
 GT FU ((Fx a (Ag (0 - a)))) ((Fx b (Ag (0 - b))))
def FG (b:Int) (c:Int):Af (Int × Int) :=
 (Mq b c).bind fun a =>
 (if a = 0 then none else (if a = 0 then none else some ((Ag (Int.tdiv b a)),(Ag (Int.tdiv c a)))))
def Ie (b:Ae3) (c:Ae3):Af (Int × Int) :=
 (Lj b c).bind fun a =>
 (if (decide (0 ≤ a.2.2.1)) = true then some ((Ag ((Ag (a.1.1 * a.1.1)) + (Ag (a.1.2 * a.1.2)))),1) else (if (decide (a.2.2.2 ≤ (Ag (0 - a.2.2.1)))) = true then (Ed b.2.1 c.2.1).bind fun d =>
 some (d,1) else (FG (Ag ((Ag ((Ag (a.1.1 * a.2.1.2)) - (Ag (a.1.2 * a.2.1.1)))) * (Ag ((Ag (a.1.1 * a.2.1.2)) - (Ag (a.1.2 * a.2.1.1)))))) a.2.2.2).bind fun e =>
 some e))
def IA (c:Ae3) (d:Ae3) (a:Int):Af Bool :=
 (Ie c d).bind fun b =>
 some (decide ((Ag ((Ag (a * a)) * b.2)) ≤ b.1))
def Dy (u8:(List Ae3)) (a:Int) (d:Int) (e:(Ae6 → Int → Af Ae6)):Nat → Ae6 → Int → Af Ae6
 | 0,_,_=>none
 | m + 1,c,b=>(if (decide (b < (u8.length:Int))) = true then Bk (fun (g:Ae6)=>(Dy u8 a d e m) (g) ((Ag (b + 1)))) (fun f=>(AM u8 a).bind fun h =>
 (AM u8 b).bind fun i =>
 (IA h i d).bind fun j =>
 (if (!j) = true then (Ck c [[a,b]]).bind fun k =>
 f (k) else f (c))) else e (c) ((Ag (a + 1))))
def Dz (u8:(List Ae3)) (b:Int):Nat → Ae6 → Int → Af Ae6
 | 0,_,_=>none
 | m + 1,c,a=>(if (decide (a < (u8.length:Int))) = true then Dy u8 a b (Dz u8 b m) FU (c) ((Ag (a + 1))) else some c)
def GV (a:(Ae1 × Ae1 × Int × (List Int))) (b:Int):Af Ae6 :=
 (H1 a).bind fun u8 =>
 Dz u8 b FU ([]) (0)
def GW (a:(Ae1 × Ae1 × Int × (List Int))) (b:Int):Af (Ae6 × Bool) :=
 Bk (fun (d:Bool)=>(if d = true then some ([],false) else (GV a b).bind fun e =>
 some (e,true))) (fun c=>(Fp a).bind fun f =>
 (if (!f) = true then c (true) else (I0 b).bind fun g =>
 c ((!g))))
def CE (a:(Ae6 × Bool)):Nat → (List (List Ai)) → Int → Af (List Ai)
 | 0,_,_=>none
 | m + 1,c,b=>(if (decide (b < (a.1.length:Int))) = true then Bk (fun (e:(List (List Ai)))=>(CE a m) (e) ((Ag (b + 1)))) (fun f=>(AM a.1 b).bind fun d =>
 (AM d 0).bind fun g =>
 (AM d 1).bind fun h =>
 (CY g).bind fun i =>
 (Ck i [45]).bind fun j =>
 (CY h).bind fun k =>
 (Ck j k).bind fun l =>
 (Ck c [l]).bind fun n =>
 f (n)) else (Iv c [32]).bind fun o =>
 some o)
def GI (b:(Ae1 × Ae1 × Int × Ae1 × Ae2 × Ae4)) (d:Int):Af (List Ai) :=
 W7 (fun (e:Ae1) (f:Ae1) (g:Int) (h:(List Int))=>(GW (e,f,g,h) d).bind fun c =>
 (if (!c.2) = true then some ([110,111]) else (if ((c.1.length:Int) == 0) = true then some ([110,111,110,101]) else CE c FU ([]) (0)))) (fun i=>(EQ b.2.1 b.1 b.2.2.1).bind fun a =>
 i (a.1.1) (a.1.2.1) (a.1.2.2.1) (a.1.2.2.2))
def J6 (a:(Ae1 × Ae1 × Int × (List Int))):Af Bool :=
 Bk (fun (c:Bool)=>some c) (fun b=>(Fp a).bind fun d =>
 (if d = true then (if (decide (a.2.2.1 ≤ 16)) = true then b ((decide ((a.1.length:Int) ≤ 6))) else b (false)) else b (false)))
def FO (a:Ae3) (b:Int):Af (Int × Int) :=
 some ((Ag ((Ag (a.1.1 * a.2.2)) + (Ag (b * (Ag (a.2.1.1 - a.1.1)))))),(Ag ((Ag (a.1.2 * a.2.2)) + (Ag (b * (Ag (a.2.1.2 - a.1.2)))))))
def Gd (a:Ae3) (b:Int) (c:Int):Af (Int × Int) :=
 (FO a (Fn (Fx (Ag (c - b)) 0) a.2.2)).bind fun u8 =>
 some u8
def JS (a:Int) (b:Int):Af (Int × Int) :=
 some ((Bh ((Bh ((Bh ((Bq .u64 a 32) * (Bq .u64 b 32))) + (Bq .u64 (Bh ((Bh ((Bq .u64 a 32) * (B5 .u64 b 4294967295))) + (Bq .u64 (Bh ((B5 .u64 a 4294967295) * (B5 .u64 b 4294967295))) 32))) 32))) + (Bq .u64 (Bh ((B5 .u64 (Bh ((Bh ((Bq .u64 a 32) * (B5 .u64 b 4294967295))) + (Bq .u64 (Bh ((B5 .u64 a 4294967295) * (B5 .u64 b 4294967295))) 32))) 4294967295) + (Bh ((B5 .u64 a 4294967295) * (Bq .u64 b 32))))) 32))),(Bh (a * b)))
def Fo (d:Int) (e:Int) (f:Int) (g:Int):Af Bool :=
 (JS (Bh d) (Bh g)).bind fun a =>
 (JS (Bh f) (Bh e)).bind fun b =>
 Bk (fun (h:Bool)=>some h) (fun c=>(if (decide (a.1 < b.1)) = true then c (true) else (if (a.1 == b.1) = true then c ((decide (a.2 < b.2))) else c (false))))
def C2 (e:Ae3) (g:Int) (h:Int) (k:Ae3):Nat → Int → Int → Int → Int → Int → Af (Int × Int)
 | 0,_,_,_,_,_=>none
 | m + 1,c,d,i,j,f=>(if (decide (f ≤ (Ag (e.2.2 + (Fx g h))))) = true then (Gd e g f).bind fun a =>
 (Gd k h f).bind fun b =>
 Gk (fun (l:Int) (n:Int)=>Gk (fun (s:Int) (t:Int)=>(C2 e g h k m) ((Ag (a.1 - b.1))) ((Ag (a.2 - b.2))) (s) (t) ((Ag (f + 1)))) (fun o=>(Fo l n i j).bind fun u =>
 (if u = true then o (l) (n) else o (i) (j)))) (fun p=>Bk (fun (v:Bool)=>(if v = true then p ((Ag ((Ag ((Ag (c * (Ag ((Ag (a.2 - b.2)) - d)))) - (Ag (d * (Ag ((Ag (a.1 - b.1)) - c)))))) * (Ag ((Ag (c * (Ag ((Ag (a.2 - b.2)) - d)))) - (Ag (d * (Ag ((Ag (a.1 - b.1)) - c))))))))) ((Ag ((Ag ((Ag ((Ag (a.1 - b.1)) - c)) * (Ag ((Ag (a.1 - b.1)) - c)))) + (Ag ((Ag ((Ag (a.2 - b.2)) - d)) * (Ag ((Ag (a.2 - b.2)) - d))))))) else p ((Ag ((Ag ((Ag (a.1 - b.1)) * (Ag (a.1 - b.1)))) + (Ag ((Ag (a.2 - b.2)) * (Ag (a.2 - b.2))))))) (1))) (fun q=>(if (decide ((Ag ((Ag (c * (Ag ((Ag (a.1 - b.1)) - c)))) + (Ag (d * (Ag ((Ag (a.2 - b.2)) - d)))))) < 0)) = true then q ((decide ((Ag (0 - (Ag ((Ag (c * (Ag ((Ag (a.1 - b.1)) - c)))) + (Ag (d * (Ag ((Ag (a.2 - b.2)) - d)))))))) < (Ag ((Ag ((Ag ((Ag (a.1 - b.1)) - c)) * (Ag ((Ag (a.1 - b.1)) - c)))) + (Ag ((Ag ((Ag (a.2 - b.2)) - d)) * (Ag ((Ag (a.2 - b.2)) - d))))))))) else q (false)))) else (FG i j).bind fun r =>
 (FG r.1 (Ag ((Ag (r.2 * e.2.2)) * e.2.2))).bind fun w =>
 some w)
def Gf (c:Ae3) (d:Ae3) (e:Int) (f:Int):Af (Int × Int) :=
 (FO c 0).bind fun a =>
 (FO d 0).bind fun b =>
 C2 c e f d FU ((Ag (a.1 - b.1))) ((Ag (a.2 - b.2))) ((Ag ((Ag ((Ag (a.1 - b.1)) * (Ag (a.1 - b.1)))) + (Ag ((Ag (a.2 - b.2)) * (Ag (a.2 - b.2))))))) (1) (1)
def Gg (c:Ae3) (d:Ae3) (e:Int) (f:Int) (a:Int):Af Bool :=
 (Gf c d e f).bind fun b =>
 some (decide (b.1 < (Ag ((Ag (a * a)) * b.2))))
def D6 (u8:(List Ae3)) (a:Int) (c:(List Int)) (e:Int) (f:(Ae6 → Int → Af Ae6)):Nat → Ae6 → Int → Af Ae6
 | 0,_,_=>none
 | m + 1,d,b=>(if (decide (b < (u8.length:Int))) = true then Bk (fun (h:Ae6)=>(D6 u8 a c e f m) (h) ((Ag (b + 1)))) (fun g=>(AM u8 a).bind fun i =>
 (AM u8 b).bind fun j =>
 (AM c a).bind fun k =>
 (AM c b).bind fun l =>
 (Gg i j k l e).bind fun n =>
 (if n = true then (Ck d [[a,b]]).bind fun o =>
 g (o) else g (d))) else f (d) ((Ag (a + 1))))
def D7 (u8:(List Ae3)) (b:(List Int)) (c:Int):Nat → Ae6 → Int → Af Ae6
 | 0,_,_=>none
 | m + 1,d,a=>(if (decide (a < (u8.length:Int))) = true then D6 u8 a b c (D7 u8 b c m) FU (d) ((Ag (a + 1))) else some d)
def Hr (a:(Ae1 × Ae1 × Int × (List Int))) (b:(List Int)) (c:Int):Af Ae6 :=
 (H1 a).bind fun u8 =>
 D7 u8 b c FU ([]) (0)
def Ge (a:(Ae1 × Ae1 × Int × (List Int))) (b:Int):Af Bool :=
 (RY (a.1.length:Int) 0).bind fun c =>
 (Hr a c b).bind fun d =>
 some ((d.length:Int) == 0)
def Ic (b:(Ae1 × Ae1 × Int × (List Int))) (c:Int) (d:Int):Af (Ae1 × Ae1 × Int × (List Int)) :=
 (EI b.1 b.2.1 b.2.2.1 b.2.2.2).bind fun a =>
 Bk (fun (f:(List Int))=>some (a.1,a.2.1,a.2.2.1,f)) (fun g=>(AM a.2.2.2 d).bind fun e =>
 (AM a.2.2.2 c).bind fun h =>
 (AM a.2.2.2 c).bind fun i =>
 (AM (BG a.2.2.2 c e) d).bind fun j =>
 g ((BG (BG a.2.2.2 c e) d h)))
def Ee (c:(Ae1 × Ae1 × Int × (List Int))) (a:Int) (d:Int) (e:(Int → Af (Int × Int × Bool))):Nat → Int → Af (Int × Int × Bool)
 | 0,_=>none
 | m + 1,b=>(if (decide (b < (c.1.length:Int))) = true then (Ic c a b).bind fun f =>
 (Ge f d).bind fun g =>
 (if g = true then some (a,b,true) else (Ee c a d e m) ((Ag (b + 1)))) else e ((Ag (a + 1))))
def Dm (a:(Ae1 × Ae1 × Int × (List Int))) (c:Int):Nat → Int → Af (Int × Int × Bool)
 | 0,_=>none
 | m + 1,b=>(if (decide (b < (a.1.length:Int))) = true then Ee a b c (Dm a c m) FU ((Ag (b + 1))) else some (0,0,false))
def Id (a:(Ae1 × Ae1 × Int × (List Int))) (b:Int):Af (Int × Int × Bool) :=
 Dm a b FU (0)
def CH (a:(List Int)) (b:Int) (rec:(Ae5 → (List Int) → Int → Af Ae5)) (g:Int) (e:(Ae5 → Af Ae5)):Nat → Ae5 → Bool → Int → Af Ae5
 | 0,_,_,_=>none
 | m + 1,d,h,c=>(if (decide (c < (a.length:Int))) = true then Gk (fun (j:Ae5) (k:Bool)=>(CH a b rec g e m) (j) (k) ((Ag (c + 1)))) (fun i=>(AM a c).bind fun f =>
 (if h = true then (if (decide (0 ≤ c) && decide (c < 6)) = true then (if (decide (0 ≤ (a.length:Int)) && decide ((a.length:Int) < 6)) = true then (if (decide (0 ≤ f) && decide (f < 5)) = true then (if (decide (0 ≤ b) && decide (b < 5)) = true then (d.1[c.toNat * 150 + (a.length:Int).toNat * 25 + f.toNat * 5 + b.toNat * 1]?).bind fun l =>
 i (d) ((!l)) else none) else none) else none) else none) else i (d) (false))) else (if h = true then (Ft a).bind fun n =>
 (Ck n [b]).bind fun o =>
 (rec d o (Ag (g + b))).bind fun p =>
 e (p) else e (d)))
def Ct (b:(List Int)) (rec:(Ae5 → (List Int) → Int → Af Ae5)) (c:Int):Nat → Ae5 → Int → Af Ae5
 | 0,_,_=>none
 | m + 1,d,a=>(if (decide (a ≤ 4)) = true then Bk (fun (e:Ae5)=>(Ct b rec c m) (e) ((Ag (a + 1)))) (fun f=>CH b a rec c f FU (d) (true) (0)) else some d)
def EL (rec:Ae5 → (List Int) → Int → Af Ae5) (b:Ae5) (c:(List Int)) (d:Int):Af Ae5 :=
 Gk (fun (a:Ae5) (g:Bool)=>(if g = true then some a else (if ((c.length:Int) == a.2.1) = true then (Ft c).bind fun e =>
 (if (List.isEmpty e) = true then none else some (a.1,a.2.1,e,d)) else Ct c rec d FU (a) (0)))) (fun f=>(if (!(List.isEmpty b.2.2.1)) = true then f (b) ((decide (b.2.2.2 ≤ d))) else f (b) (false)))
def Cl:Nat → Ae5 → (List Int) → Int → Af Ae5
 | 0,_,_,_=>none
 | m + 1,a,b,c=>EL (Cl m) a b c
def GU (a:Ae5) (b:(List Int)) (c:Int):Af Ae5 :=
 Cl FU a b c
def DL (u8:(List Ae3)) (c:Int) (d:Int) (a:Int) (f:Int) (g:(Ae5 → Int → Af Ae7)):Nat → Ae5 → Int → Af Ae7
 | 0,_,_=>none
 | m + 1,e,b=>(if (decide (b ≤ 4)) = true then Bk (fun (h:Ae5)=>(DL u8 c d a f g m) (h) ((Ag (b + 1)))) (fun i=>(AM u8 c).bind fun j =>
 (AM u8 d).bind fun k =>
 (if (decide (0 ≤ c) && decide (c < 6)) = true then (if (decide (0 ≤ d) && decide (d < 6)) = true then (if (decide (0 ≤ a) && decide (a < 5)) = true then (Gg j k a b f).bind fun l =>
 (if (decide (0 ≤ b) && decide (b < 5)) = true then (NM e.1 (c.toNat * 150 + d.toNat * 25 + a.toNat * 5 + b.toNat * 1) l).bind fun n =>
 i ((n,e.2.1,e.2.2.1,e.2.2.2)) else none) else none) else none) else none)) else g (e) ((Ag (a + 1))))
def DM (u8:(List Ae3)) (b:Int) (a:Int) (c:Int) (d:(Ae5 → Int → Af Ae7)):Nat → Ae5 → Int → Af Ae7
 | 0,_,_=>none
 | m + 1,e,f=>(if (decide (f ≤ 4)) = true then DL u8 b a f c (DM u8 b a c d m) FU (e) (0) else d (e) ((Ag (a + 1))))
def DN (u8:(List Ae3)) (a:Int) (b:Int) (c:(Ae5 → Int → Af Ae7)):Nat → Ae5 → Int → Af Ae7
 | 0,_,_=>none
 | m + 1,d,e=>(if (decide (e < (u8.length:Int))) = true then DM u8 a e b (DN u8 a b c m) FU (d) (0) else c (d) ((Ag (a + 1))))
def DO (u8:(List Ae3)) (b:Int):Nat → Ae5 → Int → Af Ae7
 | 0,_,_=>none
 | m + 1,c,a=>(if (decide (a < (u8.length:Int))) = true then DN u8 a b (DO u8 b m) FU (c) ((Ag (a + 1))) else (GU c [] 0).bind fun d =>
 some (d.2.2.1,d.2.2.2))
def HF (a:(Ae1 × Ae1 × Int × (List Int))) (b:Int):Af Ae7 :=
 (H1 a).bind fun u8 =>
 DO u8 b FU (((List.replicate 900 false),(u8.length:Int),[],0)) (0)
def Ih (a:(Ae1 × Ae1 × Int × (List Int))) (b:Int):Af (Int × Bool) :=
 Bk (fun (d:Bool)=>(if d = true then some (0,false) else (Ge a b).bind fun e =>
 (if e = true then some (0,true) else (Id a b).bind fun f =>
 (if f.2.2 = true then some (1,true) else (HF a b).bind fun g =>
 (if (!(List.isEmpty g.1)) = true then some (2,true) else some (3,true)))))) (fun c=>(J6 a).bind fun h =>
 (if (!h) = true then c (true) else (I0 b).bind fun i =>
 c ((!i))))
def Ds (a:Ae1) (b:Int) (f:(Int → Int → Int → Af (Int × Int))):Nat → Int → Int → Int → Af (Int × Int)
 | 0,_,_,_=>none
 | m + 1,d,e,c=>(if (decide (c < (a.length:Int))) = true then Gk (fun (h:Int) (i:Int)=>(Ds a b f m) (h) (i) ((Ag (c + 1)))) (fun g=>(AM a b).bind fun j =>
 (AM a c).bind fun k =>
 (AM a d).bind fun l =>
 (AM a e).bind fun n =>
 (Ed j k).bind fun o =>
 (Ed l n).bind fun p =>
 (if (decide (o < p)) = true then g (b) (c) else g (d) (e))) else f (d) (e) ((Ag (b + 1))))
def DQ (a:Ae1):Nat → Int → Int → Int → Af (Int × Int)
 | 0,_,_,_=>none
 | m + 1,c,d,b=>(if (decide (b < (a.length:Int))) = true then Ds a b (DQ a m) FU (c) (d) ((Ag (b + 1))) else some (c,d))
def HH (a:Ae1):Af (Int × Int) :=
 DQ a FU (0) (1) (0)
def EB (a:Ae1):Af (Int × Bool) :=
 Bk (fun (d:Bool)=>(if d = true then some (0,false) else (HH a).bind fun b =>
 (AM a b.1).bind fun e =>
 (AM a b.2).bind fun f =>
 (Ed e f).bind fun g =>
 some (g,true))) (fun c=>(DZ a).bind fun h =>
 (if (!h) = true then c (true) else c ((decide ((a.length:Int) < 2)))))
def Hz (a:Int):Af (List Ai) :=
 (CY (Ag (Int.tdiv a 8))).bind fun b =>
 Bk (fun (d:(List Ai))=>some d) (fun c=>(if (decide (0 < (Int.tmod a 8))) = true then (CY (Int.tmod a 8)).bind fun e =>
 (Ck [43] e).bind fun f =>
 (Ck b f).bind fun g =>
 c (g) else c (b)))
def Jy (a:(Int × Int)):Af ((List Ai) × Bool) :=
 (Gr a).bind fun b =>
 (if (!b) = true then some ([],false) else (Hz a.1).bind fun c =>
 (Ck c [44]).bind fun d =>
 (Hz a.2).bind fun e =>
 (Ck d e).bind fun f =>
 some (f,true))
def DF (b:Int):Nat → Int → Af Int
 | 0,_=>none
 | m + 1,a=>(if (decide ((Ag ((Ag ((Ag (4800 * a)) * 4800)) * a)) < (Ag (1000000 * b)))) = true then (DF b m) ((Ag (a + 1))) else some a)
def Kc (a:(Int × Int)) (b:(Int × Int)):Af Int :=
 (Ed a b).bind fun c =>
 DF c FU (0)
def Gy (a:(Int × Int)) (b:(Int × Int)):Af (Int × Bool) :=
 Bk (fun (d:Bool)=>(if d = true then some (0,false) else (Kc a b).bind fun e =>
 some (e,true))) (fun c=>(Gr a).bind fun f =>
 (if (!f) = true then c (true) else (Gr b).bind fun g =>
 c ((!g))))
def EA (a:Ae1):Nat → Int → Int → Af Int
 | 0,_,_=>none
 | m + 1,c,b=>(if (decide (b < (a.length:Int))) = true then (AM a b).bind fun d =>
 (EA a m) ((Ag (c + d.1))) ((Ag (b + 1))) else some c)
def Jx (a:Ae1):Af Int :=
 EA a FU (0) (0)
def Gx (b:Ae1):Nat → Int → Int → Int → Af Int
 | 0,_,_,_=>none
 | m + 1,c,d,e=>(if (decide (e < (b.length:Int))) = true then (AM b e).bind fun a =>
 (if (decide (c < a.1)) = true then (if a.2 = 0 then none else some (Ag (d + (Ag (Int.tdiv (Ag (60000 * c)) a.2))))) else (if a.2 = 0 then none else (Gx b m) ((Ag (c - a.1))) ((Ag (d + (Ag (Int.tdiv (Ag (60000 * a.1)) a.2))))) ((Ag (e + 1))))) else some d)
def Jh (a:Ae1) (b:Int):Af Int :=
 Gx a FU (b) (0) (0)
def Kr (a:Ae1) (b:Int):Af (Int × Bool) :=
 Bk (fun (d:Bool)=>(if d = true then some (0,false) else (Jh a b).bind fun e =>
 some (e,true))) (fun c=>(I1 a).bind fun f =>
 (if (!f) = true then c (true) else (Jx a).bind fun g =>
 (BW b 0 g).bind fun h =>
 c ((!h))))
def Ew (b:Ae2) (f:Int) (c:Int):Nat → Int → Af (Int × Bool)
 | 0,_=>none
 | m + 1,d=>(if (decide (d < (b.length:Int))) = true then (AM b d).bind fun a =>
 Bk (fun (g:Bool)=>(if g = true then some (a.1,true) else (Ew b f c m) ((Ag (d + 1))))) (fun e=>(if (a.2.1 == f) = true then (if (decide (a.2.2.1 ≤ c)) = true then e ((decide (c < a.2.2.2))) else e (false)) else e (false))) else some (0,false))
def IF (b:Ae2) (c:Int) (d:Int):Af (Int × Bool) :=
 Bk (fun (e:Bool)=>(if e = true then some (0,false) else Ew b c d FU (0))) (fun a=>(FT b).bind fun f =>
 (if (!f) = true then a (true) else (BW c 1 9).bind fun g =>
 (if (!g) = true then a (true) else (BW d 0 999).bind fun u64 =>
 a ((!u64)))))
def DP (a:(List Int)) (b:Ae4):Nat → Int → Af Bool
 | 0,_=>none
 | m + 1,c=>(if (decide (c < (a.length:Int))) = true then (AM a c).bind fun d =>
 (BW d 0 (Ag ((b.length:Int) - 1))).bind fun e =>
 (if (!e) = true then some false else (DP a b m) ((Ag (c + 1)))) else (FH b).bind fun f =>
 some f)
def HG (a:Ae4) (b:(List Int)):Af Bool :=
 DP b a FU (0)
def CS  : Nat → (List Int) → Int → Int → Af (List Int)
 | 0,_,_,_=>none
 | m + 1,a,b,c=>(if (decide (b < c)) = true then Bk (fun (e:(List Int))=>(CS m) (e) ((Ag (b + 1))) ((Ag (c - 1)))) (fun f=>(AM a c).bind fun d =>
 (AM a b).bind fun g =>
 (AM a b).bind fun h =>
 (AM (BG a b d) c).bind fun i =>
 f ((BG (BG a b d) c g))) else some a)
def En (a:(List Int)):Af (List Int) :=
 CS FU (a) (0) ((Ag ((a.length:Int) - 1)))
def E5 (b:Ae4):Nat → Int → (List Int) → Af (List Int)
 | 0,_,_=>none
 | m + 1,a,c=>(if (decide (0 ≤ a)) = true then (Ck c [a]).bind fun d =>
 (AM b a).bind fun e =>
 (E5 b m) (e.1) (d) else (En c).bind fun f =>
 some f)
def KX (a:Ae4) (b:Int):Af (List Int) :=
 E5 a FU (b) ([])
def Dl (a:(List Int)) (b:Ae4):Nat → (List Int) → Int → Af (List Int)
 | 0,_,_=>none
 | m + 1,c,d=>(if (decide (d < (a.length:Int))) = true then (AM a d).bind fun e =>
 (AM b e).bind fun f =>
 (AM b e).bind fun g =>
 (AM c f.2.1).bind fun h =>
 (Dl a b m) ((BG c f.2.1 g.2.2)) ((Ag (d + 1))) else some c)
def Fh (a:Ae4) (b:Int):Nat → (List Int) → Int → Af (List Int)
 | 0,_,_=>none
 | m + 1,c,d=>(if (decide (d < 8)) = true then (Ck c [(-1)]).bind fun e =>
 (Fh a b m) (e) ((Ag (d + 1))) else (KX a b).bind fun f =>
 Dl f a FU (c) (0))
def JN (a:Ae4) (b:Int):Af (List Int) :=
 Fh a b FU ([]) (0)
def JR (a:Ae4) (b:Int):Af ((List Int) × Bool) :=
 (HG a [b]).bind fun c =>
 (if (!c) = true then some ([],false) else (JN a b).bind fun d =>
 some (d,true))
def Cv (a:((List Int) × Bool)):Nat → (List (List Ai)) → Int → Af (List Ai)
 | 0,_,_=>none
 | m + 1,b,c=>(if (decide (c < (a.1.length:Int))) = true then Bk (fun (f:(List (List Ai)))=>(Cv a m) (f) ((Ag (c + 1)))) (fun d=>(AM a.1 c).bind fun e =>
 (if (decide (e < 0)) = true then (Ck b [[45]]).bind fun g =>
 d (g) else (CY e).bind fun h =>
 (Ck b [h]).bind fun i =>
 d (i))) else (Iv b [32]).bind fun j =>
 some j)
def Fw (b:(Ae1 × Ae1 × Int × Ae1 × Ae2 × Ae4)) (c:Int):Af (List Ai) :=
 (JR b.2.2.2.2.2 c).bind fun a =>
 (if (!a.2) = true then some ([110,111]) else Cv a FU ([]) (0))
def Ca (a:(Ae1 × Ae1 × Int × Ae1 × Ae2 × Ae4)) (c:(List Ai)) (b:(List Int)):Af (List Ai) :=
 (if (c == [115,117,109]) = true then W7 (fun (l:Ae1) (m:Ae1) (n:Int) (o:(List Int))=>(H3 (l,m,n,o)).bind fun f =>
 (Fr f.1 f.2).bind fun p =>
 some p) (fun q=>(Gp a.2.1 a.1 a.2.2.1).bind fun d =>
 q (d.1.1) (d.1.2.1) (d.1.2.2.1) (d.1.2.2.2)) else (if (c == [99,108,111,115,101]) = true then (AM b 0).bind fun r =>
 (GI a r).bind fun s =>
 some s else (if (c == [107,105,110,100]) = true then W7 (fun (t:Ae1) (u:Ae1) (v:Int) (w:(List Int))=>(AM b 0).bind fun x =>
 (Ih (t,u,v,w) x).bind fun g =>
 (Fr g.1 g.2).bind fun y =>
 some y) (fun z=>(EQ a.2.1 a.1 a.2.2.1).bind fun e =>
 z (e.1.1) (e.1.2.1) (e.1.2.2.1) (e.1.2.2.2)) else (if (c == [108,101,97,115,116]) = true then (EB a.1).bind fun h =>
 (Fr h.1 h.2).bind fun aa =>
 some aa else (if (c == [116,101,120,116]) = true then (AM b 0).bind fun ab =>
 (if (decide ((a.1.length:Int) ≤ ab)) = true then some ([110,111]) else (AM b 0).bind fun ac =>
 (AM a.1 ac).bind fun ad =>
 (Jy ad).bind fun ae =>
 some ae.1) else (if (c == [115,111,117,110,100]) = true then (AM b 0).bind fun af =>
 (AM b 1).bind fun ag =>
 (if (decide ((a.1.length:Int) ≤ (Fx af ag))) = true then some ([110,111]) else (AM b 0).bind fun ah =>
 (AM a.1 ah).bind fun ai =>
 (AM b 1).bind fun aj =>
 (AM a.1 aj).bind fun ak =>
 (Gy ai ak).bind fun i =>
 (Fr i.1 i.2).bind fun al =>
 some al) else (if (c == [116,105,109,101]) = true then (AM b 0).bind fun am =>
 (Kr a.2.2.2.1 am).bind fun j =>
 (Fr j.1 j.2).bind fun an =>
 some an else (if (c == [119,104,111]) = true then (AM b 0).bind fun ao =>
 (AM b 1).bind fun ap =>
 (IF a.2.2.2.2.1 ao ap).bind fun k =>
 (if (!k.2) = true then some ([110,111,110,101]) else (CY k.1).bind fun aq =>
 some aq) else (AM b 0).bind fun ar =>
 (Fw a ar).bind fun au =>
 some au))))))))
def BS (e:(List (List Ai))) (b:(Ae1 × Ae1 × Int × Ae1 × Ae2 × Ae4)) (a:(List Ai)):Nat → (List Int) → Int → Af ((List Ai) × (Ae1 × Ae1 × Int × Ae1 × Ae2 × Ae4))
 | 0,_,_=>none
 | m + 1,c,f=>(if (decide (f < (e.length:Int))) = true then (AM e f).bind fun l =>
 (JO l).bind fun g =>
 Bk (fun (n:Bool)=>(if n = true then some ([119,104,97,116],b) else (Ck c [g.1]).bind fun o =>
 (BS e b a m) (o) ((Ag (f + 1))))) (fun i=>(if (!g.2) = true then i (true) else i ((decide (99999 < g.1))))) else (Jw a).bind fun p =>
 (if ((c.length:Int) != p) = true then some ([119,104,97,116],b) else Bk (fun (q:Bool)=>(if q = true then (BI b a c).bind fun j =>
 some (j.1,j.2) else Bk (fun (r:Bool)=>(if r = true then (CG b a c).bind fun k =>
 some (k.1,k.2) else (Ca b a c).bind fun s =>
 some (s,b))) (fun h=>(if (a == [109,101,97,115,117,114,101]) = true then h ((a == [109,101,97,115,117,114,101])) else (if (a == [99,97,114,114,121]) = true then h ((a == [99,97,114,114,121])) else h ((a == [118,101,114,115,105,111,110]))))))) (fun d=>(if (a == [115,112,111,116]) = true then d ((a == [115,112,111,116])) else (if (a == [112,108,97,99,101]) = true then d ((a == [112,108,97,99,101])) else (if (a == [109,105,114,114,111,114]) = true then d ((a == [109,105,114,114,111,114])) else (if (a == [107,101,101,112]) = true then d ((a == [107,101,101,112])) else d ((a == [99,111,117,110,116,115])))))))))
def Dv (b:(Ae1 × Ae1 × Int × Ae1 × Ae2 × Ae4)) (c:(List Ai)):Af ((List Ai) × (Ae1 × Ae1 × Int × Ae1 × Ae2 × Ae4)) :=
 (FY c [32]).bind fun a =>
 (AM a 0).bind fun d =>
 (sl a 1 (a.length:Int)).bind fun e =>
 BS e b d FU ([]) (0)
def Eu (a:((List (List Ai)) × Bool)):Nat → (Ae1 × Ae1 × Int × Ae1 × Ae2 × Ae4) → (List (List Ai)) → Int → Af ((Bool × (Ae1 × Ae1 × Int × Ae1 × Ae2 × Ae4)) × (List (List Ai)) × Bool)
 | 0,_,_,_=>none
 | m + 1,c,d,b=>(if (decide (b < (a.1.length:Int))) = true then (AM a.1 b).bind fun f =>
 (Dv c f).bind fun e =>
 (Ck d [e.1]).bind fun g =>
 (Eu a m) (e.2) (g) ((Ag (b + 1))) else some ((true,c),d,true))
def ID (b:(List Ai)):Af ((Bool × (Ae1 × Ae1 × Int × Ae1 × Ae2 × Ae4)) × (List (List Ai)) × Bool) :=
 (HE b).bind fun a =>
 (if (!a.2) = true then some ((false,([],[],0,[],[],[])),[],false) else (KF ).bind fun c =>
 Eu a FU (c) ([]) (0))
def Eg (a:(List (List Ai))):Nat → (List Int) → Int → Af (List Ai)
 | 0,_,_=>none
 | m + 1,c,b=>(if (decide (b < (a.length:Int))) = true then (AM a b).bind fun d =>
 (Ck d [10]).bind fun e =>
 (XT c e).bind fun f =>
 (Eg a m) (f) ((Ag (b + 1))) else (Ut c).bind fun g =>
 some g)
def Jz (c:(List Ai)):Af (List Ai) :=
 Bk (fun (d:(List (List Ai)))=>Eg d FU ([]) (0)) (fun b=>(ID c).bind fun a =>
 (if a.1.1 = true then b (a.2.1) else b (a.2.1)))
def H9 (a:(List Ai)):Af Bool :=
 (if (decide (1048576 < (a.length:Int))) = true then some true else (Jv a).bind fun b =>
 (Jz a).bind fun c =>
 (if (c != b) = true then some false else some true))
end Go.Proofs.YtellehgihceicaaGreatDoor
