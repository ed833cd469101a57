/-
 THE FUNCTIONS of this seat as plain functions, by program (gen.py).
-/
import Derived.Test.YtellehgihceicaaGreatDoorCore20
import Derived.Test.YtellehgihceicaaGreatDoorLibF
set_option linter.unusedVariables false
set_option linter.unusedSimpArgs false
set_option maxRecDepth 100000
set_option maxHeartbeats 1600000
namespace Go.Proofs.YtellehgihceicaaGreatDoor
open Go
def M9 (x y:(Int × Int)):Bool:=(x.1 == y.1) && (x.2 == y.2)
def Lf  : Ag (Aed × Aed × Int × Aed × Aee × Aeg × (List Int) × (List Int) × Int) :=
 some ([(0,0)],[(0,0)],8,[(4,120)],[],[((-1),0,0)],[],[],0)
def Fc (a:(List Aj)) (e:Int):Nat → (List (List Aj)) → Int → Int → Ag (List (List Aj))
 | 0,_,_,_=>none
 | m + 1,c,d,b=>(if (decide (b < (a.length:Int))) = true then Fz (fun (g:(List (List Aj))) (h:Int)=>(Fc a e m) (g) (h) ((Af (b + 1)))) (fun f=>(AM a b).bind fun i =>
 (if ((UInt8.toNat i:Int) == e) = true then (sl a d b).bind fun j =>
 (Cl c [j]).bind fun k =>
 f (k) ((Af (b + 1))) else f (c) (d))) else (sl a d (a.length:Int)).bind fun l =>
 (Cl c [l]).bind fun n =>
 some n)
def FN (a:(List Aj)) (b:Int):Ag (List (List Aj)) :=
 Fc a b FU ([]) (0) (0)
def JF (a:(List Aj)):Ag ((List (List Aj)) × Bool) :=
 Bk (fun (e:Bool)=>(if e = true then some ([],false) else (FN a 10).bind fun c =>
 (sl c 0 (Af ((c.length:Int) - 1))).bind fun d =>
 (if (decide (40 < (d.length:Int))) = true then some ([],false) else some (d,true)))) (fun b=>(if (decide (2000 < (a.length:Int))) = true then b (true) else (if (a != []) = true then (AM a (Af ((a.length:Int) - 1))).bind fun f =>
 b (((UInt8.toNat f:Int) != 10)) else b (false))))
def G9 (a:(List Aj)):Ag Int :=
 Bk (fun (f:Bool)=>(if f = true then some 0 else Bk (fun (g:Bool)=>(if g = true then some 1 else Bk (fun (h:Bool)=>(if h = true then some 2 else Bk (fun (i:Bool)=>(if i = true then some 3 else (if (a == [99,97,114,114,121]) = true then some 4 else some (-1)))) (fun e=>(if (a == [112,108,97,99,101]) = true then e ((a == [112,108,97,99,101])) else e ((a == [118,101,114,115,105,111,110])))))) (fun c=>(if (a == [115,112,111,116]) = true then c ((a == [115,112,111,116])) else (if (a == [115,111,117,110,100]) = true then c ((a == [115,111,117,110,100])) else (if (a == [109,101,97,115,117,114,101]) = true then c ((a == [109,101,97,115,117,114,101])) else c ((a == [119,104,111])))))))) (fun b=>(if (a == [99,111,117,110,116,115]) = true then b ((a == [99,111,117,110,116,115])) else (if (a == [99,108,111,115,101]) = true then b ((a == [99,108,111,115,101])) else (if (a == [107,105,110,100]) = true then b ((a == [107,105,110,100])) else (if (a == [116,101,120,116]) = true then b ((a == [116,101,120,116])) else (if (a == [116,105,109,101]) = true then b ((a == [116,105,109,101])) else b ((a == [115,116,97,116,101])))))))))) (fun d=>(if (a == [109,105,114,114,111,114]) = true then d ((a == [109,105,114,114,111,114])) else (if (a == [107,101,101,112]) = true then d ((a == [107,101,101,112])) else (if (a == [115,117,109]) = true then d ((a == [115,117,109])) else d ((a == [108,101,97,115,116]))))))
def BO (a:Int) (c:Int) (d:Int):Ag Bool :=
 Bk (fun (e:Bool)=>some e) (fun b=>(if (decide (c ≤ a)) = true then b ((decide (a ≤ d))) else b (false)))
def FE (a:(List Aj)):Nat → Int → Int → Ag Int
 | 0,_,_=>none
 | m + 1,c,b=>(if (decide (b < (a.length:Int))) = true then Bk (fun (e:Bool)=>(if e = true then some (-1) else (AM a b).bind fun f =>
 (FE a m) ((Af ((Af (10 * c)) + (Af (Mt ((UInt8.toNat f:Int) - 48)))))) ((Af (b + 1))))) (fun d=>(AM a b).bind fun g =>
 (if (decide ((UInt8.toNat g:Int) < 48)) = true then d (true) else (AM a b).bind fun h =>
 d ((decide (57 < (UInt8.toNat h:Int)))))) else some c)
def Kk (a:(List Aj)):Ag Int :=
 Bk (fun (c:Bool)=>(if c = true then some (-1) else FE a FU (0) (0))) (fun b=>(BO (a.length:Int) 1 6).bind fun d =>
 (if (!d) = true then b (true) else (AM a 0).bind fun e =>
 (if ((UInt8.toNat e:Int) == 48) = true then b ((decide (1 < (a.length:Int)))) else b (false))))
def Gm (a:Aed):Ag Aed :=
 (Cl [] a).bind fun b =>
 some b
def HW (a:(Int × Int)):Ag Bool :=
 Bk (fun (c:Bool)=>some c) (fun b=>(BO a.1 0 1280).bind fun d =>
 (if d = true then (BO a.2 0 672).bind fun e =>
 b (e) else b (false)))
def FF (a:Aed) (c:(Int × Int)) (d:(Int → Ag Bool)) (e:Int):Nat → Int → Ag Bool
 | 0,_=>none
 | m + 1,b=>(if (decide (b < (a.length:Int))) = true then (AM a b).bind fun f =>
 (if (M9 c f) = true then some false else (FF a c d e m) ((Af (b + 1)))) else d ((Af (e + 1))))
def Ej (a:Aed):Nat → Int → Ag Bool
 | 0,_=>none
 | m + 1,b=>(if (decide (b < (a.length:Int))) = true then (AM a b).bind fun c =>
 (HW c).bind fun d =>
 (if (!d) = true then some false else (sl a 0 b).bind fun e =>
 FF e c (Ej a m) b FU (0)) else (BO (a.length:Int) 1 12).bind fun f =>
 some f)
def FK (a:Aed):Ag Bool :=
 Ej a FU (0)
def EH (a:(Aed × Aed × Int × Aed × Aee × Aeg × (List Int) × (List Int) × Int)) (d:Aed) (b:Bool):Ag (Bool × (Aed × Aed × Int × Aed × Aee × Aeg × (List Int) × (List Int) × Int)) :=
 Bk (fun (e:(Aed × Aed × Int × Aed × Aee × Aeg × (List Int) × (List Int) × Int))=>some (b,e)) (fun c=>(if b = true then c ((d,a.2.1,a.2.2.1,a.2.2.2.1,a.2.2.2.2.1,a.2.2.2.2.2.1,a.2.2.2.2.2.2.1,a.2.2.2.2.2.2.2.1,a.2.2.2.2.2.2.2.2)) else c (a)))
def Mn (a:Aed) (c:Int):Ag Bool :=
 Bk (fun (d:Bool)=>some d) (fun b=>(FK a).bind fun e =>
 (if e = true then (BO c 0 (Af ((a.length:Int) - 1))).bind fun f =>
 b (f) else b (false)))
def Hc (a:Aed):Ag (Aed × Bool) :=
 (FK a).bind fun b =>
 (if (!b) = true then some ([],false) else some (a,true))
def GC (b:Aed) (a:Int) (d:(Int × Int)):Ag (Aed × Bool) :=
 (Mn b a).bind fun e =>
 (if (!e) = true then some ([],false) else (Gm b).bind fun c =>
 (AM c a).bind fun g =>
 (Hc (BF c a d)).bind fun f =>
 some f)
def KC (a:(Int × Int)):Ag (Int × Int) :=
 some ((Af (1280 - a.1)),a.2)
def DL (a:Aed):Nat → Aed → Int → Ag (Aed × Bool)
 | 0,_,_=>none
 | m + 1,c,b=>(if (decide (b < (a.length:Int))) = true then (AM a b).bind fun d =>
 (KC d).bind fun e =>
 (Cl c [e]).bind fun f =>
 (DL a m) (f) ((Af (b + 1))) else some (c,true))
def HE (a:Aed):Ag (Aed × Bool) :=
 (FK a).bind fun b =>
 (if (!b) = true then some ([],false) else DL a FU ([]) (0))
def I8 (a:(Int × Int)):Ag Bool :=
 Bk (fun (c:Bool)=>some c) (fun b=>(BO a.1 1 12).bind fun d =>
 (if d = true then (BO a.2 40 220).bind fun e =>
 b (e) else b (false)))
def FD (a:Aed):Nat → Int → Ag Bool
 | 0,_=>none
 | m + 1,b=>(if (decide (b < (a.length:Int))) = true then (AM a b).bind fun c =>
 (I8 c).bind fun d =>
 (if (!d) = true then some false else (FD a m) ((Af (b + 1)))) else (BO (a.length:Int) 1 40).bind fun e =>
 some e)
def IZ (a:Aed):Ag Bool :=
 FD a FU (0)
def HR (a:(Int × Int × Int × Int)) (b:(Int × Int × Int × Int)):Ag Bool :=
 Bk (fun (d:Bool)=>some d) (fun c=>(if (decide (a.2.2.1 < b.2.2.1)) = true then c (true) else (if (a.2.2.1 == b.2.2.1) = true then c ((decide (a.2.1 < b.2.1))) else c (false))))
def Js (a:Int):Ag Bool :=
 (BO a 1 12).bind fun b =>
 some b
def Jd (a:Int):Ag Bool :=
 (BO a 1 9).bind fun b =>
 some b
def EJ (c:Aee) (a:(Int × Int × Int × Int)) (f:(Int → Ag Bool)) (g:Int):Nat → Int → Ag Bool
 | 0,_=>none
 | m + 1,d=>(if (decide (d < (c.length:Int))) = true then (AM c d).bind fun b =>
 Bk (fun (h:Bool)=>(if h = true then some false else (EJ c a f g m) ((Af (d + 1))))) (fun e=>(if (b.2.1 == a.2.1) = true then e ((decide (a.2.2.1 < b.2.2.2))) else (if (b.1 == a.1) = true then e ((decide (a.2.2.1 < b.2.2.2))) else e (false)))) else f ((Af (g + 1))))
def Dw (b:Aee):Nat → Int → Ag Bool
 | 0,_=>none
 | m + 1,c=>(if (decide (c < (b.length:Int))) = true then (AM b c).bind fun a =>
 Bk (fun (e:Bool)=>(if e = true then some false else (sl b 0 c).bind fun f =>
 EJ f a (Dw b m) c FU (0))) (fun d=>(Js a.1).bind fun g =>
 (if (!g) = true then d (true) else (Jd a.2.1).bind fun h =>
 (if (!h) = true then d (true) else (BO a.2.2.1 0 999).bind fun i =>
 (if (!i) = true then d (true) else (BO a.2.2.2 (Af (a.2.2.1 + 1)) 1000).bind fun j =>
 (if (!j) = true then d (true) else (if (decide (0 < c)) = true then (AM b (Af (c - 1))).bind fun k =>
 (HR k a).bind fun l =>
 d ((!l)) else d (false))))))) else some (decide ((b.length:Int) ≤ 40)))
def Je (a:Aee):Ag Bool :=
 Dw a FU (0)
def FG (a:Aee) (c:(Int × Int × Int × Int)) (d:(Aee → Ag (Aee × Bool))):Nat → Int → Ag (Aee × Bool)
 | 0,_=>none
 | m + 1,b=>Bk (fun (f:Bool)=>(if f = true then (FG a c d m) ((Af (b - 1))) else (sl a 0 b).bind fun u64 =>
 (sl a b (a.length:Int)).bind fun g =>
 (Cl [] u64).bind fun h =>
 (Cl h [c]).bind fun i =>
 (Cl i g).bind fun j =>
 d (j))) (fun e=>(if (decide (0 < b)) = true then (AM a (Af (b - 1))).bind fun k =>
 (HR c k).bind fun l =>
 e (l) else e (false)))
def EI (b:Aee):Nat → Aee → Int → Ag (Aee × Bool)
 | 0,_,_=>none
 | m + 1,a,c=>(if (decide (c < (b.length:Int))) = true then Bk (fun (d:Aee)=>(EI b m) (d) ((Af (c + 1)))) (fun e=>(AM b c).bind fun f =>
 FG a f e FU ((a.length:Int))) else (Je a).bind fun g =>
 (if (!g) = true then some ([],false) else some (a,true)))
def Jc (a:Aee):Ag (Aee × Bool) :=
 EI a FU ([]) (0)
def FB (d:Aeg):Nat → Int → Ag Bool
 | 0,_=>none
 | m + 1,c=>(if (decide (c < (d.length:Int))) = true then (AM d c).bind fun a =>
 Bk (fun (e:Bool)=>(if e = true then some false else (FB d m) ((Af (c + 1))))) (fun b=>(BO a.1 0 (Af (c - 1))).bind fun f =>
 (if (!f) = true then (if (decide (0 < c)) = true then b (true) else (if (a.1 != (-1)) = true then b (true) else (BO a.2.1 0 7).bind fun g =>
 (if (!g) = true then b (true) else (BO a.2.2 0 999).bind fun h =>
 b ((!h))))) else (BO a.2.1 0 7).bind fun i =>
 (if (!i) = true then b (true) else (BO a.2.2 0 999).bind fun j =>
 b ((!j))))) else (BO (d.length:Int) 1 60).bind fun k =>
 some k)
def HV (a:Aeg):Ag Bool :=
 FB a FU (0)
def Ic (a:Aeg) (d:(Int × Int × Int)):Ag (Aeg × Bool) :=
 Bk (fun (b:Aeg)=>Bk (fun (e:Bool)=>(if e = true then some ([],false) else some (b,true))) (fun c=>(HV a).bind fun f =>
 (if (!f) = true then c (true) else (HV b).bind fun g =>
 c ((!g))))) (fun h=>(Cl [] a).bind fun i =>
 (Cl i [d]).bind fun j =>
 h (j))
def C1 (a:(Aed × Aed × Int × Aed × Aee × Aeg × (List Int) × (List Int) × Int)) (f:(List Aj)) (b:(List Int)):Ag (Bool × (Aed × Aed × Int × Aed × Aee × Aeg × (List Int) × (List Int) × Int)) :=
 Fz (fun (s:(Aed × Aed × Int × Aed × Aee × Aeg × (List Int) × (List Int) × Int)) (t:Bool)=>some (t,s)) (fun c=>(if (f == [115,112,111,116]) = true then (AM b 0).bind fun u =>
 (AM b 1).bind fun v =>
 (Gm a.1).bind fun w =>
 (Cl w [(u,v)]).bind fun x =>
 (Hc x).bind fun k =>
 (EH a k.1 k.2).bind fun l =>
 c (l.2) (l.1) else (if (f == [112,108,97,99,101]) = true then (AM b 0).bind fun y =>
 (AM b 1).bind fun z =>
 (AM b 2).bind fun aa =>
 (GC a.1 y (z,aa)).bind fun m =>
 (EH a m.1 m.2).bind fun n =>
 c (n.2) (n.1) else (if (f == [109,105,114,114,111,114]) = true then (HE a.1).bind fun o =>
 (EH a o.1 o.2).bind fun p =>
 c (p.2) (p.1) else (if (f == [107,101,101,112]) = true then (Gm a.1).bind fun ab =>
 c ((a.1,ab,a.2.2.1,a.2.2.2.1,a.2.2.2.2.1,a.2.2.2.2.2.1,a.2.2.2.2.2.2.1,a.2.2.2.2.2.2.2.1,a.2.2.2.2.2.2.2.2)) (true) else (if (f == [99,111,117,110,116,115]) = true then (AM b 0).bind fun ac =>
 (BO ac 1 64).bind fun h =>
 (if h = true then (AM b 0).bind fun ad =>
 c ((a.1,a.2.1,ad,a.2.2.2.1,a.2.2.2.2.1,a.2.2.2.2.2.1,a.2.2.2.2.2.2.1,a.2.2.2.2.2.2.2.1,a.2.2.2.2.2.2.2.2)) (h) else c (a) (h)) else (if (f == [109,101,97,115,117,114,101]) = true then Fz (fun (d:(Aed × Aed × Int × Aed × Aee × Aeg × (List Int) × (List Int) × Int)) (q:Aed)=>(IZ q).bind fun i =>
 (if i = true then c ((d.1,d.2.1,d.2.2.1,q,d.2.2.2.2.1,d.2.2.2.2.2.1,d.2.2.2.2.2.2.1,d.2.2.2.2.2.2.2.1,d.2.2.2.2.2.2.2.2)) (i) else c (d) (i))) (fun ae=>(AM b 0).bind fun af =>
 (AM b 1).bind fun ag =>
 (Cl [] a.2.2.2.1).bind fun ah =>
 (Cl ah [(af,ag)]).bind fun ai =>
 ae (a) (ai)) else (if (f == [99,97,114,114,121]) = true then Wt (fun (e:(Aed × Aed × Int × Aed × Aee × Aeg × (List Int) × (List Int) × Int)) (aj:Aee) (j:Bool)=>(if j = true then c ((e.1,e.2.1,e.2.2.1,e.2.2.2.1,aj,e.2.2.2.2.2.1,e.2.2.2.2.2.2.1,e.2.2.2.2.2.2.2.1,e.2.2.2.2.2.2.2.2)) (j) else c (e) (j))) (fun ak=>(AM b 0).bind fun al =>
 (AM b 1).bind fun am =>
 (AM b 2).bind fun an =>
 (AM b 3).bind fun ao =>
 (Cl [] a.2.2.2.2.1).bind fun ap =>
 (Cl ap [(al,am,an,ao)]).bind fun aq =>
 (Jc aq).bind fun r =>
 ak (a) (r.1) (r.2)) else (if (f == [118,101,114,115,105,111,110]) = true then (AM b 0).bind fun ar =>
 (AM b 1).bind fun au =>
 (AM b 2).bind fun av =>
 (Ic a.2.2.2.2.2.1 (ar,au,av)).bind fun g =>
 (if g.2 = true then c ((a.1,a.2.1,a.2.2.1,a.2.2.2.1,a.2.2.2.2.1,g.1,a.2.2.2.2.2.2.1,a.2.2.2.2.2.2.2.1,a.2.2.2.2.2.2.2.2)) (g.2) else c (a) (g.2)) else c (a) (true))))))))))
def Ja (a:Bool):Ag (List Aj) :=
 (if (!a) = true then some ([110,111]) else some ([111,107]))
def Jb (b:Aed) (c:Aed):Ag Bool :=
 Bk (fun (d:Bool)=>some d) (fun a=>(FK b).bind fun e =>
 (if e = true then (FK c).bind fun f =>
 (if f = true then a (((b.length:Int) == (c.length:Int))) else a (false)) else a (false)))
def Iy (b:Aed) (c:Aed) (d:Int):Ag Bool :=
 Bk (fun (e:Bool)=>some e) (fun a=>(Jb b c).bind fun f =>
 (if f = true then (BO d 1 64).bind fun g =>
 a (g) else a (false)))
def GQ (a:(Int × Int)) (b:(Int × Int)):Ag Int :=
 some (Af ((Af ((Af (a.1 - b.1)) * (Af (a.1 - b.1)))) + (Af ((Af (a.2 - b.2)) * (Af (a.2 - b.2))))))
def Fh (a:Aed) (c:(Int × Int)) (d:Aei) (e:(Aei → Int → Ag Aei)) (f:Int):Nat → (List Int) → Int → Ag Aei
 | 0,_,_=>none
 | m + 1,g,b=>(if (decide (b < (a.length:Int))) = true then (AM a b).bind fun h =>
 (GQ c h).bind fun u64 =>
 (Cl g [u64]).bind fun i =>
 (Fh a c d e f m) (i) ((Af (b + 1))) else (Cl d [g]).bind fun j =>
 e (j) ((Af (f + 1))))
def Ew (a:Aed) (c:Aed):Nat → Aei → Int → Ag Aei
 | 0,_,_=>none
 | m + 1,d,b=>(if (decide (b < (a.length:Int))) = true then (AM a b).bind fun e =>
 Fh c e d (Ew a c m) b FU ([]) (0) else some d)
def JI (a:Aed) (b:Aed):Ag Aei :=
 Ew a b FU ([]) (0)
def EQ (a:Int) (b:Int):Ag Int :=
 (if (decide (a < b)) = true then some a else some b)
def D2 (d:(List Int)) (a:Int) (e:((List Int) → Int → Ag (List Int))):Nat → (List Int) → Int → Ag (List Int)
 | 0,_,_=>none
 | m + 1,b,c=>(if (decide (c < (d.length:Int))) = true then Bk (fun (g:(List Int))=>(D2 d a e m) (g) ((Af (c + 1)))) (fun f=>(AM d c).bind fun h =>
 (if (decide (0 ≤ (Bg c))) = true then (if ((B4 .i64 (Bq .i64 a (Bg c)) 1) == 1) = true then (AM b a).bind fun i =>
 (AM b (Sb .i64 a (Ky .i64 1 (Bg c)))).bind fun j =>
 (EQ i (Af (h + j))).bind fun k =>
 (AM b a).bind fun l =>
 f ((BF b a k)) else f (b)) else none)) else e (b) ((Af (a + 1))))
def Ev (b:Aei) (a:Int) (d:(List Int)) (e:((List Int) → Int → Ag (List Int))):Nat → Int → Int → Ag (List Int)
 | 0,_,_=>none
 | m + 1,f,c=>(if (decide (c < (b.length:Int))) = true then (if (decide (0 ≤ (Bg c))) = true then (Ev b a d e m) ((Af (f + (B4 .i64 (Bq .i64 a (Bg c)) 1)))) ((Af (c + 1))) else none) else (AM d a).bind fun h =>
 (AM b (Af ((b.length:Int) - f))).bind fun g =>
 D2 g a e FU ((BF d a 1000000000)) (0))
def EY (a:Aei):Nat → (List Int) → Int → Ag (List Int)
 | 0,_,_=>none
 | m + 1,b,c=>(if (decide (c < (Ky .i64 1 (Bg (a.length:Int))))) = true then Ev a c b (EY a m) FU (0) (0) else some b)
def JB (a:Aei):Ag (List Int) :=
 (if (decide (0 ≤ (Bg (a.length:Int)))) = true then (RR (Ky .i64 1 (Bg (a.length:Int))) 0).bind fun b =>
 EY a FU (b) (1) else none)
def EZ (d:(List Int)) (b:Int) (e:(List Int)) (g:(List Int)) (h:(Int → (List Int) → Int → Ag Aej)) (i:Int):Nat → Int → Int → Ag Aej
 | 0,_,_=>none
 | m + 1,c,a=>(if (decide (a < (d.length:Int))) = true then Bk (fun (k:Int)=>(EZ d b e g h i m) (k) ((Af (a + 1)))) (fun j=>(AM d a).bind fun l =>
 Bk (fun (n:Bool)=>(if n = true then j (a) else j (c))) (fun f=>(if (decide (c < 0)) = true then (if (decide (0 ≤ (Bg a))) = true then (if ((B4 .i64 (Bq .i64 b (Bg a)) 1) == 1) = true then (AM e b).bind fun o =>
 (AM e (Sb .i64 b (Ky .i64 1 (Bg a)))).bind fun p =>
 f (((Af (l + p)) == o)) else f (false)) else none) else f (false)))) else (Cl g [c]).bind fun q =>
 (if (decide (0 ≤ (Bg c))) = true then h ((Sb .i64 b (Ky .i64 1 (Bg c)))) (q) ((Af (i + 1))) else none))
def DU (b:Aei) (a:(List Int)):Nat → Int → (List Int) → Int → Ag Aej
 | 0,_,_,_=>none
 | m + 1,e,d,c=>(if (decide (c < (b.length:Int))) = true then (AM b c).bind fun f =>
 EZ f e a d (DU b a m) c FU ((-1)) (0) else (AM a (Af ((a.length:Int) - 1))).bind fun g =>
 some (d,g))
def JC (a:Aei):Ag Aej :=
 (JB a).bind fun b =>
 DU a b FU ((Af ((b.length:Int) - 1))) ([]) (0)
def JD (a:(List Int)):Ag (List Int) :=
 (Cl [] a).bind fun b =>
 some b
def HX (a:Aed) (b:Aed) (c:Int) (d:(List Int)):Ag (Aed × Aed × Int × (List Int)) :=
 (Gm a).bind fun u8 =>
 (Gm b).bind fun e =>
 (JD d).bind fun f =>
 some (u8,e,c,f)
def Gp (a:Aed) (b:Aed) (c:Int):Ag ((Aed × Aed × Int × (List Int)) × Bool) :=
 (Iy a b c).bind fun d =>
 (if (!d) = true then some (([],[],0,[]),false) else (JI a b).bind fun e =>
 (JC e).bind fun f =>
 (HX a b c f.1).bind fun g =>
 some (g,true))
def Ga (a:(List Int)) (c:Int):Nat → Int → Ag Bool
 | 0,_=>none
 | m + 1,b=>(if (decide (b < (a.length:Int))) = true then (AM a b).bind fun d =>
 (if (d == c) = true then some true else (Ga a c m) ((Af (b + 1)))) else some false)
def KU (a:(List Int)) (b:Int):Ag Bool :=
 Ga a b FU (0)
def EA (a:(List Int)) (c:Int):Nat → Int → Ag Bool
 | 0,_=>none
 | m + 1,b=>(if (decide (b < (a.length:Int))) = true then (AM a b).bind fun d =>
 Bk (fun (f:Bool)=>(if f = true then some false else (EA a c m) ((Af (b + 1))))) (fun e=>(BO d 0 (Af (c - 1))).bind fun g =>
 (if (!g) = true then e (true) else (sl a 0 b).bind fun h =>
 (KU h d).bind fun i =>
 e (i))) else some ((a.length:Int) == c))
def Jr (a:(List Int)) (b:Int):Ag Bool :=
 EA a b FU (0)
def HY (a:(Aed × Aed × Int × (List Int))):Ag Bool :=
 Bk (fun (c:Bool)=>some c) (fun b=>(Jb a.1 a.2.1).bind fun d =>
 (if d = true then (BO a.2.2.1 1 64).bind fun e =>
 (if e = true then (Jr a.2.2.2 (a.1.length:Int)).bind fun f =>
 b (f) else b (false)) else b (false)))
def Fg (a:(Aed × Aed × Int × (List Int))):Nat → (List Aef) → Int → Ag (List Aef)
 | 0,_,_=>none
 | m + 1,c,b=>(if (decide (b < (a.2.2.2.length:Int))) = true then (AM a.2.2.2 b).bind fun d =>
 (AM a.1 b).bind fun e =>
 (AM a.2.1 d).bind fun f =>
 (Cl c [(e,f,a.2.2.1)]).bind fun g =>
 (Fg a m) (g) ((Af (b + 1))) else some c)
def GB (a:(Aed × Aed × Int × (List Int))):Ag (List Aef) :=
 Fg a FU ([]) (0)
def Gc (a:(List Aef)):Nat → Int → Int → Ag Int
 | 0,_,_=>none
 | m + 1,c,b=>(if (decide (b < (a.length:Int))) = true then (AM a b).bind fun d =>
 (GQ d.1 d.2.1).bind fun e =>
 (Gc a m) ((Af (c + e))) ((Af (b + 1))) else some c)
def KW (a:(Aed × Aed × Int × (List Int))):Ag Int :=
 (GB a).bind fun b =>
 Gc b FU (0) (0)
def Hz (a:(Aed × Aed × Int × (List Int))):Ag (Int × Bool) :=
 (HY a).bind fun b =>
 (if (!b) = true then some (0,false) else (KW a).bind fun c =>
 some (c,true))
def FO:Nat → Int → Ag (List Aj)
 | 0,_=>none
 | m + 1,a=>(if (decide (a < 10)) = true then some (Kw [(Mt (Af (48 + a)))]) else Bk (fun (b:(List Aj))=>some b) (fun c=>(FO m (Af (Int.tdiv a 10))).bind fun d =>
 (Cl d (Kw [(Mt (Af (48 + (Int.tmod a 10))))])).bind fun e =>
 c (e)))
def Dd (a:Int):Ag (List Aj) :=
 FO FU a
def Ml (a:Int):Ag (List Aj) :=
 (if (decide (a < 0)) = true then (Dd (Af (0 - a))).bind fun b =>
 (Cl [45] b).bind fun c =>
 some c else (Dd a).bind fun d =>
 some d)
def Fq (a:Int) (b:Bool):Ag (List Aj) :=
 (if (!b) = true then some ([110,111]) else (Ml a).bind fun c =>
 some c)
def Df (a:Aed) (c:Aed) (d:Int):Nat → (List Int) → Int → Ag ((Aed × Aed × Int × (List Int)) × Bool)
 | 0,_,_=>none
 | m + 1,e,b=>(if (decide (b < (a.length:Int))) = true then (Cl e [b]).bind fun f =>
 (Df a c d m) (f) ((Af (b + 1))) else (HX a c d e).bind fun g =>
 some (g,true))
def Gn (a:Aed) (b:Aed) (c:Int):Ag ((Aed × Aed × Int × (List Int)) × Bool) :=
 (Iy a b c).bind fun d =>
 (if (!d) = true then some (([],[],0,[]),false) else Df a b c FU ([]) (0))
def ED (a:(Aed × Aed × Int × Aed × Aee × Aeg × (List Int) × (List Int) × Int)):Ag ((Aed × Aed × Int × (List Int)) × Bool) :=
 (Gn a.2.1 a.1 a.2.2.1).bind fun b =>
 some b
def Hd (a:Int):Ag Bool :=
 (BO a 0 80).bind fun b =>
 some b
def Lg (b:(Aed × Aed × Int × (List Int))) (c:Int):Ag Bool :=
 Bk (fun (d:Bool)=>some d) (fun a=>(HY b).bind fun e =>
 (if e = true then (Hd c).bind fun f =>
 a (f) else a (false)))
def Ko (a:Aef) (b:Aef):Ag (Int × Int × Int × Int) :=
 some ((Af (a.1.1 - b.1.1)),(Af (a.1.2 - b.1.2)),(Af (a.2.1.1 - b.2.1.1)),(Af (a.2.1.2 - b.2.1.2)))
def Li (c:Aef) (d:Aef):Ag (Int × Int) :=
 (Ko c d).bind fun a =>
 Bk (fun (e:Bool)=>(if e = true then some (0,0) else some ((Af (0 - (Af ((Af (a.1 * (Af (a.2.2.1 - a.1)))) + (Af (a.2.1 * (Af (a.2.2.2 - a.2.1)))))))),(Af ((Af ((Af (a.2.2.1 - a.1)) * (Af (a.2.2.1 - a.1)))) + (Af ((Af (a.2.2.2 - a.2.1)) * (Af (a.2.2.2 - a.2.1))))))))) (fun b=>(if (decide ((Af (0 - (Af ((Af (a.1 * (Af (a.2.2.1 - a.1)))) + (Af (a.2.1 * (Af (a.2.2.2 - a.2.1)))))))) ≤ 0)) = true then b (true) else b ((decide ((Af ((Af ((Af (a.2.2.1 - a.1)) * (Af (a.2.2.1 - a.1)))) + (Af ((Af (a.2.2.2 - a.2.1)) * (Af (a.2.2.2 - a.2.1)))))) ≤ (Af (0 - (Af ((Af (a.1 * (Af (a.2.2.1 - a.1)))) + (Af (a.2.1 * (Af (a.2.2.2 - a.2.1)))))))))))))
def Hk (a:Int) (b:Int):Ag Int :=
 (if (decide (b < a)) = true then some a else some b)
def Mm (a:Int):Ag Int :=
 (Hk a (Af (0 - a))).bind fun b =>
 some b
def Gy (c:Int) (d:Int):Nat → Int → Int → Ag (Int × Int)
 | 0,_,_=>none
 | m + 1,a,b=>(if (decide (0 < b)) = true then (if b = 0 then none else (Gy c d m) (b) ((Int.tmod a b))) else (if a = 0 then none else (if a = 0 then none else some ((Af (Int.tdiv c a)),(Af (Int.tdiv d a))))))
def IY (a:Int) (b:Int):Ag (Int × Int) :=
 (Mm a).bind fun c =>
 Gy a b FU (c) (b)
def JJ (b:Aef) (c:Aef):Ag (Int × Int) :=
 (Ko b c).bind fun a =>
 (Li b c).bind fun d =>
 (if (decide (0 < d.2)) = true then (IY (Af ((Af ((Af (a.1 * a.2.2.2)) - (Af (a.2.1 * a.2.2.1)))) * (Af ((Af (a.1 * a.2.2.2)) - (Af (a.2.1 * a.2.2.1)))))) d.2).bind fun e =>
 some e else (EQ (Af ((Af (a.1 * a.1)) + (Af (a.2.1 * a.2.1)))) (Af ((Af (a.2.2.1 * a.2.2.1)) + (Af (a.2.2.2 * a.2.2.2))))).bind fun f =>
 some (f,1))
def Km (c:Aef) (d:Aef) (a:Int):Ag Bool :=
 (JJ c d).bind fun b =>
 some (decide ((Af ((Af (a * a)) * b.2)) ≤ b.1))
def Fe (u8:(List Aef)) (d:Aef) (e:Int) (b:Int) (f:(Aei → Int → Ag Aei)):Nat → Aei → Int → Ag Aei
 | 0,_,_=>none
 | m + 1,c,a=>(if (decide (a < (u8.length:Int))) = true then Bk (fun (h:Aei)=>(Fe u8 d e b f m) (h) ((Af (a + 1)))) (fun g=>(AM u8 a).bind fun i =>
 (Km d i e).bind fun j =>
 (if (!j) = true then (Cl c [[b,a]]).bind fun k =>
 g (k) else g (c))) else f (c) ((Af (b + 1))))
def Ff (u8:(List Aef)) (b:Int):Nat → Aei → Int → Ag Aei
 | 0,_,_=>none
 | m + 1,c,a=>(if (decide (a < (u8.length:Int))) = true then (AM u8 a).bind fun d =>
 Fe u8 d b a (Ff u8 b m) FU (c) ((Af (a + 1))) else some c)
def JH (a:(Aed × Aed × Int × (List Int))) (b:Int):Ag Aei :=
 (GB a).bind fun u8 =>
 Ff u8 b FU ([]) (0)
def GR (a:(Aed × Aed × Int × (List Int))) (b:Int):Ag (Aei × Bool) :=
 (Lg a b).bind fun c =>
 (if (!c) = true then some ([],false) else (JH a b).bind fun d =>
 some (d,true))
def CR (c:(Aei × Bool)):Nat → (List Aj) → Int → Ag (List Aj)
 | 0,_,_=>none
 | m + 1,a,b=>(if (decide (b < (c.1.length:Int))) = true then (AM c.1 b).bind fun d =>
 Bk (fun (f:(List Aj))=>(AM d 0).bind fun g =>
 (AM d 1).bind fun h =>
 (Dd g).bind fun i =>
 (Cl i [45]).bind fun j =>
 (Dd h).bind fun k =>
 (Cl j k).bind fun l =>
 (Cl f l).bind fun n =>
 (CR c m) (n) ((Af (b + 1)))) (fun e=>(if (decide (0 < b)) = true then (Cl a [32]).bind fun o =>
 e (o) else e (a))) else (if (a == []) = true then some ([110,111,110,101]) else some a))
def Hn (d:(Aed × Aed × Int × Aed × Aee × Aeg × (List Int) × (List Int) × Int)) (e:Int):Ag (List Aj) :=
 (ED d).bind fun a =>
 (GR a.1 e).bind fun b =>
 Bk (fun (f:Bool)=>(if f = true then some ([110,111]) else CR b FU ([]) (0))) (fun c=>(if (!a.2) = true then c (true) else c ((!b.2))))
def L5 (a:(Aed × Aed × Int × (List Int))):Ag Bool :=
 Bk (fun (c:Bool)=>some c) (fun b=>(HY a).bind fun d =>
 (if d = true then (if (decide (a.2.2.1 ≤ 16)) = true then b ((decide ((a.1.length:Int) ≤ 6))) else b (false)) else b (false)))
def Lz (a:Aef) (b:Int):Ag (Int × Int) :=
 some ((Af ((Af (a.1.1 * a.2.2)) + (Af ((Af (a.2.1.1 - a.1.1)) * b)))),(Af ((Af (a.1.2 * a.2.2)) + (Af ((Af (a.2.1.2 - a.1.2)) * b)))))
def Ip (a:Aef) (b:Int) (c:Int):Ag (Int × Int) :=
 (EQ a.2.2 (Af (c - b))).bind fun d =>
 (Hk 0 d).bind fun e =>
 (Lz a e).bind fun f =>
 some f
def Kj (a:Int) (b:Int) (c:Int) (d:Int):Ag (Int × Int) :=
 Bk (fun (f:Bool)=>(if f = true then some ((Af ((Af ((Af (a * d)) - (Af (b * c)))) * (Af ((Af (a * d)) - (Af (b * c)))))),(Af ((Af ((Af (c - a)) * (Af (c - a)))) + (Af ((Af (d - b)) * (Af (d - b))))))) else (EQ (Af ((Af (a * a)) + (Af (b * b)))) (Af ((Af (c * c)) + (Af (d * d))))).bind fun g =>
 some (g,1))) (fun e=>(if (decide (0 < (Af (0 - (Af ((Af (a * (Af (c - a)))) + (Af (b * (Af (d - b)))))))))) = true then e ((decide ((Af (0 - (Af ((Af (a * (Af (c - a)))) + (Af (b * (Af (d - b)))))))) < (Af ((Af ((Af (c - a)) * (Af (c - a)))) + (Af ((Af (d - b)) * (Af (d - b))))))))) else e (false)))
def Kn (c:Int) (a:Int) (d:Int) (b:Int):Ag Bool :=
 (if a = 0 then none else (if b = 0 then none else (if ((Af (Int.tdiv c a)) != (Af (Int.tdiv d b))) = true then (if a = 0 then none else (if b = 0 then none else some (decide ((Af (Int.tdiv c a)) < (Af (Int.tdiv d b)))))) else (if a = 0 then none else (if b = 0 then none else some (decide ((Af ((Int.tmod c a) * b)) < (Af ((Int.tmod d b) * a)))))))))
def EV (c:Int) (d:Int) (a:Aef) (g:Aef):Nat → Int → Int → Int → Ag (Int × Int)
 | 0,_,_,_=>none
 | m + 1,e,h,b=>(Hk c d).bind fun p =>
 (if (decide (b < (Af (a.2.2 + p)))) = true then Fz (fun (q:Int) (r:Int)=>(EV c d a g m) (q) (r) ((Af (b + 1)))) (fun i=>(Ip a c b).bind fun j =>
 (Ip g d b).bind fun k =>
 (Ip a c (Af (b + 1))).bind fun l =>
 (Ip g d (Af (b + 1))).bind fun n =>
 (Kj (Af (j.1 - k.1)) (Af (j.2 - k.2)) (Af (l.1 - n.1)) (Af (l.2 - n.2))).bind fun f =>
 Bk (fun (s:Bool)=>(if s = true then i (f.1) (f.2) else i (e) (h))) (fun o=>(if (decide (e < 0)) = true then o (true) else (Kn f.1 f.2 e h).bind fun t =>
 o (t)))) else (IY e (Af ((Af (h * a.2.2)) * a.2.2))).bind fun u =>
 some u)
def Iw (a:Aef) (b:Aef) (c:Int) (d:Int):Ag (Int × Int) :=
 EV c d a b FU ((-1)) (1) (0)
def IX (c:Aef) (d:Aef) (e:Int) (f:Int) (b:Int):Ag Bool :=
 (Iw c d e f).bind fun a =>
 (if a.2 = 0 then none else some (decide ((Af (b * b)) ≤ (Af (Int.tdiv a.1 a.2)))))
def EW (u8:(List Aef)) (c:(List Int)) (b:Int) (e:Aef) (f:Int) (g:(Aei → Int → Ag Aei)):Nat → Aei → Int → Ag Aei
 | 0,_,_=>none
 | m + 1,d,a=>(if (decide (a < (u8.length:Int))) = true then Bk (fun (i:Aei)=>(EW u8 c b e f g m) (i) ((Af (a + 1)))) (fun h=>(AM u8 a).bind fun j =>
 (AM c b).bind fun k =>
 (AM c a).bind fun l =>
 (IX e j k l f).bind fun n =>
 (if (!n) = true then (Cl d [[b,a]]).bind fun o =>
 h (o) else h (d))) else g (d) ((Af (b + 1))))
def EX (u8:(List Aef)) (b:(List Int)) (c:Int):Nat → Aei → Int → Ag Aei
 | 0,_,_=>none
 | m + 1,d,a=>(if (decide (a < (u8.length:Int))) = true then (AM u8 a).bind fun e =>
 EW u8 b a e c (EX u8 b c m) FU (d) ((Af (a + 1))) else some d)
def Ix (a:(Aed × Aed × Int × (List Int))) (b:(List Int)) (c:Int):Ag Aei :=
 (GB a).bind fun u8 =>
 EX u8 b c FU ([]) (0)
def Kl (a:(Aed × Aed × Int × (List Int))) (c:Int) (d:Int):Ag (Aed × Aed × Int × (List Int)) :=
 (HX a.1 a.2.1 a.2.2.1 a.2.2.2).bind fun b =>
 (AM a.2.2.2 d).bind fun e =>
 (AM b.2.2.2 c).bind fun g =>
 (AM a.2.2.2 c).bind fun f =>
 (AM (BF b.2.2.2 c e) d).bind fun h =>
 some (b.1,b.2.1,b.2.2.1,(BF (BF b.2.2.2 c e) d f))
def FC (c:(Aed × Aed × Int × (List Int))) (a:Int) (u8:(List Int)) (d:Int) (e:(Int → Ag (Int × Int))):Nat → Int → Ag (Int × Int)
 | 0,_=>none
 | m + 1,b=>(if (decide (b < (c.1.length:Int))) = true then (Kl c a b).bind fun f =>
 (Ix f u8 d).bind fun g =>
 (if ((g.length:Int) == 0) = true then some (a,b) else (FC c a u8 d e m) ((Af (b + 1)))) else e ((Af (a + 1))))
def Ei (a:(Aed × Aed × Int × (List Int))) (u8:(List Int)) (c:Int):Nat → Int → Ag (Int × Int)
 | 0,_=>none
 | m + 1,b=>(if (decide (b < (a.1.length:Int))) = true then FC a b u8 c (Ei a u8 c m) FU ((Af (b + 1))) else some ((-1),(-1)))
def Ki (a:(Aed × Aed × Int × (List Int))) (b:Int):Ag (Int × Int) :=
 (RR (a.1.length:Int) 0).bind fun u8 =>
 Ei a u8 b FU (0)
def G8 (e:((List Aef) × Int × (List Int))) (a:Int) (b:Int) (c:Int) (d:Int):Ag (Bool × ((List Aef) × Int × (List Int))) :=
 Bk (fun (g:((List Aef) × Int × (List Int)))=>(if (decide (0 ≤ a) && decide (a < 6)) = true then (if (decide (0 ≤ b) && decide (b < 6)) = true then (if (decide (0 ≤ c) && decide (c < 5)) = true then (if (decide (0 ≤ d) && decide (d < 5)) = true then (g.2.2[a.toNat * 150 + b.toNat * 25 + c.toNat * 5 + d.toNat * 1]?).bind fun j =>
 some ((j == 1),g) else none) else none) else none) else none)) (fun h=>(if (decide (0 ≤ a) && decide (a < 6)) = true then (if (decide (0 ≤ b) && decide (b < 6)) = true then (if (decide (0 ≤ c) && decide (c < 5)) = true then (if (decide (0 ≤ d) && decide (d < 5)) = true then (e.2.2[a.toNat * 150 + b.toNat * 25 + c.toNat * 5 + d.toNat * 1]?).bind fun k =>
 (if (k == 0) = true then Fz (fun (f:((List Aef) × Int × (List Int))) (l:Int)=>(NL f.2.2 (a.toNat * 150 + b.toNat * 25 + c.toNat * 5 + d.toNat * 1) l).bind fun m =>
 h ((f.1,f.2.1,m))) (fun i=>(AM e.1 a).bind fun n =>
 (AM e.1 b).bind fun o =>
 (IX n o c d e.2.1).bind fun p =>
 (if p = true then i (e) (1) else i (e) (2))) else h (e)) else none) else none) else none) else none))
def CP (a:(List Int)) (b:Int) (f:(((List Aef) × Int × (List Int)) → Ag ((List Int) × ((List Aef) × Int × (List Int))))) (rec:(((List Aef) × Int × (List Int)) → (List Int) → Int → Ag ((List Int) × ((List Aef) × Int × (List Int))))) (g:Int):Nat → ((List Aef) × Int × (List Int)) → Bool → Int → Ag ((List Int) × ((List Aef) × Int × (List Int)))
 | 0,_,_,_=>none
 | m + 1,c,h,d=>(if (decide (d < (a.length:Int))) = true then Fz (fun (k:((List Aef) × Int × (List Int))) (l:Bool)=>(CP a b f rec g m) (k) (l) ((Af (d + 1)))) (fun i=>(AM a d).bind fun n =>
 (if h = true then (G8 c d (a.length:Int) n b).bind fun j =>
 i (j.2) (j.1) else i (c) (false))) else (if (!h) = true then f (c) else (JD a).bind fun o =>
 (Cl o [b]).bind fun p =>
 (rec c p (Af (g - b))).bind fun e =>
 (if (decide (0 < (e.1.length:Int))) = true then some (e.1,e.2) else f (e.2))))
def CQ (a:Int) (c:(List Int)) (rec:(((List Aef) × Int × (List Int)) → (List Int) → Int → Ag ((List Int) × ((List Aef) × Int × (List Int))))):Nat → ((List Aef) × Int × (List Int)) → Int → Ag ((List Int) × ((List Aef) × Int × (List Int)))
 | 0,_,_=>none
 | m + 1,d,b=>(EQ a 4).bind fun e =>
 (if (decide (b ≤ e)) = true then Bk (fun (f:((List Aef) × Int × (List Int)))=>(CQ a c rec m) (f) ((Af (b + 1)))) (fun g=>CP c b g rec a FU (d) (true) (0)) else some ([],d))
def FT (rec:((List Aef) × Int × (List Int)) → (List Int) → Int → Ag ((List Int) × ((List Aef) × Int × (List Int)))) (a:((List Aef) × Int × (List Int))) (b:(List Int)) (c:Int):Ag ((List Int) × ((List Aef) × Int × (List Int))) :=
 (if ((b.length:Int) == (a.1.length:Int)) = true then (if (decide (0 < c)) = true then some ([],a) else some (b,a)) else CQ c b rec FU (a) (0))
def Db:Nat → ((List Aef) × Int × (List Int)) → (List Int) → Int → Ag ((List Int) × ((List Aef) × Int × (List Int)))
 | 0,_,_,_=>none
 | m + 1,a,b,c=>FT (Db m) a b c
def HQ (a:((List Aef) × Int × (List Int))) (b:(List Int)) (c:Int):Ag ((List Int) × ((List Aef) × Int × (List Int))) :=
 Db FU a b c
def Eb (c:(Aed × Aed × Int × (List Int))):Nat → ((List Aef) × Int × (List Int)) → Int → Ag Aej
 | 0,_,_=>none
 | m + 1,d,a=>(if (decide (a ≤ (Af (4 * (c.1.length:Int))))) = true then (HQ d [] a).bind fun b =>
 (if (decide (0 < (b.1.length:Int))) = true then some (b.1,a) else (Eb c m) (b.2) ((Af (a + 1)))) else some ([],0))
def Jp (a:(Aed × Aed × Int × (List Int))) (b:Int):Ag Aej :=
 (GB a).bind fun u8 =>
 Eb a FU ((u8,b,(List.replicate 900 0))) (0)
def Ib (a:(Aed × Aed × Int × (List Int))) (b:Int):Ag (Int × Bool) :=
 Bk (fun (d:Bool)=>(if d = true then some (0,false) else (RR (a.1.length:Int) 0).bind fun e =>
 (Ix a e b).bind fun f =>
 (if ((f.length:Int) == 0) = true then some (0,true) else (Ki a b).bind fun g =>
 (if (decide (0 ≤ g.1)) = true then some (1,true) else (Jp a b).bind fun h =>
 (if (decide (0 < (h.1.length:Int))) = true then some (2,true) else some (3,true)))))) (fun c=>(L5 a).bind fun i =>
 (if (!i) = true then c (true) else (Hd b).bind fun j =>
 c ((!j))))
def D4 (c:Aed) (e:(Int × Int)) (d:Int) (f:(Int → Int → Int → Int → Ag (Int × Int × Int))):Nat → Int → Int → Int → Int → Ag (Int × Int × Int)
 | 0,_,_,_,_=>none
 | m + 1,g,h,a,b=>(if (decide (b < (c.length:Int))) = true then Wt (fun (k:Int) (l:Int) (n:Int)=>(D4 c e d f m) (k) (l) (n) ((Af (b + 1)))) (fun i=>(AM c b).bind fun o =>
 (GQ e o).bind fun u64 =>
 Bk (fun (p:Bool)=>(if p = true then i (d) (b) (u64) else i (g) (h) (a))) (fun j=>(if (decide (a < 0)) = true then j (true) else j ((decide (u64 < a)))))) else f (g) (h) (a) ((Af (d + 1))))
def Fd (a:Aed):Nat → Int → Int → Int → Int → Ag (Int × Int × Int)
 | 0,_,_,_,_=>none
 | m + 1,c,d,e,b=>(if (decide (b < (a.length:Int))) = true then (AM a b).bind fun f =>
 D4 a f b (Fd a m) FU (c) (d) (e) ((Af (b + 1))) else some (c,d,e))
def JG (a:Aed):Ag (Int × Int × Int) :=
 Fd a FU (0) (0) ((-1)) (0)
def Ed (a:Aed):Ag (Int × Bool) :=
 Bk (fun (c:Bool)=>(if c = true then some (0,false) else (JG a).bind fun d =>
 some (d.2.2,true))) (fun b=>(FK a).bind fun e =>
 (if (!e) = true then b (true) else b ((decide ((a.length:Int) < 2)))))
def E9 (a:Aed):Nat → Int → Int → Ag Int
 | 0,_,_=>none
 | m + 1,c,b=>(if (decide (b < (a.length:Int))) = true then (AM a b).bind fun d =>
 (E9 a m) ((Af (c + d.1))) ((Af (b + 1))) else some c)
def Jq (a:Aed):Ag Int :=
 E9 a FU (0) (0)
def L6 (a:Aed) (c:Int):Ag Bool :=
 Bk (fun (d:Bool)=>some d) (fun b=>(IZ a).bind fun e =>
 (if e = true then (Jq a).bind fun f =>
 (BO c 0 f).bind fun g =>
 b (g) else b (false)))
def Hy (b:Int) (a:Int):Ag Int :=
 (if a = 0 then none else some (Af (Int.tdiv (Af (60000 * b)) a)))
def Di (b:Aed):Nat → Int → Int → Int → Ag Int
 | 0,_,_,_=>none
 | m + 1,c,d,e=>(if (decide (e < (b.length:Int))) = true then (AM b e).bind fun a =>
 (if (decide (c < a.1)) = true then (Hy c a.2).bind fun f =>
 some (Af (d + f)) else (Hy a.1 a.2).bind fun g =>
 (Di b m) ((Af (c - a.1))) ((Af (d + g))) ((Af (e + 1)))) else some d)
def FJ (a:Aed) (b:Int):Ag Int :=
 Di a FU (b) (0) (0)
def Kp (a:Aed) (b:Int):Ag (Int × Bool) :=
 (L6 a b).bind fun c =>
 (if (!c) = true then some (0,false) else (FJ a b).bind fun d =>
 some (d,true))
def Lh (a:Int):Ag Bool :=
 (BO a 0 999).bind fun b =>
 some b
def GA (f:Aee) (g:Int) (c:Int) (d:Int):Nat → Int → Ag Int
 | 0,_=>none
 | m + 1,e=>(if (decide (e < (f.length:Int))) = true then (AM f e).bind fun a =>
 Bk (fun (h:Bool)=>(if h = true then some e else (GA f g c d m) ((Af (e + 1))))) (fun b=>(if (g == 0) = true then (if (c == 0) = true then (BO d a.2.2.1 (Af (a.2.2.2 - 1))).bind fun i =>
 b (i) else (if (a.1 == c) = true then (BO d a.2.2.1 (Af (a.2.2.2 - 1))).bind fun j =>
 b (j) else b (false))) else (if (a.2.1 == g) = true then (if (c == 0) = true then (BO d a.2.2.1 (Af (a.2.2.2 - 1))).bind fun k =>
 b (k) else (if (a.1 == c) = true then (BO d a.2.2.1 (Af (a.2.2.2 - 1))).bind fun l =>
 b (l) else b (false))) else b (false)))) else some (-1))
def Kx (a:Aee) (b:Int) (c:Int) (d:Int):Ag Int :=
 GA a b c d FU (0)
def I9 (a:Aee) (c:Int) (d:Int):Ag (Int × Bool) :=
 Bk (fun (e:Bool)=>(if e = true then some (0,false) else (Kx a c 0 d).bind fun f =>
 (AM a f).bind fun g =>
 some (g.1,true))) (fun b=>(Je a).bind fun h =>
 (if (!h) = true then b (true) else (Jd c).bind fun i =>
 (if (!i) = true then b (true) else (Lh d).bind fun j =>
 (if (!j) = true then b (true) else (Kx a c 0 d).bind fun k =>
 b ((decide (k < 0)))))))
def Mj (a:Aeg) (c:Int):Ag Bool :=
 Bk (fun (d:Bool)=>some d) (fun b=>(HV a).bind fun e =>
 (if e = true then (BO c 0 (Af ((a.length:Int) - 1))).bind fun f =>
 b (f) else b (false)))
def E4 (b:Aeg):Nat → Int → (List Int) → Ag (List Int)
 | 0,_,_=>none
 | m + 1,a,c=>(if (decide (0 ≤ a)) = true then (Cl [a] c).bind fun d =>
 (AM b a).bind fun e =>
 (E4 b m) (e.1) (d) else some c)
def KT (a:Aeg) (b:Int):Ag (List Int) :=
 E4 a FU (b) ([])
def ET (a:(List Int)) (b:Aeg):Nat → (List Int) → Int → Ag (List Int)
 | 0,_,_=>none
 | m + 1,c,d=>(if (decide (d < (a.length:Int))) = true then (AM a d).bind fun e =>
 (AM b e).bind fun u64 =>
 (AM b e).bind fun f =>
 (AM c u64.2.1).bind fun g =>
 (ET a b m) ((BF c u64.2.1 f.2.2)) ((Af (d + 1))) else some c)
def EU (a:Aeg) (c:Int):Nat → (List Int) → Ag (List Int)
 | 0,_=>none
 | m + 1,b=>(if (decide ((b.length:Int) < 8)) = true then (Cl b [(-1)]).bind fun d =>
 (EU a c m) (d) else (KT a c).bind fun e =>
 ET e a FU (b) (0))
def JA (a:Aeg) (b:Int):Ag (List Int) :=
 EU a b FU ([])
def JK (a:Aeg) (b:Int):Ag ((List Int) × Bool) :=
 (Mj a b).bind fun c =>
 (if (!c) = true then some ([],false) else (JA a b).bind fun d =>
 some (d,true))
def D3 (b:(List Int)):Nat → (List Aj) → Int → Ag (List Aj)
 | 0,_,_=>none
 | m + 1,c,a=>(if (decide (a < (b.length:Int))) = true then Bk (fun (h:(List Aj))=>(D3 b m) (h) ((Af (a + 1)))) (fun d=>(AM b a).bind fun e =>
 Bk (fun (f:(List Aj))=>(if (decide (e < 0)) = true then (Cl f [45]).bind fun i =>
 d (i) else (Dd e).bind fun j =>
 (Cl f j).bind fun k =>
 d (k))) (fun g=>(if (decide (0 < a)) = true then (Cl c [32]).bind fun l =>
 g (l) else g (c)))) else some c)
def JE (a:(List Int)):Ag (List Aj) :=
 D3 a FU ([]) (0)
def IW (a:Int):Ag (List Aj) :=
 (if ((Int.tmod a 8) == 0) = true then (Dd (Af (Int.tdiv a 8))).bind fun b =>
 some b else (Dd (Af (Int.tdiv a 8))).bind fun c =>
 (Cl c [43]).bind fun d =>
 (Dd (Int.tmod a 8)).bind fun e =>
 (Cl d e).bind fun f =>
 some f)
def Kg (a:(Int × Int)):Ag (List Aj) :=
 (IW a.1).bind fun b =>
 (Cl b [44]).bind fun c =>
 (IW a.2).bind fun d =>
 (Cl c d).bind fun e =>
 some e
def Mk (b:(Int × Int)) (c:(Int × Int)):Ag Bool :=
 Bk (fun (d:Bool)=>some d) (fun a=>(HW b).bind fun e =>
 (if e = true then (HW c).bind fun f =>
 a (f) else a (false)))
def EG (c:Int):Nat → Int → Int → Ag Int
 | 0,_,_=>none
 | m + 1,a,b=>(if (decide (a < b)) = true then (if (decide ((Af (1000000 * c)) ≤ (Af ((Af ((Af (4800 * (Af (Int.tdiv (Af (a + b)) 2)))) * 4800)) * (Af (Int.tdiv (Af (a + b)) 2)))))) = true then (EG c m) (a) ((Af (Int.tdiv (Af (a + b)) 2))) else (EG c m) ((Af ((Af (Int.tdiv (Af (a + b)) 2)) + 1))) (b)) else some a)
def Kh (a:Int):Ag Int :=
 EG a FU (0) (1000)
def Le (a:(Int × Int)) (b:(Int × Int)):Ag Int :=
 (GQ a b).bind fun c =>
 (Kh c).bind fun d =>
 some d
def H1 (a:(Int × Int)) (b:(Int × Int)):Ag (Int × Bool) :=
 (Mk a b).bind fun c =>
 (if (!c) = true then some (0,false) else (Le a b).bind fun d =>
 some (d,true))
def CA (a:(List Int)) (b:(Aed × Aed × Int × Aed × Aee × Aeg × (List Int) × (List Int) × Int)) (d:(List Aj)):Nat → Int → Ag (List Aj)
 | 0,_=>none
 | m + 1,c=>(if (decide (c < (a.length:Int))) = true then (AM a c).bind fun f =>
 (if (decide ((b.1.length:Int) ≤ f)) = true then some ([110,111]) else (CA a b d m) ((Af (c + 1)))) else (if (d == [116,101,120,116]) = true then (AM a 0).bind fun g =>
 (AM b.1 g).bind fun h =>
 (Kg h).bind fun i =>
 some i else (AM a 0).bind fun j =>
 (AM b.1 j).bind fun k =>
 (AM a 1).bind fun l =>
 (AM b.1 l).bind fun n =>
 (H1 k n).bind fun e =>
 (Fq e.1 e.2).bind fun o =>
 some o))
def C5 (a:(Aed × Aed × Int × Aed × Aee × Aeg × (List Int) × (List Int) × Int)) (b:(List Aj)) (c:(List Int)):Ag (List Aj) :=
 (if (b == [115,117,109]) = true then jK5 (fun (l:Aed) (m:Aed) (n:Int) (o:(List Int)) (p:Bool)=>(if (!p) = true then some ([110,111]) else (Hz (l,m,n,o)).bind fun e =>
 (Fq e.1 e.2).bind fun q =>
 some q)) (fun r=>(Gp a.2.1 a.1 a.2.2.1).bind fun d =>
 r (d.1.1) (d.1.2.1) (d.1.2.2.1) (d.1.2.2.2) (d.2)) else (if (b == [99,108,111,115,101]) = true then (AM c 0).bind fun s =>
 (Hn a s).bind fun t =>
 some t else (if (b == [107,105,110,100]) = true then (ED a).bind fun f =>
 (if (!f.2) = true then some ([110,111]) else (AM c 0).bind fun u =>
 (Ib f.1 u).bind fun g =>
 (Fq g.1 g.2).bind fun v =>
 some v) else (if (b == [108,101,97,115,116]) = true then (Ed a.1).bind fun h =>
 (Fq h.1 h.2).bind fun w =>
 some w else (if (b == [116,105,109,101]) = true then (AM c 0).bind fun x =>
 (Kp a.2.2.2.1 x).bind fun i =>
 (Fq i.1 i.2).bind fun y =>
 some y else (if (b == [119,104,111]) = true then (AM c 0).bind fun z =>
 (AM c 1).bind fun aa =>
 (I9 a.2.2.2.2.1 z aa).bind fun j =>
 (if (!j.2) = true then some ([110,111,110,101]) else (Dd j.1).bind fun ab =>
 some ab) else (if (b == [115,116,97,116,101]) = true then (AM c 0).bind fun ac =>
 (JK a.2.2.2.2.2.1 ac).bind fun k =>
 (if (!k.2) = true then some ([110,111]) else (JE k.1).bind fun ad =>
 some ad) else CA c a b FU (0))))))))
def BR (e:(List (List Aj))) (c:(Aed × Aed × Int × Aed × Aee × Aeg × (List Int) × (List Int) × Int)) (d:(List (List Aj))):Nat → (List Int) → Int → Ag ((List Aj) × (Aed × Aed × Int × Aed × Aee × Aeg × (List Int) × (List Int) × Int))
 | 0,_,_=>none
 | m + 1,f,g=>(if (decide (g < (e.length:Int))) = true then (AM e g).bind fun j =>
 (Kk j).bind fun h =>
 (BO h 0 99999).bind fun k =>
 (if (!k) = true then some ([119,104,97,116],c) else (Cl f [h]).bind fun l =>
 (BR e c d m) (l) ((Af (g + 1)))) else (AM d 0).bind fun a =>
 Bk (fun (n:Bool)=>(if n = true then (AM d 0).bind fun o =>
 (C1 c o f).bind fun i =>
 (Ja i.1).bind fun p =>
 some (p,i.2) else (AM d 0).bind fun q =>
 (C5 c q f).bind fun r =>
 some (r,c))) (fun b=>(if (a == [115,112,111,116]) = true then b ((a == [115,112,111,116])) else (if (a == [112,108,97,99,101]) = true then b ((a == [112,108,97,99,101])) else (if (a == [109,105,114,114,111,114]) = true then b ((a == [109,105,114,114,111,114])) else (if (a == [107,101,101,112]) = true then b ((a == [107,101,101,112])) else (if (a == [99,111,117,110,116,115]) = true then b ((a == [99,111,117,110,116,115])) else (if (a == [109,101,97,115,117,114,101]) = true then b ((a == [109,101,97,115,117,114,101])) else (if (a == [99,97,114,114,121]) = true then b ((a == [99,97,114,114,121])) else b ((a == [118,101,114,115,105,111,110])))))))))))
def Ec (b:(Aed × Aed × Int × Aed × Aee × Aeg × (List Int) × (List Int) × Int)) (c:(List Aj)):Ag ((List Aj) × (Aed × Aed × Int × Aed × Aee × Aeg × (List Int) × (List Int) × Int)) :=
 (FN c 32).bind fun a =>
 (AM a 0).bind fun d =>
 (G9 d).bind fun e =>
 (if ((Af ((a.length:Int) - 1)) != e) = true then some ([119,104,97,116],b) else (sl a 1 (a.length:Int)).bind fun f =>
 BR f b a FU ([]) (0))
def Gb (d:((List (List Aj)) × Bool)):Nat → (Aed × Aed × Int × Aed × Aee × Aeg × (List Int) × (List Int) × Int) → (List Aj) → Int → Ag ((Aed × Aed × Int × Aed × Aee × Aeg × (List Int) × (List Int) × Int) × (List Aj) × Bool)
 | 0,_,_,_=>none
 | m + 1,b,f,c=>(if (decide (c < (d.1.length:Int))) = true then (AM d.1 c).bind fun g =>
 (Ec b g).bind fun a =>
 Bk (fun (h:(Aed × Aed × Int × Aed × Aee × Aeg × (List Int) × (List Int) × Int))=>(Cl a.1 [10]).bind fun i =>
 (Cl f i).bind fun j =>
 (Gb d m) (h) (j) ((Af (c + 1)))) (fun e=>(if (a.1 == [110,111]) = true then (Cl a.2.2.2.2.2.2.2.1 [(Af (c + 1))]).bind fun k =>
 e ((a.2.1,a.2.2.1,a.2.2.2.1,a.2.2.2.2.1,a.2.2.2.2.2.1,a.2.2.2.2.2.2.1,k,a.2.2.2.2.2.2.2.2.1,a.2.2.2.2.2.2.2.2.2)) else (if (a.1 == [119,104,97,116]) = true then (Cl a.2.2.2.2.2.2.2.2.1 [(Af (c + 1))]).bind fun l =>
 e ((a.2.1,a.2.2.1,a.2.2.2.1,a.2.2.2.2.1,a.2.2.2.2.2.1,a.2.2.2.2.2.2.1,a.2.2.2.2.2.2.2.1,l,a.2.2.2.2.2.2.2.2.2)) else e (a.2)))) else some ((b.1,b.2.1,b.2.2.1,b.2.2.2.1,b.2.2.2.2.1,b.2.2.2.2.2.1,b.2.2.2.2.2.2.1,b.2.2.2.2.2.2.2.1,(d.1.length:Int)),f,true))
def KV (c:(List Aj)):Ag ((Aed × Aed × Int × Aed × Aee × Aeg × (List Int) × (List Int) × Int) × (List Aj) × Bool) :=
 (Lf ).bind fun a =>
 (JF c).bind fun b =>
 (if (!b.2) = true then some (a,[],false) else Gb b FU (a) ([]) (0))
def Hm (a:(List Aj)) (b:Int):Ag Int :=
 some (PN a b)
def IJ (b:(List Aj)) (a:(List Aj)):Ag Int :=
 Bk (fun (d:Bool)=>(if d = true then some 0 else (if ((a.length:Int) == 1) = true then (AM a 0).bind fun e =>
 (Hm b (UInt8.toNat e:Int)).bind fun f =>
 some f else (if (decide ((b.length:Int) ≤ (a.length:Int))) = true then some (-1) else none)))) (fun c=>(if ((a.length:Int) == 0) = true then c (true) else c ((a == b))))
def HP (a:(List Aj)) (b:(List Aj)):Ag Int :=
 (IJ a b).bind fun c =>
 some c
def HD (a:(List Aj)):Nat → (List Aj) → Int → Ag Int
 | 0,_,_=>none
 | m + 1,b,c=>(HP b a).bind fun d =>
 (if (d == (-1)) = true then some c else (sl b (Af (d + (a.length:Int))) (b.length:Int)).bind fun e =>
 (HD a m) (e) ((Af (c + 1))))
def Jo (b:(List Aj)) (a:(List Aj)):Ag Int :=
 (if ((a.length:Int) == 0) = true then none else (if ((a.length:Int) == 1) = true then (AM a 0).bind fun c =>
 some (Yb b (UInt8.toNat c:Int)) else HD a FU (b) (0)))
def DK (g:Int) (h:(List Aj)) (d:(List Aj)) (e:((List Aj) → (List (List Aj)) → Int → Ag (List (List Aj)))) (i:Int):Nat → (List Aj) → (List (List Aj)) → Int → Ag (List (List Aj))
 | 0,_,_,_=>none
 | m + 1,a,c,b=>(if (decide (b < (Af ((Fn g (Af ((h.length:Int) + 1))) - 1)))) = true then (HP a d).bind fun f =>
 (if (decide (f < 0)) = true then e (a) (c) (b) else (sl a 0 (Af (f + i))).bind fun j =>
 (AM c b).bind fun l =>
 (sl a (Af (f + (d.length:Int))) (a.length:Int)).bind fun k =>
 (DK g h d e i m) (k) ((BF c b j)) ((Af (b + 1)))) else e (a) (c) (b))
def Jn (a:(List Aj)) (b:(List Aj)) (h:Int) (c:Int):Ag (List (List Aj)) :=
 (if (c == 0) = true then some [] else (if (b == []) = true then none else Bk (fun (e:Int)=>(RR (Fn e (Af ((a.length:Int) + 1))) []).bind fun i =>
 Wt (fun (j:(List Aj)) (f:(List (List Aj))) (d:Int)=>(AM f d).bind fun n =>
 (sl (BF f d j) 0 (Af (d + 1))).bind fun k =>
 some k) (fun l=>DK e a b l h FU (a) (i) (0))) (fun g=>(if (decide (c < 0)) = true then (Jo a b).bind fun m =>
 g ((Af (m + 1))) else g (c)))))
def FZ (a:(List Aj)) (b:(List Aj)):Ag (List (List Aj)) :=
 (Jn a b 0 (-1)).bind fun c =>
 some c
def JN (a:(List Aj)):Ag ((List (List Aj)) × Bool) :=
 (if (a == []) = true then some ([],true) else (AM a (Af ((a.length:Int) - 1))).bind fun b =>
 (if ((UInt8.toNat b:Int) != 10) = true then some ([],false) else (sl a 0 (Af ((a.length:Int) - 1))).bind fun c =>
 (FZ c [10]).bind fun d =>
 some (d,true)))
def HF (c:(List Aj)):Ag ((List (List Aj)) × Bool) :=
 (JN c).bind fun a =>
 Bk (fun (d:Bool)=>(if d = true then some ([],false) else some (a.1,true))) (fun b=>(if (!a.2) = true then b (true) else (if (decide (2000 < (c.length:Int))) = true then b (true) else b ((decide (40 < (a.1.length:Int)))))))
def KD  : Ag (Aed × Aed × Int × Aed × Aee × Aeg) :=
 some ([(0,0)],[(0,0)],8,[(4,120)],[],[((-1),0,0)])
def Fj (a:(List Aj)):Nat → Int → Int → Ag (Int × Bool)
 | 0,_,_=>none
 | m + 1,c,b=>(if (decide (b < (a.length:Int))) = true then Bk (fun (e:Bool)=>(if e = true then some (0,false) else (AM a b).bind fun f =>
 (Fj a m) ((Af ((Af (10 * c)) + (Af (Mt ((UInt8.toNat f:Int) - 48)))))) ((Af (b + 1))))) (fun d=>(AM a b).bind fun g =>
 (if (decide ((UInt8.toNat g:Int) < 48)) = true then d (true) else (AM a b).bind fun h =>
 d ((decide (57 < (UInt8.toNat h:Int)))))) else some (c,true))
def JM (a:(List Aj)):Ag (Int × Bool) :=
 Bk (fun (c:Bool)=>(if c = true then some (0,false) else Fj a FU (0) (0))) (fun b=>(if (a == []) = true then b (true) else (if (decide (9 < (a.length:Int))) = true then b (true) else (if (decide (1 < (a.length:Int))) = true then (AM a 0).bind fun d =>
 b (((UInt8.toNat d:Int) == 48)) else b (false)))))
def Jt (a:(List Aj)):Ag Int :=
 Bk (fun (f:Bool)=>(if f = true then some 0 else Bk (fun (g:Bool)=>(if g = true then some 1 else Bk (fun (h:Bool)=>(if h = true then some 2 else Bk (fun (i:Bool)=>(if i = true then some 3 else (if (a == [99,97,114,114,121]) = true then some 4 else some (-1)))) (fun e=>(if (a == [112,108,97,99,101]) = true then e ((a == [112,108,97,99,101])) else e ((a == [118,101,114,115,105,111,110])))))) (fun c=>(if (a == [115,112,111,116]) = true then c ((a == [115,112,111,116])) else (if (a == [115,111,117,110,100]) = true then c ((a == [115,111,117,110,100])) else (if (a == [109,101,97,115,117,114,101]) = true then c ((a == [109,101,97,115,117,114,101])) else c ((a == [119,104,111])))))))) (fun b=>(if (a == [99,111,117,110,116,115]) = true then b ((a == [99,111,117,110,116,115])) else (if (a == [99,108,111,115,101]) = true then b ((a == [99,108,111,115,101])) else (if (a == [107,105,110,100]) = true then b ((a == [107,105,110,100])) else (if (a == [116,101,120,116]) = true then b ((a == [116,101,120,116])) else (if (a == [116,105,109,101]) = true then b ((a == [116,105,109,101])) else b ((a == [115,116,97,116,101])))))))))) (fun d=>(if (a == [109,105,114,114,111,114]) = true then d ((a == [109,105,114,114,111,114])) else (if (a == [107,101,101,112]) = true then d ((a == [107,101,101,112])) else (if (a == [115,117,109]) = true then d ((a == [115,117,109])) else d ((a == [108,101,97,115,116]))))))
def BX (a:Int) (c:Int) (d:Int):Ag Bool :=
 Bk (fun (e:Bool)=>some e) (fun b=>(if (decide (c ≤ a)) = true then b ((decide (a ≤ d))) else b (false)))
def Gu (a:(Int × Int)):Ag Bool :=
 Bk (fun (c:Bool)=>some c) (fun b=>(BX a.1 0 1280).bind fun d =>
 (if d = true then (BX a.2 0 672).bind fun e =>
 b (e) else b (false)))
def Cn (b:Aed) (c:(Int × Int)):Nat → Int → Ag Int
 | 0,_=>none
 | m + 1,a=>(if (decide (a < (b.length:Int))) = true then (AM b a).bind fun d =>
 (if (M9 c d) = true then some a else (Cn b c m) ((Af (a + 1)))) else some (-1))
def Ex (a:Aed) (b:(Int × Int)):Ag Int :=
 Cn a b FU (0)
def Dk (a:Aed) (b:(Int × Int)):Ag Bool :=
 (Ex a b).bind fun u8 =>
 some (decide (0 ≤ u8))
def Fm (a:Aed):Nat → Int → Ag Bool
 | 0,_=>none
 | m + 1,b=>(if (decide (b < (a.length:Int))) = true then (AM a b).bind fun c =>
 Bk (fun (e:Bool)=>(if e = true then some false else (Fm a m) ((Af (b + 1))))) (fun d=>(Gu c).bind fun f =>
 (if (!f) = true then d (true) else (sl a 0 b).bind fun g =>
 (Dk g c).bind fun u64 =>
 d (u64))) else some true)
def Ea (a:Aed):Ag Bool :=
 (BX (a.length:Int) 1 12).bind fun b =>
 (if (!b) = true then some false else Fm a FU (0))
def Iz (a:Bool):Ag (List Aj) :=
 (if a = true then some ([111,107]) else some ([110,111]))
def Dj (a:(Aed × Aed × Int × Aed × Aee × Aeg)) (d:Aed) (b:Bool):Ag ((List Aj) × (Aed × Aed × Int × Aed × Aee × Aeg)) :=
 Bk (fun (e:(Aed × Aed × Int × Aed × Aee × Aeg))=>(Iz b).bind fun f =>
 some (f,e)) (fun c=>(if b = true then c ((d,a.2.1,a.2.2.1,a.2.2.2.1,a.2.2.2.2.1,a.2.2.2.2.2)) else c (a)))
def Gi (a:Aed):Ag (Aed × Bool) :=
 (Ea a).bind fun b =>
 (if (!b) = true then some ([],false) else some (a,true))
def GD (a:Aed) (b:Int) (d:(Int × Int)):Ag (Aed × Bool) :=
 Bk (fun (f:Bool)=>(if f = true then some ([],false) else (Cl [] a).bind fun e =>
 (AM e b).bind fun j =>
 (Gi (BF e b d)).bind fun g =>
 some g)) (fun c=>(Ea a).bind fun h =>
 (if (!h) = true then c (true) else (BX b 0 (Af ((a.length:Int) - 1))).bind fun i =>
 (if (!i) = true then c (true) else (Gu d).bind fun u64 =>
 c ((!u64)))))
def DS (a:Aed):Nat → Aed → Int → Ag (Aed × Bool)
 | 0,_,_=>none
 | m + 1,c,b=>(if (decide (b < (a.length:Int))) = true then (AM a b).bind fun d =>
 (Cl c [((Af (1280 - d.1)),d.2)]).bind fun e =>
 (DS a m) (e) ((Af (b + 1))) else some (c,true))
def HJ (a:Aed):Ag (Aed × Bool) :=
 (Ea a).bind fun b =>
 (if (!b) = true then some ([],false) else DS a FU ([]) (0))
def BH (a:(Aed × Aed × Int × Aed × Aee × Aeg)) (c:(List Aj)) (b:(List Int)):Ag ((List Aj) × (Aed × Aed × Int × Aed × Aee × Aeg)) :=
 (if (c == [115,112,111,116]) = true then Fz (fun (j:(Aed × Aed × Int × Aed × Aee × Aeg)) (k:(List Aj))=>some (k,j)) (fun l=>(AM b 0).bind fun m =>
 (AM b 1).bind fun n =>
 (Cl [] a.1).bind fun o =>
 (Cl o [(m,n)]).bind fun p =>
 (Gi p).bind fun d =>
 (Dj a d.1 d.2).bind fun e =>
 l (e.2) (e.1)) else (if (c == [112,108,97,99,101]) = true then (AM b 0).bind fun q =>
 (AM b 1).bind fun r =>
 (AM b 2).bind fun s =>
 (GD a.1 q (r,s)).bind fun f =>
 (Dj a f.1 f.2).bind fun g =>
 some (g.1,g.2) else (if (c == [109,105,114,114,111,114]) = true then (HJ a.1).bind fun h =>
 (Dj a h.1 h.2).bind fun i =>
 some (i.1,i.2) else (if (c == [107,101,101,112]) = true then (Cl [] a.1).bind fun t =>
 some ([111,107],(a.1,t,a.2.2.1,a.2.2.2.1,a.2.2.2.2.1,a.2.2.2.2.2)) else (AM b 0).bind fun u =>
 (BX u 1 64).bind fun v =>
 (if (!v) = true then some ([110,111],a) else (AM b 0).bind fun w =>
 some ([111,107],(a.1,a.2.1,w,a.2.2.2.1,a.2.2.2.2.1,a.2.2.2.2.2)))))))
def Fl (a:Aed):Nat → Int → Ag Bool
 | 0,_=>none
 | m + 1,b=>(if (decide (b < (a.length:Int))) = true then (AM a b).bind fun c =>
 Bk (fun (e:Bool)=>(if e = true then some false else (Fl a m) ((Af (b + 1))))) (fun d=>(BX c.1 1 12).bind fun f =>
 (if (!f) = true then d (true) else (BX c.2 40 220).bind fun g =>
 d ((!g)))) else (BX (a.length:Int) 1 40).bind fun h =>
 some h)
def I1 (a:Aed):Ag Bool :=
 Fl a FU (0)
def Dt (a:(Int × Int × Int × Int)) (b:(Int × Int × Int × Int)):Ag Int :=
 (if (a.2.2.1 != b.2.2.1) = true then some (Af (a.2.2.1 - b.2.2.1)) else some (Af (a.2.1 - b.2.1)))
def JO (a:(Int × Int × Int × Int)):Ag Bool :=
 Bk (fun (c:Bool)=>some c) (fun b=>(BX a.1 1 12).bind fun d =>
 (if d = true then (BX a.2.1 1 9).bind fun e =>
 (if e = true then (if (decide (0 ≤ a.2.2.1)) = true then (if (decide (a.2.2.1 < a.2.2.2)) = true then b ((decide (a.2.2.2 ≤ 1000))) else b (false)) else b (false)) else b (false)) else b (false)))
def D5 (c:Aee) (a:(Int × Int × Int × Int)) (f:(Int → Ag Bool)) (g:Int):Nat → Int → Ag Bool
 | 0,_=>none
 | m + 1,d=>(if (decide (d < (c.length:Int))) = true then (AM c d).bind fun b =>
 Bk (fun (h:Bool)=>(if h = true then some false else (D5 c a f g m) ((Af (d + 1))))) (fun e=>(if (a.2.1 == b.2.1) = true then e ((decide ((Fx a.2.2.1 b.2.2.1) < (Fn a.2.2.2 b.2.2.2)))) else (if (a.1 == b.1) = true then e ((decide ((Fx a.2.2.1 b.2.2.1) < (Fn a.2.2.2 b.2.2.2)))) else e (false)))) else f ((Af (g + 1))))
def CF (b:Aee):Nat → Int → Ag Bool
 | 0,_=>none
 | m + 1,a=>(if (decide (a < (b.length:Int))) = true then (AM b a).bind fun c =>
 Bk (fun (e:Bool)=>(if e = true then some false else (sl b 0 a).bind fun f =>
 D5 f c (CF b m) a FU (0))) (fun d=>(if (decide (0 < a)) = true then (AM b (Af (a - 1))).bind fun g =>
 (Dt g c).bind fun h =>
 d ((decide (0 ≤ h))) else d (false))) else some true)
def Eh (a:Aee):Nat → Int → Ag Bool
 | 0,_=>none
 | m + 1,b=>(if (decide (b < (a.length:Int))) = true then (AM a b).bind fun c =>
 (JO c).bind fun d =>
 (if (!d) = true then some false else (Eh a m) ((Af (b + 1)))) else CF a FU (0))
def FV (a:Aee):Ag Bool :=
 (if (decide (40 < (a.length:Int))) = true then some false else Eh a FU (0))
def DT (d:Aeg):Nat → Int → Ag Bool
 | 0,_=>none
 | m + 1,a=>(if (decide (a < (d.length:Int))) = true then (AM d a).bind fun b =>
 Bk (fun (e:Bool)=>(if e = true then some false else (DT d m) ((Af (a + 1))))) (fun c=>(if (decide (0 < a)) = true then (BX b.1 0 (Af (a - 1))).bind fun f =>
 (if (!f) = true then c (true) else (BX b.2.1 0 7).bind fun g =>
 (if (!g) = true then c (true) else (BX b.2.2 0 999).bind fun h =>
 c ((!h)))) else (BX b.2.1 0 7).bind fun i =>
 (if (!i) = true then c (true) else (BX b.2.2 0 999).bind fun j =>
 c ((!j))))) else some true)
def FI (a:Aeg):Ag Bool :=
 Bk (fun (c:Bool)=>(if c = true then some false else DT a FU (0))) (fun b=>(BX (a.length:Int) 1 60).bind fun d =>
 (if (!d) = true then b (true) else (AM a 0).bind fun e =>
 b ((e.1 != (-1)))))
def Ij (a:Aeg) (c:(Int × Int × Int)):Ag (Aeg × Bool) :=
 (FI a).bind fun d =>
 (if (!d) = true then some ([],false) else Bk (fun (b:Aeg)=>(FI b).bind fun e =>
 (if (!e) = true then some ([],false) else some (b,true))) (fun f=>(Cl [] a).bind fun g =>
 (Cl g [c]).bind fun h =>
 f (h)))
def Bm (c:(Aee → Int → Ag Aee)) (d:Int) (e:Int):Nat → Aee → Int → Ag Aee
 | 0,_,_=>none
 | m + 1,b,a=>Bk (fun (h:Bool)=>(if h = true then Bk (fun (i:Aee)=>(Bm c d e m) (i) ((Af (a - 1)))) (fun j=>(AM b (Af (a - 1))).bind fun f =>
 (AM b a).bind fun k =>
 (AM b a).bind fun p =>
 (AM (BF b a f) (Af (a - 1))).bind fun q =>
 j ((BF (BF b a f) (Af (a - 1)) k))) else c (b) ((Af (d + 1))))) (fun g=>(if (decide (e < a)) = true then (AM b a).bind fun l =>
 (AM b (Af (a - 1))).bind fun n =>
 (Dt l n).bind fun o =>
 g ((decide (o < 0))) else g (false)))
def AW (b:Int) (c:Int):Nat → Aee → Int → Ag Aee
 | 0,_,_=>none
 | m + 1,d,a=>(if (decide (a < b)) = true then Bm (AW b c m) a c FU (d) (a) else some d)
def Bi (b:Aee) (a:Int) (c:Int):Ag Aee :=
 AW c a FU (b) ((Af (a + 1)))
def Bw (e:Int) (d:Int) (c:Int):Nat → Aee → Int → Ag Aee
 | 0,_,_=>none
 | m + 1,b,a=>(if (decide (a < e)) = true then Bk (fun (g:Aee)=>(Bw e d c m) (g) ((Af (a + 1)))) (fun h=>(AM b (Af (d + a))).bind fun f =>
 (AM b (Af (c + a))).bind fun i =>
 (AM b (Af (c + a))).bind fun j =>
 (AM (BF b (Af (c + a)) f) (Af (d + a))).bind fun k =>
 h ((BF (BF b (Af (c + a)) f) (Af (d + a)) i))) else some b)
def B8 (a:Aee) (b:Int) (c:Int) (d:Int):Ag Aee :=
 Bw d c b FU (a) (0)
def B0 (b:Int):Nat → Aee → Int → Int → Ag Aee
 | 0,_,_,_=>none
 | m + 1,d,a,c=>(if (a != c) = true then (if (decide (c < a)) = true then (B8 d (Af (b - a)) b c).bind fun e =>
 (B0 b m) (e) ((Af (a - c))) (c) else (B8 d (Af (b - a)) (Af ((Af (b + c)) - a)) a).bind fun f =>
 (B0 b m) (f) (a) ((Af (c - a)))) else (B8 d (Af (b - a)) b a).bind fun g =>
 some g)
def BI (b:Aee) (c:Int) (a:Int) (d:Int):Ag Aee :=
 B0 a FU (b) ((Af (a - c))) ((Af (d - a)))
def Bz (c:Int):Nat → Aee → Int → Ag Aee
 | 0,_,_=>none
 | m + 1,b,a=>(if (decide (a < (Af (c - 1)))) = true then Bk (fun (e:Aee)=>(Bz c m) (e) ((Af (a + 1)))) (fun f=>(AM b (Af (a + 1))).bind fun d =>
 (AM b a).bind fun g =>
 (AM b a).bind fun h =>
 (AM (BF b a d) (Af (a + 1))).bind fun i =>
 f ((BF (BF b a d) (Af (a + 1)) g))) else some b)
def AJ (b:Aee) (d:Int):Nat → Int → Int → Ag Aee
 | 0,_,_=>none
 | m + 1,a,c=>(if (decide (a < c)) = true then (AM b (Af (Bq .u64 (Bg (Af (a + c))) 1))).bind fun e =>
 (AM b d).bind fun f =>
 (Dt e f).bind fun g =>
 (if (decide (g < 0)) = true then (AJ b d m) ((Af ((Af (Bq .u64 (Bg (Af (a + c))) 1)) + 1))) (c) else (AJ b d m) (a) ((Af (Bq .u64 (Bg (Af (a + c))) 1)))) else Bz a FU (b) (d))
def Bx (c:Int):Nat → Aee → Int → Ag Aee
 | 0,_,_=>none
 | m + 1,b,a=>(if (decide (c < a)) = true then Bk (fun (e:Aee)=>(Bx c m) (e) ((Af (a - 1)))) (fun f=>(AM b (Af (a - 1))).bind fun d =>
 (AM b a).bind fun g =>
 (AM b a).bind fun h =>
 (AM (BF b a d) (Af (a - 1))).bind fun i =>
 f ((BF (BF b a d) (Af (a - 1)) g))) else some b)
def AH (b:Aee) (d:Int):Nat → Int → Int → Ag Aee
 | 0,_,_=>none
 | m + 1,a,c=>(if (decide (a < c)) = true then (AM b d).bind fun e =>
 (AM b (Af (Bq .u64 (Bg (Af (a + c))) 1))).bind fun f =>
 (Dt e f).bind fun g =>
 (if (!(decide (g < 0))) = true then (AH b d m) ((Af ((Af (Bq .u64 (Bg (Af (a + c))) 1)) + 1))) (c) else (AH b d m) (a) ((Af (Bq .u64 (Bg (Af (a + c))) 1)))) else Bx a FU (b) (d))
def AG (e:Aee) (b:Int) (c:Int) (d:Int) (rec:(Aee → Int → Int → Int → Ag Aee)):Nat → Int → Int → Ag Aee
 | 0,_,_=>none
 | m + 1,a,f=>(if (decide (a < f)) = true then (AM e (Af ((Af ((Af ((Af (Bq .u64 (Bg (Af (b + c))) 1)) + d)) - 1)) - (Af (Bq .u64 (Bg (Af (a + f))) 1))))).bind fun o =>
 (AM e (Af (Bq .u64 (Bg (Af (a + f))) 1))).bind fun p =>
 (Dt o p).bind fun q =>
 (if (!(decide (q < 0))) = true then (AG e b c d rec m) ((Af ((Af (Bq .u64 (Bg (Af (a + f))) 1)) + 1))) (f) else (AG e b c d rec m) (a) ((Af (Bq .u64 (Bg (Af (a + f))) 1)))) else Bk (fun (g:Aee)=>Bk (fun (h:Aee)=>Bk (fun (r:Bool)=>(if r = true then (rec h (Af (Bq .u64 (Bg (Af (b + c))) 1)) (Af ((Af ((Af (Bq .u64 (Bg (Af (b + c))) 1)) + d)) - a)) c).bind fun s =>
 some s else some h)) (fun i=>(if (decide ((Af (Bq .u64 (Bg (Af (b + c))) 1)) < (Af ((Af ((Af (Bq .u64 (Bg (Af (b + c))) 1)) + d)) - a)))) = true then i ((decide ((Af ((Af ((Af (Bq .u64 (Bg (Af (b + c))) 1)) + d)) - a)) < c))) else i (false)))) (fun j=>Bk (fun (t:Bool)=>(if t = true then (rec g b a (Af (Bq .u64 (Bg (Af (b + c))) 1))).bind fun u =>
 j (u) else j (g))) (fun k=>(if (decide (b < a)) = true then k ((decide (a < (Af (Bq .u64 (Bg (Af (b + c))) 1))))) else k (false))))) (fun l=>Bk (fun (v:Bool)=>(if v = true then (BI e a d (Af ((Af ((Af (Bq .u64 (Bg (Af (b + c))) 1)) + d)) - a))).bind fun w =>
 l (w) else l (e))) (fun n=>(if (decide (a < d)) = true then n ((decide (d < (Af ((Af ((Af (Bq .u64 (Bg (Af (b + c))) 1)) + d)) - a))))) else n (false)))))
def BW (rec:Aee → Int → Int → Int → Ag Aee) (d:Aee) (b:Int) (a:Int) (c:Int):Ag Aee :=
 (if ((Af (a - b)) == 1) = true then AJ d b FU (a) (c) else (if ((Af (c - a)) == 1) = true then AH d a FU (b) (a) else Fz (fun (f:Int) (g:Int)=>AG d b c a rec FU (f) (g)) (fun e=>(if (decide ((Af (Bq .u64 (Bg (Af (b + c))) 1)) < a)) = true then e ((Af ((Af ((Af (Bq .u64 (Bg (Af (b + c))) 1)) + a)) - c))) ((Af (Bq .u64 (Bg (Af (b + c))) 1))) else e (b) (a)))))
def AN:Nat → Aee → Int → Int → Int → Ag Aee
 | 0,_,_,_,_=>none
 | m + 1,a,b,c,d=>BW (AN m) a b c d
def Cb (a:Aee) (b:Int) (c:Int) (d:Int):Ag Aee :=
 AN FU a b c d
def Bn (c:Int) (a:Int) (f:(Aee → Int → Ag Aee)):Nat → Aee → Int → Int → Ag Aee
 | 0,_,_,_=>none
 | m + 1,e,b,d=>(if (decide (d ≤ c)) = true then (Cb e b (Af (b + a)) d).bind fun h =>
 (Bn c a f m) (h) (d) ((Af (d + (Af (2 * a))))) else Bk (fun (i:Aee)=>f (i) ((Af (a * 2)))) (fun g=>(if (decide ((Af (b + a)) < c)) = true then (Cb e b (Af (b + a)) c).bind fun j =>
 g (j) else g (e))))
def AE (a:Int):Nat → Aee → Int → Ag Aee
 | 0,_,_=>none
 | m + 1,c,b=>(if (decide (b < a)) = true then Bn a b (AE a m) FU (c) (0) ((Af (2 * b))) else some c)
def AL (a:Int):Nat → Aee → Int → Int → Ag Aee
 | 0,_,_,_=>none
 | m + 1,c,d,b=>(if (decide (b ≤ a)) = true then (Bi c d b).bind fun e =>
 (AL a m) (e) (b) ((Af (b + 20))) else (Bi c d a).bind fun f =>
 AE a FU (f) (20))
def C7 (a:Aee) (b:Int):Ag Aee :=
 AL b FU (a) (0) (20)
def B7 (a:Aee):Ag Aee :=
 (C7 a (a.length:Int)).bind fun b =>
 some b
def CI (a:(Aed × Aed × Int × Aed × Aee × Aeg)) (f:(List Aj)) (b:(List Int)):Ag ((List Aj) × (Aed × Aed × Int × Aed × Aee × Aeg)) :=
 (if (f == [109,101,97,115,117,114,101]) = true then Fz (fun (c:(Aed × Aed × Int × Aed × Aee × Aeg)) (g:Aed)=>(I1 g).bind fun j =>
 (if (!j) = true then some ([110,111],c) else some ([111,107],(c.1,c.2.1,c.2.2.1,g,c.2.2.2.2.1,c.2.2.2.2.2)))) (fun k=>(AM b 0).bind fun l =>
 (AM b 1).bind fun m =>
 (Cl [] a.2.2.2.1).bind fun n =>
 (Cl n [(l,m)]).bind fun o =>
 k (a) (o)) else (if (f == [99,97,114,114,121]) = true then Fz (fun (d:(Aed × Aed × Int × Aed × Aee × Aeg)) (p:Aee)=>(B7 p).bind fun h =>
 (FV h).bind fun q =>
 (if (!q) = true then some ([110,111],d) else some ([111,107],(d.1,d.2.1,d.2.2.1,d.2.2.2.1,h,d.2.2.2.2.2)))) (fun r=>(AM b 0).bind fun s =>
 (AM b 1).bind fun t =>
 (AM b 2).bind fun u =>
 (AM b 3).bind fun v =>
 (Cl [] a.2.2.2.2.1).bind fun w =>
 (Cl w [(s,t,u,v)]).bind fun x =>
 r (a) (x)) else (AM b 0).bind fun y =>
 (AM b 1).bind fun z =>
 (AM b 2).bind fun aa =>
 (Ij a.2.2.2.2.2 (y,z,aa)).bind fun e =>
 Bk (fun (ab:(Aed × Aed × Int × Aed × Aee × Aeg))=>(Iz e.2).bind fun ac =>
 some (ac,ab)) (fun i=>(if e.2 = true then i ((a.1,a.2.1,a.2.2.1,a.2.2.2.1,a.2.2.2.2.1,e.1)) else i (a)))))
def H4 (b:Aed) (c:Aed) (d:Int):Ag Bool :=
 Bk (fun (e:Bool)=>some e) (fun a=>(Ea b).bind fun f =>
 (if f = true then (Ea c).bind fun g =>
 (if g = true then (if ((b.length:Int) == (c.length:Int)) = true then (BX d 1 64).bind fun h =>
 a (h) else a (false)) else a (false)) else a (false)))
def Ee (a:(Int × Int)) (b:(Int × Int)):Ag Int :=
 some (Af ((Af ((Af (a.1 - b.1)) * (Af (a.1 - b.1)))) + (Af ((Af (a.2 - b.2)) * (Af (a.2 - b.2))))))
def Ep (a:Aed) (c:(Int × Int)) (d:Aei) (e:(Aei → Int → Ag Aei)) (f:Int):Nat → (List Int) → Int → Ag Aei
 | 0,_,_=>none
 | m + 1,g,b=>(if (decide (b < (a.length:Int))) = true then (AM a b).bind fun h =>
 (Ee c h).bind fun i =>
 (Cl g [i]).bind fun j =>
 (Ep a c d e f m) (j) ((Af (b + 1))) else (Cl d [g]).bind fun k =>
 e (k) ((Af (f + 1))))
def DE (a:Aed) (c:Aed):Nat → Aei → Int → Ag Aei
 | 0,_,_=>none
 | m + 1,d,b=>(if (decide (b < (a.length:Int))) = true then (AM a b).bind fun e =>
 Ep c e d (DE a c m) b FU ([]) (0) else some d)
def IB (a:Aed) (b:Aed):Ag Aei :=
 DE a b FU ([]) (0)
def KY (a:Int):Ag Int :=
 some (B4 .i64 (Af (Bg ((Bg ((Bg ((B4 .u64 (Bg ((Bq .u64 (Bg ((B4 .u64 (Bq .u64 (Bg ((B4 .u64 (Bq .u64 a 1) 6148914691236517205) + (B4 .u64 a 6148914691236517205))) 2) 3689348814741910323) + (B4 .u64 (Bg ((B4 .u64 (Bq .u64 a 1) 6148914691236517205) + (B4 .u64 a 6148914691236517205))) 3689348814741910323))) 4) + (Bg ((B4 .u64 (Bq .u64 (Bg ((B4 .u64 (Bq .u64 a 1) 6148914691236517205) + (B4 .u64 a 6148914691236517205))) 2) 3689348814741910323) + (B4 .u64 (Bg ((B4 .u64 (Bq .u64 a 1) 6148914691236517205) + (B4 .u64 a 6148914691236517205))) 3689348814741910323))))) 1085102592571150095) + (Bq .u64 (B4 .u64 (Bg ((Bq .u64 (Bg ((B4 .u64 (Bq .u64 (Bg ((B4 .u64 (Bq .u64 a 1) 6148914691236517205) + (B4 .u64 a 6148914691236517205))) 2) 3689348814741910323) + (B4 .u64 (Bg ((B4 .u64 (Bq .u64 a 1) 6148914691236517205) + (B4 .u64 a 6148914691236517205))) 3689348814741910323))) 4) + (Bg ((B4 .u64 (Bq .u64 (Bg ((B4 .u64 (Bq .u64 a 1) 6148914691236517205) + (B4 .u64 a 6148914691236517205))) 2) 3689348814741910323) + (B4 .u64 (Bg ((B4 .u64 (Bq .u64 a 1) 6148914691236517205) + (B4 .u64 a 6148914691236517205))) 3689348814741910323))))) 1085102592571150095) 8))) + (Bq .u64 (Bg ((B4 .u64 (Bg ((Bq .u64 (Bg ((B4 .u64 (Bq .u64 (Bg ((B4 .u64 (Bq .u64 a 1) 6148914691236517205) + (B4 .u64 a 6148914691236517205))) 2) 3689348814741910323) + (B4 .u64 (Bg ((B4 .u64 (Bq .u64 a 1) 6148914691236517205) + (B4 .u64 a 6148914691236517205))) 3689348814741910323))) 4) + (Bg ((B4 .u64 (Bq .u64 (Bg ((B4 .u64 (Bq .u64 a 1) 6148914691236517205) + (B4 .u64 a 6148914691236517205))) 2) 3689348814741910323) + (B4 .u64 (Bg ((B4 .u64 (Bq .u64 a 1) 6148914691236517205) + (B4 .u64 a 6148914691236517205))) 3689348814741910323))))) 1085102592571150095) + (Bq .u64 (B4 .u64 (Bg ((Bq .u64 (Bg ((B4 .u64 (Bq .u64 (Bg ((B4 .u64 (Bq .u64 a 1) 6148914691236517205) + (B4 .u64 a 6148914691236517205))) 2) 3689348814741910323) + (B4 .u64 (Bg ((B4 .u64 (Bq .u64 a 1) 6148914691236517205) + (B4 .u64 a 6148914691236517205))) 3689348814741910323))) 4) + (Bg ((B4 .u64 (Bq .u64 (Bg ((B4 .u64 (Bq .u64 a 1) 6148914691236517205) + (B4 .u64 a 6148914691236517205))) 2) 3689348814741910323) + (B4 .u64 (Bg ((B4 .u64 (Bq .u64 a 1) 6148914691236517205) + (B4 .u64 a 6148914691236517205))) 3689348814741910323))))) 1085102592571150095) 8))) 16))) + (Bq .u64 (Bg ((Bg ((B4 .u64 (Bg ((Bq .u64 (Bg ((B4 .u64 (Bq .u64 (Bg ((B4 .u64 (Bq .u64 a 1) 6148914691236517205) + (B4 .u64 a 6148914691236517205))) 2) 3689348814741910323) + (B4 .u64 (Bg ((B4 .u64 (Bq .u64 a 1) 6148914691236517205) + (B4 .u64 a 6148914691236517205))) 3689348814741910323))) 4) + (Bg ((B4 .u64 (Bq .u64 (Bg ((B4 .u64 (Bq .u64 a 1) 6148914691236517205) + (B4 .u64 a 6148914691236517205))) 2) 3689348814741910323) + (B4 .u64 (Bg ((B4 .u64 (Bq .u64 a 1) 6148914691236517205) + (B4 .u64 a 6148914691236517205))) 3689348814741910323))))) 1085102592571150095) + (Bq .u64 (B4 .u64 (Bg ((Bq .u64 (Bg ((B4 .u64 (Bq .u64 (Bg ((B4 .u64 (Bq .u64 a 1) 6148914691236517205) + (B4 .u64 a 6148914691236517205))) 2) 3689348814741910323) + (B4 .u64 (Bg ((B4 .u64 (Bq .u64 a 1) 6148914691236517205) + (B4 .u64 a 6148914691236517205))) 3689348814741910323))) 4) + (Bg ((B4 .u64 (Bq .u64 (Bg ((B4 .u64 (Bq .u64 a 1) 6148914691236517205) + (B4 .u64 a 6148914691236517205))) 2) 3689348814741910323) + (B4 .u64 (Bg ((B4 .u64 (Bq .u64 a 1) 6148914691236517205) + (B4 .u64 a 6148914691236517205))) 3689348814741910323))))) 1085102592571150095) 8))) + (Bq .u64 (Bg ((B4 .u64 (Bg ((Bq .u64 (Bg ((B4 .u64 (Bq .u64 (Bg ((B4 .u64 (Bq .u64 a 1) 6148914691236517205) + (B4 .u64 a 6148914691236517205))) 2) 3689348814741910323) + (B4 .u64 (Bg ((B4 .u64 (Bq .u64 a 1) 6148914691236517205) + (B4 .u64 a 6148914691236517205))) 3689348814741910323))) 4) + (Bg ((B4 .u64 (Bq .u64 (Bg ((B4 .u64 (Bq .u64 a 1) 6148914691236517205) + (B4 .u64 a 6148914691236517205))) 2) 3689348814741910323) + (B4 .u64 (Bg ((B4 .u64 (Bq .u64 a 1) 6148914691236517205) + (B4 .u64 a 6148914691236517205))) 3689348814741910323))))) 1085102592571150095) + (Bq .u64 (B4 .u64 (Bg ((Bq .u64 (Bg ((B4 .u64 (Bq .u64 (Bg ((B4 .u64 (Bq .u64 a 1) 6148914691236517205) + (B4 .u64 a 6148914691236517205))) 2) 3689348814741910323) + (B4 .u64 (Bg ((B4 .u64 (Bq .u64 a 1) 6148914691236517205) + (B4 .u64 a 6148914691236517205))) 3689348814741910323))) 4) + (Bg ((B4 .u64 (Bq .u64 (Bg ((B4 .u64 (Bq .u64 a 1) 6148914691236517205) + (B4 .u64 a 6148914691236517205))) 2) 3689348814741910323) + (B4 .u64 (Bg ((B4 .u64 (Bq .u64 a 1) 6148914691236517205) + (B4 .u64 a 6148914691236517205))) 3689348814741910323))))) 1085102592571150095) 8))) 16))) 32)))) 127)
def H6 (a:Int):Ag Int :=
 (KY a).bind fun b =>
 some b
def DG (d:Aei) (a:Int) (e:Int) (f:((List Int) → Int → Ag (List Int))):Nat → (List Int) → Int → Ag (List Int)
 | 0,_,_=>none
 | m + 1,b,c=>(if (decide (c < (d.length:Int))) = true then Bk (fun (h:(List Int))=>(DG d a e f m) (h) ((Af (c + 1)))) (fun g=>(if (decide (0 ≤ c)) = true then (if ((B4 .i64 (Bq .i64 a c) 1) == 0) = true then (AM b a).bind fun i =>
 (AM d e).bind fun j =>
 (AM j c).bind fun k =>
 (AM b (Td .i64 a (Ky .i64 1 c))).bind fun l =>
 (AM b a).bind fun n =>
 g ((BF b a (Fn i (Af (k + l))))) else g (b)) else none)) else f (b) ((Af (a - 1))))
def Et (c:Aei):Nat → (List Int) → Int → Ag (List Int)
 | 0,_,_=>none
 | m + 1,b,a=>(if (decide (0 ≤ a)) = true then (H6 (Bg a)).bind fun d =>
 (AM b a).bind fun e =>
 DG c a d (Et c m) FU ((BF b a 13194139533312)) (0) else some b)
def IE (a:Aei):Ag (List Int) :=
 (if (decide (0 ≤ (a.length:Int))) = true then (RR (Ky .i64 1 (a.length:Int)) 0).bind fun b =>
 Et a FU (b) ((Af ((Ky .i64 1 (a.length:Int)) - 2))) else none)
def Dy (c:Aei) (d:(List Int)) (e:(Int → (List Int) → Ag (List Int))) (b:Int) (g:Int) (f:(List Int)):Nat → Int → Ag (List Int)
 | 0,_=>none
 | m + 1,a=>(if (decide (a < (c.length:Int))) = true then Bk (fun (i:Bool)=>(if i = true then (Cl d [a]).bind fun j =>
 (if (decide (0 ≤ a)) = true then e ((Td .i64 b (Ky .i64 1 a))) (j) else none) else (Dy c d e b g f m) ((Af (a + 1))))) (fun h=>(if (decide (0 ≤ a)) = true then (if ((B4 .i64 (Bq .i64 b a) 1) == 0) = true then (AM c g).bind fun k =>
 (AM k a).bind fun l =>
 (AM f b).bind fun n =>
 (AM f (Td .i64 b (Ky .i64 1 a))).bind fun o =>
 h (((Af (l + o)) == n)) else h (false)) else none)) else e (b) (d))
def Dz (a:Aei) (c:(List Int)):Nat → Int → (List Int) → Int → Ag (List Int)
 | 0,_,_,_=>none
 | m + 1,e,d,b=>(if (decide (b < (a.length:Int))) = true then Fz (fun (f:Int) (g:(List Int))=>(Dz a c m) (f) (g) ((Af (b + 1)))) (fun h=>Dy a d h e b c FU (0)) else some d)
def GS (a:Aei):Ag (List Int) :=
 (IE a).bind fun b =>
 Dz a b FU (0) ([]) (0)
def Ft (a:(List Int)):Ag (List Int) :=
 (Cl [] a).bind fun b =>
 some b
def EK (a:Aed) (b:Aed) (c:Int) (d:(List Int)):Ag (Aed × Aed × Int × (List Int)) :=
 (Cl [] a).bind fun e =>
 (Cl [] b).bind fun f =>
 (Ft d).bind fun g =>
 some (e,f,c,g)
def Gq (a:Aed) (b:Aed) (c:Int):Ag ((Aed × Aed × Int × (List Int)) × Bool) :=
 (H4 a b c).bind fun d =>
 (if (!d) = true then some (([],[],0,[]),false) else (IB a b).bind fun e =>
 (GS e).bind fun f =>
 (EK a b c f).bind fun g =>
 some (g,true))
def Eg (b:(List Int)) (c:Int):Nat → Int → Int → Ag Bool
 | 0,_,_=>none
 | m + 1,e,d=>(if (decide (d < (b.length:Int))) = true then (AM b d).bind fun a =>
 Bk (fun (g:Bool)=>(if g = true then some false else (if (decide (0 ≤ a)) = true then (Eg b c m) ((Td .i64 e (Ky .i64 1 a))) ((Af (d + 1))) else none))) (fun f=>(BX a 0 (Af (c - 1))).bind fun h =>
 (if (!h) = true then f (true) else (if (decide (0 ≤ a)) = true then f (((B4 .i64 (Bq .i64 e a) 1) == 1)) else none))) else some ((b.length:Int) == c))
def Ih (a:(List Int)) (b:Int):Ag Bool :=
 Eg a b FU (0) (0)
def Fp (a:(Aed × Aed × Int × (List Int))):Ag Bool :=
 Bk (fun (c:Bool)=>some c) (fun b=>(Ea a.1).bind fun d =>
 (if d = true then (Ea a.2.1).bind fun e =>
 (if e = true then (if ((a.1.length:Int) == (a.2.1.length:Int)) = true then (BX a.2.2.1 1 64).bind fun f =>
 (if f = true then (Ih a.2.2.2 (a.1.length:Int)).bind fun g =>
 b (g) else b (false)) else b (false)) else b (false)) else b (false)))
def Er (a:(Aed × Aed × Int × (List Int))):Nat → Int → Int → Ag Int
 | 0,_,_=>none
 | m + 1,c,b=>(if (decide (b < (a.2.2.2.length:Int))) = true then (AM a.2.2.2 b).bind fun d =>
 (AM a.1 b).bind fun e =>
 (AM a.2.1 d).bind fun f =>
 (Ee e f).bind fun g =>
 (Er a m) ((Af (c + g))) ((Af (b + 1))) else some c)
def IC (a:(Aed × Aed × Int × (List Int))):Ag Int :=
 Er a FU (0) (0)
def H5 (a:(Aed × Aed × Int × (List Int))):Ag (Int × Bool) :=
 (Fp a).bind fun b =>
 (if (!b) = true then some (0,false) else (IC a).bind fun c =>
 some (c,true))
def Fr (a:Int) (b:Bool):Ag (List Aj) :=
 (if b = true then (CY a).bind fun c =>
 some c else some ([110,111]))
def Dg (a:Aed) (c:Aed) (d:Int):Nat → (List Int) → Int → Ag ((Aed × Aed × Int × (List Int)) × Bool)
 | 0,_,_=>none
 | m + 1,e,b=>(if (decide (b < (a.length:Int))) = true then (Cl e [b]).bind fun f =>
 (Dg a c d m) (f) ((Af (b + 1))) else (EK a c d e).bind fun g =>
 some (g,true))
def ER (a:Aed) (b:Aed) (c:Int):Ag ((Aed × Aed × Int × (List Int)) × Bool) :=
 (H4 a b c).bind fun d =>
 (if (!d) = true then some (([],[],0,[]),false) else Dg a b c FU ([]) (0))
def I0 (a:Int):Ag Bool :=
 (BX a 0 80).bind fun b =>
 some b
def Fk (a:(Aed × Aed × Int × (List Int))):Nat → (List Aef) → Int → Ag (List Aef)
 | 0,_,_=>none
 | m + 1,c,b=>(if (decide (b < (a.2.2.2.length:Int))) = true then (AM a.2.2.2 b).bind fun d =>
 (AM a.1 b).bind fun e =>
 (AM a.2.1 d).bind fun f =>
 (Cl c [(e,f,a.2.2.1)]).bind fun g =>
 (Fk a m) (g) ((Af (b + 1))) else some c)
def H3 (a:(Aed × Aed × Int × (List Int))):Ag (List Aef) :=
 Fk a FU ([]) (0)
def Lj (a:Aef) (b:Aef):Ag ((Int × Int) × (Int × Int) × Int × Int) :=
 some (((Af (a.1.1 - b.1.1)),(Af (a.1.2 - b.1.2))),((Af ((Af (a.2.1.1 - b.2.1.1)) - (Af (a.1.1 - b.1.1)))),(Af ((Af (a.2.1.2 - b.2.1.2)) - (Af (a.1.2 - b.1.2))))),(Af ((Af ((Af (a.1.1 - b.1.1)) * (Af ((Af (a.2.1.1 - b.2.1.1)) - (Af (a.1.1 - b.1.1)))))) + (Af ((Af (a.1.2 - b.1.2)) * (Af ((Af (a.2.1.2 - b.2.1.2)) - (Af (a.1.2 - b.1.2)))))))),(Af ((Af ((Af ((Af (a.2.1.1 - b.2.1.1)) - (Af (a.1.1 - b.1.1)))) * (Af ((Af (a.2.1.1 - b.2.1.1)) - (Af (a.1.1 - b.1.1)))))) + (Af ((Af ((Af (a.2.1.2 - b.2.1.2)) - (Af (a.1.2 - b.1.2)))) * (Af ((Af (a.2.1.2 - b.2.1.2)) - (Af (a.1.2 - b.1.2)))))))))
def GT  : Nat → Int → Int → Ag Int
 | 0,_,_=>none
 | m + 1,b,a=>(if (a != 0) = true then (if a = 0 then none else (GT m) (a) ((Int.tmod b a))) else some b)
def Mo (a:Int) (b:Int):Ag Int :=
 GT FU ((Fx a (Af (0 - a)))) ((Fx b (Af (0 - b))))
def FH (b:Int) (c:Int):Ag (Int × Int) :=
 (Mo b c).bind fun a =>
 (if a = 0 then none else (if a = 0 then none else some ((Af (Int.tdiv b a)),(Af (Int.tdiv c a)))))
def Ig (b:Aef) (c:Aef):Ag (Int × Int) :=
 (Lj b c).bind fun a =>
 (if (decide (0 ≤ a.2.2.1)) = true then some ((Af ((Af (a.1.1 * a.1.1)) + (Af (a.1.2 * a.1.2)))),1) else (if (decide (a.2.2.2 ≤ (Af (0 - a.2.2.1)))) = true then (Ee b.2.1 c.2.1).bind fun d =>
 some (d,1) else (FH (Af ((Af ((Af (a.1.1 * a.2.1.2)) - (Af (a.1.2 * a.2.1.1)))) * (Af ((Af (a.1.1 * a.2.1.2)) - (Af (a.1.2 * a.2.1.1)))))) a.2.2.2).bind fun e =>
 some e))
def IA (c:Aef) (d:Aef) (a:Int):Ag Bool :=
 (Ig c d).bind fun b =>
 some (decide ((Af ((Af (a * a)) * b.2)) ≤ b.1))
def D0 (u8:(List Aef)) (a:Int) (d:Int) (e:(Aei → Int → Ag Aei)):Nat → Aei → Int → Ag Aei
 | 0,_,_=>none
 | m + 1,c,b=>(if (decide (b < (u8.length:Int))) = true then Bk (fun (g:Aei)=>(D0 u8 a d e m) (g) ((Af (b + 1)))) (fun f=>(AM u8 a).bind fun h =>
 (AM u8 b).bind fun i =>
 (IA h i d).bind fun j =>
 (if (!j) = true then (Cl c [[a,b]]).bind fun k =>
 f (k) else f (c))) else e (c) ((Af (a + 1))))
def D1 (u8:(List Aef)) (b:Int):Nat → Aei → Int → Ag Aei
 | 0,_,_=>none
 | m + 1,c,a=>(if (decide (a < (u8.length:Int))) = true then D0 u8 a b (D1 u8 b m) FU (c) ((Af (a + 1))) else some c)
def GV (a:(Aed × Aed × Int × (List Int))) (b:Int):Ag Aei :=
 (H3 a).bind fun u8 =>
 D1 u8 b FU ([]) (0)
def GW (a:(Aed × Aed × Int × (List Int))) (b:Int):Ag (Aei × Bool) :=
 Bk (fun (d:Bool)=>(if d = true then some ([],false) else (GV a b).bind fun e =>
 some (e,true))) (fun c=>(Fp a).bind fun f =>
 (if (!f) = true then c (true) else (I0 b).bind fun g =>
 c ((!g))))
def CE (a:(Aei × Bool)):Nat → (List (List Aj)) → Int → Ag (List Aj)
 | 0,_,_=>none
 | m + 1,c,b=>(if (decide (b < (a.1.length:Int))) = true then Bk (fun (e:(List (List Aj)))=>(CE a m) (e) ((Af (b + 1)))) (fun f=>(AM a.1 b).bind fun d =>
 (AM d 0).bind fun g =>
 (AM d 1).bind fun h =>
 (CY g).bind fun i =>
 (Cl i [45]).bind fun j =>
 (CY h).bind fun k =>
 (Cl j k).bind fun l =>
 (Cl c [l]).bind fun n =>
 f (n)) else (Iv c [32]).bind fun o =>
 some o)
def GJ (b:(Aed × Aed × Int × Aed × Aee × Aeg)) (d:Int):Ag (List Aj) :=
 Ws (fun (e:Aed) (f:Aed) (g:Int) (h:(List Int))=>(GW (e,f,g,h) d).bind fun c =>
 (if (!c.2) = true then some ([110,111]) else (if ((c.1.length:Int) == 0) = true then some ([110,111,110,101]) else CE c FU ([]) (0)))) (fun i=>(ER b.2.1 b.1 b.2.2.1).bind fun a =>
 i (a.1.1) (a.1.2.1) (a.1.2.2.1) (a.1.2.2.2))
def J2 (a:(Aed × Aed × Int × (List Int))):Ag Bool :=
 Bk (fun (c:Bool)=>some c) (fun b=>(Fp a).bind fun d =>
 (if d = true then (if (decide (a.2.2.1 ≤ 16)) = true then b ((decide ((a.1.length:Int) ≤ 6))) else b (false)) else b (false)))
def FP (a:Aef) (b:Int):Ag (Int × Int) :=
 some ((Af ((Af (a.1.1 * a.2.2)) + (Af (b * (Af (a.2.1.1 - a.1.1)))))),(Af ((Af (a.1.2 * a.2.2)) + (Af (b * (Af (a.2.1.2 - a.1.2)))))))
def Ge (a:Aef) (b:Int) (c:Int):Ag (Int × Int) :=
 (FP a (Fn (Fx (Af (c - b)) 0) a.2.2)).bind fun u8 =>
 some u8
def JQ (a:Int) (b:Int):Ag (Int × Int) :=
 some ((Bg ((Bg ((Bg ((Bq .u64 a 32) * (Bq .u64 b 32))) + (Bq .u64 (Bg ((Bg ((Bq .u64 a 32) * (B4 .u64 b 4294967295))) + (Bq .u64 (Bg ((B4 .u64 a 4294967295) * (B4 .u64 b 4294967295))) 32))) 32))) + (Bq .u64 (Bg ((B4 .u64 (Bg ((Bg ((Bq .u64 a 32) * (B4 .u64 b 4294967295))) + (Bq .u64 (Bg ((B4 .u64 a 4294967295) * (B4 .u64 b 4294967295))) 32))) 4294967295) + (Bg ((B4 .u64 a 4294967295) * (Bq .u64 b 32))))) 32))),(Bg (a * b)))
def Fo (d:Int) (e:Int) (f:Int) (g:Int):Ag Bool :=
 (JQ (Bg d) (Bg g)).bind fun a =>
 (JQ (Bg f) (Bg e)).bind fun b =>
 Bk (fun (h:Bool)=>some h) (fun c=>(if (decide (a.1 < b.1)) = true then c (true) else (if (a.1 == b.1) = true then c ((decide (a.2 < b.2))) else c (false))))
def C2 (e:Aef) (g:Int) (h:Int) (k:Aef):Nat → Int → Int → Int → Int → Int → Ag (Int × Int)
 | 0,_,_,_,_,_=>none
 | m + 1,c,d,i,j,f=>(if (decide (f ≤ (Af (e.2.2 + (Fx g h))))) = true then (Ge e g f).bind fun a =>
 (Ge k h f).bind fun b =>
 Fz (fun (l:Int) (n:Int)=>Fz (fun (s:Int) (t:Int)=>(C2 e g h k m) ((Af (a.1 - b.1))) ((Af (a.2 - b.2))) (s) (t) ((Af (f + 1)))) (fun o=>(Fo l n i j).bind fun u =>
 (if u = true then o (l) (n) else o (i) (j)))) (fun p=>Bk (fun (v:Bool)=>(if v = true then p ((Af ((Af ((Af (c * (Af ((Af (a.2 - b.2)) - d)))) - (Af (d * (Af ((Af (a.1 - b.1)) - c)))))) * (Af ((Af (c * (Af ((Af (a.2 - b.2)) - d)))) - (Af (d * (Af ((Af (a.1 - b.1)) - c))))))))) ((Af ((Af ((Af ((Af (a.1 - b.1)) - c)) * (Af ((Af (a.1 - b.1)) - c)))) + (Af ((Af ((Af (a.2 - b.2)) - d)) * (Af ((Af (a.2 - b.2)) - d))))))) else p ((Af ((Af ((Af (a.1 - b.1)) * (Af (a.1 - b.1)))) + (Af ((Af (a.2 - b.2)) * (Af (a.2 - b.2))))))) (1))) (fun q=>(if (decide ((Af ((Af (c * (Af ((Af (a.1 - b.1)) - c)))) + (Af (d * (Af ((Af (a.2 - b.2)) - d)))))) < 0)) = true then q ((decide ((Af (0 - (Af ((Af (c * (Af ((Af (a.1 - b.1)) - c)))) + (Af (d * (Af ((Af (a.2 - b.2)) - d)))))))) < (Af ((Af ((Af ((Af (a.1 - b.1)) - c)) * (Af ((Af (a.1 - b.1)) - c)))) + (Af ((Af ((Af (a.2 - b.2)) - d)) * (Af ((Af (a.2 - b.2)) - d))))))))) else q (false)))) else (FH i j).bind fun r =>
 (FH r.1 (Af ((Af (r.2 * e.2.2)) * e.2.2))).bind fun w =>
 some w)
def Gg (c:Aef) (d:Aef) (e:Int) (f:Int):Ag (Int × Int) :=
 (FP c 0).bind fun a =>
 (FP d 0).bind fun b =>
 C2 c e f d FU ((Af (a.1 - b.1))) ((Af (a.2 - b.2))) ((Af ((Af ((Af (a.1 - b.1)) * (Af (a.1 - b.1)))) + (Af ((Af (a.2 - b.2)) * (Af (a.2 - b.2))))))) (1) (1)
def Gh (c:Aef) (d:Aef) (e:Int) (f:Int) (a:Int):Ag Bool :=
 (Gg c d e f).bind fun b =>
 some (decide (b.1 < (Af ((Af (a * a)) * b.2))))
def D6 (u8:(List Aef)) (a:Int) (c:(List Int)) (e:Int) (f:(Aei → Int → Ag Aei)):Nat → Aei → Int → Ag Aei
 | 0,_,_=>none
 | m + 1,d,b=>(if (decide (b < (u8.length:Int))) = true then Bk (fun (h:Aei)=>(D6 u8 a c e f m) (h) ((Af (b + 1)))) (fun g=>(AM u8 a).bind fun i =>
 (AM u8 b).bind fun j =>
 (AM c a).bind fun k =>
 (AM c b).bind fun l =>
 (Gh i j k l e).bind fun n =>
 (if n = true then (Cl d [[a,b]]).bind fun o =>
 g (o) else g (d))) else f (d) ((Af (a + 1))))
def D7 (u8:(List Aef)) (b:(List Int)) (c:Int):Nat → Aei → Int → Ag Aei
 | 0,_,_=>none
 | m + 1,d,a=>(if (decide (a < (u8.length:Int))) = true then D6 u8 a b c (D7 u8 b c m) FU (d) ((Af (a + 1))) else some d)
def Hs (a:(Aed × Aed × Int × (List Int))) (b:(List Int)) (c:Int):Ag Aei :=
 (H3 a).bind fun u8 =>
 D7 u8 b c FU ([]) (0)
def Gf (a:(Aed × Aed × Int × (List Int))) (b:Int):Ag Bool :=
 (RR (a.1.length:Int) 0).bind fun c =>
 (Hs a c b).bind fun d =>
 some ((d.length:Int) == 0)
def Id (b:(Aed × Aed × Int × (List Int))) (c:Int) (d:Int):Ag (Aed × Aed × Int × (List Int)) :=
 (EK b.1 b.2.1 b.2.2.1 b.2.2.2).bind fun a =>
 Bk (fun (f:(List Int))=>some (a.1,a.2.1,a.2.2.1,f)) (fun g=>(AM a.2.2.2 d).bind fun e =>
 (AM a.2.2.2 c).bind fun h =>
 (AM a.2.2.2 c).bind fun i =>
 (AM (BF a.2.2.2 c e) d).bind fun j =>
 g ((BF (BF a.2.2.2 c e) d h)))
def Ef (c:(Aed × Aed × Int × (List Int))) (a:Int) (d:Int) (e:(Int → Ag (Int × Int × Bool))):Nat → Int → Ag (Int × Int × Bool)
 | 0,_=>none
 | m + 1,b=>(if (decide (b < (c.1.length:Int))) = true then (Id c a b).bind fun f =>
 (Gf f d).bind fun g =>
 (if g = true then some (a,b,true) else (Ef c a d e m) ((Af (b + 1)))) else e ((Af (a + 1))))
def Dm (a:(Aed × Aed × Int × (List Int))) (c:Int):Nat → Int → Ag (Int × Int × Bool)
 | 0,_=>none
 | m + 1,b=>(if (decide (b < (a.1.length:Int))) = true then Ef a b c (Dm a c m) FU ((Af (b + 1))) else some (0,0,false))
def Ie (a:(Aed × Aed × Int × (List Int))) (b:Int):Ag (Int × Int × Bool) :=
 Dm a b FU (0)
def CJ (a:(List Int)) (b:Int) (rec:(Aeh → (List Int) → Int → Ag Aeh)) (g:Int) (e:(Aeh → Ag Aeh)):Nat → Aeh → Bool → Int → Ag Aeh
 | 0,_,_,_=>none
 | m + 1,d,h,c=>(if (decide (c < (a.length:Int))) = true then Fz (fun (j:Aeh) (k:Bool)=>(CJ a b rec g e m) (j) (k) ((Af (c + 1)))) (fun i=>(AM a c).bind fun f =>
 (if h = true then (if (decide (0 ≤ c) && decide (c < 6)) = true then (if (decide (0 ≤ (a.length:Int)) && decide ((a.length:Int) < 6)) = true then (if (decide (0 ≤ f) && decide (f < 5)) = true then (if (decide (0 ≤ b) && decide (b < 5)) = true then (d.1[c.toNat * 150 + (a.length:Int).toNat * 25 + f.toNat * 5 + b.toNat * 1]?).bind fun l =>
 i (d) ((!l)) else none) else none) else none) else none) else i (d) (false))) else (if h = true then (Ft a).bind fun n =>
 (Cl n [b]).bind fun o =>
 (rec d o (Af (g + b))).bind fun p =>
 e (p) else e (d)))
def Ct (b:(List Int)) (rec:(Aeh → (List Int) → Int → Ag Aeh)) (c:Int):Nat → Aeh → Int → Ag Aeh
 | 0,_,_=>none
 | m + 1,d,a=>(if (decide (a ≤ 4)) = true then Bk (fun (e:Aeh)=>(Ct b rec c m) (e) ((Af (a + 1)))) (fun f=>CJ b a rec c f FU (d) (true) (0)) else some d)
def EM (rec:Aeh → (List Int) → Int → Ag Aeh) (b:Aeh) (c:(List Int)) (d:Int):Ag Aeh :=
 Fz (fun (a:Aeh) (g:Bool)=>(if g = true then some a else (if ((c.length:Int) == a.2.1) = true then (Ft c).bind fun e =>
 (if (List.isEmpty e) = true then none else some (a.1,a.2.1,e,d)) else Ct c rec d FU (a) (0)))) (fun f=>(if (!(List.isEmpty b.2.2.1)) = true then f (b) ((decide (b.2.2.2 ≤ d))) else f (b) (false)))
def Ck:Nat → Aeh → (List Int) → Int → Ag Aeh
 | 0,_,_,_=>none
 | m + 1,a,b,c=>EM (Ck m) a b c
def GU (a:Aeh) (b:(List Int)) (c:Int):Ag Aeh :=
 Ck FU a b c
def DM (u8:(List Aef)) (c:Int) (d:Int) (a:Int) (f:Int) (g:(Aeh → Int → Ag Aej)):Nat → Aeh → Int → Ag Aej
 | 0,_,_=>none
 | m + 1,e,b=>(if (decide (b ≤ 4)) = true then Bk (fun (h:Aeh)=>(DM u8 c d a f g m) (h) ((Af (b + 1)))) (fun i=>(AM u8 c).bind fun j =>
 (AM u8 d).bind fun k =>
 (if (decide (0 ≤ c) && decide (c < 6)) = true then (if (decide (0 ≤ d) && decide (d < 6)) = true then (if (decide (0 ≤ a) && decide (a < 5)) = true then (Gh j k a b f).bind fun l =>
 (if (decide (0 ≤ b) && decide (b < 5)) = true then (NL e.1 (c.toNat * 150 + d.toNat * 25 + a.toNat * 5 + b.toNat * 1) l).bind fun n =>
 i ((n,e.2.1,e.2.2.1,e.2.2.2)) else none) else none) else none) else none)) else g (e) ((Af (a + 1))))
def DN (u8:(List Aef)) (b:Int) (a:Int) (c:Int) (d:(Aeh → Int → Ag Aej)):Nat → Aeh → Int → Ag Aej
 | 0,_,_=>none
 | m + 1,e,f=>(if (decide (f ≤ 4)) = true then DM u8 b a f c (DN u8 b a c d m) FU (e) (0) else d (e) ((Af (a + 1))))
def DO (u8:(List Aef)) (a:Int) (b:Int) (c:(Aeh → Int → Ag Aej)):Nat → Aeh → Int → Ag Aej
 | 0,_,_=>none
 | m + 1,d,e=>(if (decide (e < (u8.length:Int))) = true then DN u8 a e b (DO u8 a b c m) FU (d) (0) else c (d) ((Af (a + 1))))
def DP (u8:(List Aef)) (b:Int):Nat → Aeh → Int → Ag Aej
 | 0,_,_=>none
 | m + 1,c,a=>(if (decide (a < (u8.length:Int))) = true then DO u8 a b (DP u8 b m) FU (c) ((Af (a + 1))) else (GU c [] 0).bind fun d =>
 some (d.2.2.1,d.2.2.2))
def HG (a:(Aed × Aed × Int × (List Int))) (b:Int):Ag Aej :=
 (H3 a).bind fun u8 =>
 DP u8 b FU (((List.replicate 900 false),(u8.length:Int),[],0)) (0)
def Ii (a:(Aed × Aed × Int × (List Int))) (b:Int):Ag (Int × Bool) :=
 Bk (fun (d:Bool)=>(if d = true then some (0,false) else (Gf a b).bind fun e =>
 (if e = true then some (0,true) else (Ie a b).bind fun f =>
 (if f.2.2 = true then some (1,true) else (HG a b).bind fun g =>
 (if (!(List.isEmpty g.1)) = true then some (2,true) else some (3,true)))))) (fun c=>(J2 a).bind fun h =>
 (if (!h) = true then c (true) else (I0 b).bind fun i =>
 c ((!i))))
def Du (a:Aed) (b:Int) (f:(Int → Int → Int → Ag (Int × Int))):Nat → Int → Int → Int → Ag (Int × Int)
 | 0,_,_,_=>none
 | m + 1,d,e,c=>(if (decide (c < (a.length:Int))) = true then Fz (fun (h:Int) (i:Int)=>(Du a b f m) (h) (i) ((Af (c + 1)))) (fun g=>(AM a b).bind fun j =>
 (AM a c).bind fun k =>
 (AM a d).bind fun l =>
 (AM a e).bind fun n =>
 (Ee j k).bind fun o =>
 (Ee l n).bind fun p =>
 (if (decide (o < p)) = true then g (b) (c) else g (d) (e))) else f (d) (e) ((Af (b + 1))))
def DR (a:Aed):Nat → Int → Int → Int → Ag (Int × Int)
 | 0,_,_,_=>none
 | m + 1,c,d,b=>(if (decide (b < (a.length:Int))) = true then Du a b (DR a m) FU (c) (d) ((Af (b + 1))) else some (c,d))
def HI (a:Aed):Ag (Int × Int) :=
 DR a FU (0) (1) (0)
def EC (a:Aed):Ag (Int × Bool) :=
 Bk (fun (d:Bool)=>(if d = true then some (0,false) else (HI a).bind fun b =>
 (AM a b.1).bind fun e =>
 (AM a b.2).bind fun f =>
 (Ee e f).bind fun g =>
 some (g,true))) (fun c=>(Ea a).bind fun h =>
 (if (!h) = true then c (true) else c ((decide ((a.length:Int) < 2)))))
def H2 (a:Int):Ag (List Aj) :=
 (CY (Af (Int.tdiv a 8))).bind fun b =>
 Bk (fun (d:(List Aj))=>some d) (fun c=>(if (decide (0 < (Int.tmod a 8))) = true then (CY (Int.tmod a 8)).bind fun e =>
 (Cl [43] e).bind fun f =>
 (Cl b f).bind fun g =>
 c (g) else c (b)))
def Jv (a:(Int × Int)):Ag ((List Aj) × Bool) :=
 (Gu a).bind fun b =>
 (if (!b) = true then some ([],false) else (H2 a.1).bind fun c =>
 (Cl c [44]).bind fun d =>
 (H2 a.2).bind fun e =>
 (Cl d e).bind fun f =>
 some (f,true))
def DF (b:Int):Nat → Int → Ag Int
 | 0,_=>none
 | m + 1,a=>(if (decide ((Af ((Af ((Af (4800 * a)) * 4800)) * a)) < (Af (1000000 * b)))) = true then (DF b m) ((Af (a + 1))) else some a)
def Ka (a:(Int × Int)) (b:(Int × Int)):Ag Int :=
 (Ee a b).bind fun c =>
 DF c FU (0)
def G3 (a:(Int × Int)) (b:(Int × Int)):Ag (Int × Bool) :=
 Bk (fun (d:Bool)=>(if d = true then some (0,false) else (Ka a b).bind fun e =>
 some (e,true))) (fun c=>(Gu a).bind fun f =>
 (if (!f) = true then c (true) else (Gu b).bind fun g =>
 c ((!g))))
def EB (a:Aed):Nat → Int → Int → Ag Int
 | 0,_,_=>none
 | m + 1,c,b=>(if (decide (b < (a.length:Int))) = true then (AM a b).bind fun d =>
 (EB a m) ((Af (c + d.1))) ((Af (b + 1))) else some c)
def Ju (a:Aed):Ag Int :=
 EB a FU (0) (0)
def Gz (b:Aed):Nat → Int → Int → Int → Ag Int
 | 0,_,_,_=>none
 | m + 1,c,d,e=>(if (decide (e < (b.length:Int))) = true then (AM b e).bind fun a =>
 (if (decide (c < a.1)) = true then (if a.2 = 0 then none else some (Af (d + (Af (Int.tdiv (Af (60000 * c)) a.2))))) else (if a.2 = 0 then none else (Gz b m) ((Af (c - a.1))) ((Af (d + (Af (Int.tdiv (Af (60000 * a.1)) a.2))))) ((Af (e + 1))))) else some d)
def Jf (a:Aed) (b:Int):Ag Int :=
 Gz a FU (b) (0) (0)
def Kq (a:Aed) (b:Int):Ag (Int × Bool) :=
 Bk (fun (d:Bool)=>(if d = true then some (0,false) else (Jf a b).bind fun e =>
 some (e,true))) (fun c=>(I1 a).bind fun f =>
 (if (!f) = true then c (true) else (Ju a).bind fun g =>
 (BX b 0 g).bind fun h =>
 c ((!h))))
def Eu (b:Aee) (f:Int) (c:Int):Nat → Int → Ag (Int × Bool)
 | 0,_=>none
 | m + 1,d=>(if (decide (d < (b.length:Int))) = true then (AM b d).bind fun a =>
 Bk (fun (g:Bool)=>(if g = true then some (a.1,true) else (Eu b f c m) ((Af (d + 1))))) (fun e=>(if (a.2.1 == f) = true then (if (decide (a.2.2.1 ≤ c)) = true then e ((decide (c < a.2.2.2))) else e (false)) else e (false))) else some (0,false))
def IF (b:Aee) (c:Int) (d:Int):Ag (Int × Bool) :=
 Bk (fun (e:Bool)=>(if e = true then some (0,false) else Eu b c d FU (0))) (fun a=>(FV b).bind fun f =>
 (if (!f) = true then a (true) else (BX c 1 9).bind fun g =>
 (if (!g) = true then a (true) else (BX d 0 999).bind fun u64 =>
 a ((!u64)))))
def DQ (a:(List Int)) (b:Aeg):Nat → Int → Ag Bool
 | 0,_=>none
 | m + 1,c=>(if (decide (c < (a.length:Int))) = true then (AM a c).bind fun d =>
 (BX d 0 (Af ((b.length:Int) - 1))).bind fun e =>
 (if (!e) = true then some false else (DQ a b m) ((Af (c + 1)))) else (FI b).bind fun f =>
 some f)
def HH (a:Aeg) (b:(List Int)):Ag Bool :=
 DQ b a FU (0)
def CS  : Nat → (List Int) → Int → Int → Ag (List Int)
 | 0,_,_,_=>none
 | m + 1,a,b,c=>(if (decide (b < c)) = true then Bk (fun (e:(List Int))=>(CS m) (e) ((Af (b + 1))) ((Af (c - 1)))) (fun f=>(AM a c).bind fun d =>
 (AM a b).bind fun g =>
 (AM a b).bind fun h =>
 (AM (BF a b d) c).bind fun i =>
 f ((BF (BF a b d) c g))) else some a)
def Em (a:(List Int)):Ag (List Int) :=
 CS FU (a) (0) ((Af ((a.length:Int) - 1)))
def E5 (b:Aeg):Nat → Int → (List Int) → Ag (List Int)
 | 0,_,_=>none
 | m + 1,a,c=>(if (decide (0 ≤ a)) = true then (Cl c [a]).bind fun d =>
 (AM b a).bind fun e =>
 (E5 b m) (e.1) (d) else (Em c).bind fun f =>
 some f)
def KX (a:Aeg) (b:Int):Ag (List Int) :=
 E5 a FU (b) ([])
def Dl (a:(List Int)) (b:Aeg):Nat → (List Int) → Int → Ag (List Int)
 | 0,_,_=>none
 | m + 1,c,d=>(if (decide (d < (a.length:Int))) = true then (AM a d).bind fun e =>
 (AM b e).bind fun f =>
 (AM b e).bind fun g =>
 (AM c f.2.1).bind fun h =>
 (Dl a b m) ((BF c f.2.1 g.2.2)) ((Af (d + 1))) else some c)
def Fi (a:Aeg) (b:Int):Nat → (List Int) → Int → Ag (List Int)
 | 0,_,_=>none
 | m + 1,c,d=>(if (decide (d < 8)) = true then (Cl c [(-1)]).bind fun e =>
 (Fi a b m) (e) ((Af (d + 1))) else (KX a b).bind fun f =>
 Dl f a FU (c) (0))
def JL (a:Aeg) (b:Int):Ag (List Int) :=
 Fi a b FU ([]) (0)
def JP (a:Aeg) (b:Int):Ag ((List Int) × Bool) :=
 (HH a [b]).bind fun c =>
 (if (!c) = true then some ([],false) else (JL a b).bind fun d =>
 some (d,true))
def Cv (a:((List Int) × Bool)):Nat → (List (List Aj)) → Int → Ag (List Aj)
 | 0,_,_=>none
 | m + 1,b,c=>(if (decide (c < (a.1.length:Int))) = true then Bk (fun (f:(List (List Aj)))=>(Cv a m) (f) ((Af (c + 1)))) (fun d=>(AM a.1 c).bind fun e =>
 (if (decide (e < 0)) = true then (Cl b [[45]]).bind fun g =>
 d (g) else (CY e).bind fun h =>
 (Cl b [h]).bind fun i =>
 d (i))) else (Iv b [32]).bind fun j =>
 some j)
def Fw (b:(Aed × Aed × Int × Aed × Aee × Aeg)) (c:Int):Ag (List Aj) :=
 (JP b.2.2.2.2.2 c).bind fun a =>
 (if (!a.2) = true then some ([110,111]) else Cv a FU ([]) (0))
def Ca (a:(Aed × Aed × Int × Aed × Aee × Aeg)) (c:(List Aj)) (b:(List Int)):Ag (List Aj) :=
 (if (c == [115,117,109]) = true then Ws (fun (l:Aed) (m:Aed) (n:Int) (o:(List Int))=>(H5 (l,m,n,o)).bind fun f =>
 (Fr f.1 f.2).bind fun p =>
 some p) (fun q=>(Gq a.2.1 a.1 a.2.2.1).bind fun d =>
 q (d.1.1) (d.1.2.1) (d.1.2.2.1) (d.1.2.2.2)) else (if (c == [99,108,111,115,101]) = true then (AM b 0).bind fun r =>
 (GJ a r).bind fun s =>
 some s else (if (c == [107,105,110,100]) = true then Ws (fun (t:Aed) (u:Aed) (v:Int) (w:(List Int))=>(AM b 0).bind fun x =>
 (Ii (t,u,v,w) x).bind fun g =>
 (Fr g.1 g.2).bind fun y =>
 some y) (fun z=>(ER a.2.1 a.1 a.2.2.1).bind fun e =>
 z (e.1.1) (e.1.2.1) (e.1.2.2.1) (e.1.2.2.2)) else (if (c == [108,101,97,115,116]) = true then (EC a.1).bind fun h =>
 (Fr h.1 h.2).bind fun aa =>
 some aa else (if (c == [116,101,120,116]) = true then (AM b 0).bind fun ab =>
 (if (decide ((a.1.length:Int) ≤ ab)) = true then some ([110,111]) else (AM b 0).bind fun ac =>
 (AM a.1 ac).bind fun ad =>
 (Jv ad).bind fun ae =>
 some ae.1) else (if (c == [115,111,117,110,100]) = true then (AM b 0).bind fun af =>
 (AM b 1).bind fun ag =>
 (if (decide ((a.1.length:Int) ≤ (Fx af ag))) = true then some ([110,111]) else (AM b 0).bind fun ah =>
 (AM a.1 ah).bind fun ai =>
 (AM b 1).bind fun aj =>
 (AM a.1 aj).bind fun ak =>
 (G3 ai ak).bind fun i =>
 (Fr i.1 i.2).bind fun al =>
 some al) else (if (c == [116,105,109,101]) = true then (AM b 0).bind fun am =>
 (Kq a.2.2.2.1 am).bind fun j =>
 (Fr j.1 j.2).bind fun an =>
 some an else (if (c == [119,104,111]) = true then (AM b 0).bind fun ao =>
 (AM b 1).bind fun ap =>
 (IF a.2.2.2.2.1 ao ap).bind fun k =>
 (if (!k.2) = true then some ([110,111,110,101]) else (CY k.1).bind fun aq =>
 some aq) else (AM b 0).bind fun ar =>
 (Fw a ar).bind fun au =>
 some au))))))))
def BS (e:(List (List Aj))) (b:(Aed × Aed × Int × Aed × Aee × Aeg)) (a:(List Aj)):Nat → (List Int) → Int → Ag ((List Aj) × (Aed × Aed × Int × Aed × Aee × Aeg))
 | 0,_,_=>none
 | m + 1,c,f=>(if (decide (f < (e.length:Int))) = true then (AM e f).bind fun l =>
 (JM l).bind fun g =>
 Bk (fun (n:Bool)=>(if n = true then some ([119,104,97,116],b) else (Cl c [g.1]).bind fun o =>
 (BS e b a m) (o) ((Af (f + 1))))) (fun i=>(if (!g.2) = true then i (true) else i ((decide (99999 < g.1))))) else (Jt a).bind fun p =>
 (if ((c.length:Int) != p) = true then some ([119,104,97,116],b) else Bk (fun (q:Bool)=>(if q = true then (BH b a c).bind fun j =>
 some (j.1,j.2) else Bk (fun (r:Bool)=>(if r = true then (CI b a c).bind fun k =>
 some (k.1,k.2) else (Ca b a c).bind fun s =>
 some (s,b))) (fun h=>(if (a == [109,101,97,115,117,114,101]) = true then h ((a == [109,101,97,115,117,114,101])) else (if (a == [99,97,114,114,121]) = true then h ((a == [99,97,114,114,121])) else h ((a == [118,101,114,115,105,111,110]))))))) (fun d=>(if (a == [115,112,111,116]) = true then d ((a == [115,112,111,116])) else (if (a == [112,108,97,99,101]) = true then d ((a == [112,108,97,99,101])) else (if (a == [109,105,114,114,111,114]) = true then d ((a == [109,105,114,114,111,114])) else (if (a == [107,101,101,112]) = true then d ((a == [107,101,101,112])) else d ((a == [99,111,117,110,116,115])))))))))
def Dx (b:(Aed × Aed × Int × Aed × Aee × Aeg)) (c:(List Aj)):Ag ((List Aj) × (Aed × Aed × Int × Aed × Aee × Aeg)) :=
 (FZ c [32]).bind fun a =>
 (AM a 0).bind fun d =>
 (sl a 1 (a.length:Int)).bind fun e =>
 BS e b d FU ([]) (0)
def Es (a:((List (List Aj)) × Bool)):Nat → (Aed × Aed × Int × Aed × Aee × Aeg) → (List (List Aj)) → Int → Ag ((Bool × (Aed × Aed × Int × Aed × Aee × Aeg)) × (List (List Aj)) × Bool)
 | 0,_,_,_=>none
 | m + 1,c,d,b=>(if (decide (b < (a.1.length:Int))) = true then (AM a.1 b).bind fun f =>
 (Dx c f).bind fun e =>
 (Cl d [e.1]).bind fun g =>
 (Es a m) (e.2) (g) ((Af (b + 1))) else some ((true,c),d,true))
def ID (b:(List Aj)):Ag ((Bool × (Aed × Aed × Int × Aed × Aee × Aeg)) × (List (List Aj)) × Bool) :=
 (HF b).bind fun a =>
 (if (!a.2) = true then some ((false,([],[],0,[],[],[])),[],false) else (KD ).bind fun c =>
 Es a FU (c) ([]) (0))
def Hr (b:(List Aj)):Ag (Int × Int × Int × Bool) :=
 (KV b).bind fun a =>
 (if (!a.2.2) = true then some (0,0,0,false) else some ((a.1.2.2.2.2.2.2.1.length:Int),(a.1.2.2.2.2.2.2.2.1.length:Int),(Af ((Af (a.1.2.2.2.2.2.2.2.2 - (a.1.2.2.2.2.2.2.1.length:Int))) - (a.1.2.2.2.2.2.2.2.1.length:Int))),true))
def Dn (c:(List (List Aj))):Nat → Int → Int → Int → Ag (Int × Int × Int × Bool)
 | 0,_,_,_=>none
 | m + 1,a,b,d=>(if (decide (d < (c.length:Int))) = true then Fz (fun (g:Int) (h:Int)=>(Dn c m) (g) (h) ((Af (d + 1)))) (fun e=>(AM c d).bind fun f =>
 (if (f == [110,111]) = true then e ((Af (a + 1))) (b) else (if (f == [119,104,97,116]) = true then e (a) ((Af (b + 1))) else e (a) (b)))) else some (a,b,(Af ((Af ((c.length:Int) - a)) - b)),true))
def Ht (c:(List Aj)):Ag (Int × Int × Int × Bool) :=
 Fz (fun (d:(List (List Aj))) (e:Bool)=>(if (!e) = true then some (0,0,0,false) else Dn d FU (0) (0) (0))) (fun b=>(ID c).bind fun a =>
 (if a.1.1 = true then b (a.2.1) (a.2.2) else b (a.2.1) (a.2.2)))
def Gt (d:(List Aj)):Ag Bool :=
 (if (decide (1048576 < (d.length:Int))) = true then some true else (Hr d).bind fun a =>
 (Ht d).bind fun b =>
 Bk (fun (e:Bool)=>(if e = true then some false else some true)) (fun c=>(if (b.1 != a.1) = true then c (true) else (if (b.2.1 != a.2.1) = true then c (true) else (if (b.2.2.1 != a.2.2.1) = true then c (true) else c ((b.2.2.2 != a.2.2.2)))))))
end Go.Proofs.YtellehgihceicaaGreatDoor
