/-
 THE FUNCTIONS of this seat as plain functions, by program (gen.py).
-/
import Derived.Test.YtellehgihceicaaGreatDoorCore20
import Derived.Test.YtellehgihceicaaGreatDoorLibF
set_option linter.unusedVariables false
set_option linter.unusedSimpArgs false
set_option maxRecDepth 100000
set_option maxHeartbeats 1600000
namespace Go.Proofs.YtellehgihceicaaGreatDoor
open Go
def MB (x y:(Int × Int)):Bool:=(x.1 == y.1) && (x.2 == y.2)
def Li  : Ae (Aev × Aev × Int × Aev × Aew × Aey × (List Int) × (List Int) × Int) :=
 some ([(0,0)],[(0,0)],8,[(4,120)],[],[((-1),0,0)],[],[],0)
def Fc (a:(List Aj)) (e:Int):Nat → (List (List Aj)) → Int → Int → Ae (List (List Aj))
 | 0,_,_,_=>none
 | m + 1,c,d,b=>(if (decide (b < (a.length:Int))) = true then Gn (fun (g:(List (List Aj))) (h:Int)=>(Fc a e m) (g) (h) ((Ag (b + 1)))) (fun f=>(AL a b).bind fun i =>
 (if ((UInt8.toNat i:Int) == e) = true then (sl a d b).bind fun j =>
 (Cl c [j]).bind fun k =>
 f (k) ((Ag (b + 1))) else f (c) (d))) else (sl a d (a.length:Int)).bind fun l =>
 (Cl c [l]).bind fun n =>
 some n)
def FN (a:(List Aj)) (b:Int):Ae (List (List Aj)) :=
 Fc a b FU ([]) (0) (0)
def JM (a:(List Aj)):Ae ((List (List Aj)) × Bool) :=
 Bk (fun (e:Bool)=>(if e = true then some ([],false) else (FN a 10).bind fun c =>
 (sl c 0 (Ag ((c.length:Int) - 1))).bind fun d =>
 (if (decide (40 < (d.length:Int))) = true then some ([],false) else some (d,true)))) (fun b=>(if (decide (2000 < (a.length:Int))) = true then b (true) else (if (a != []) = true then (AL a (Ag ((a.length:Int) - 1))).bind fun f =>
 b (((UInt8.toNat f:Int) != 10)) else b (false))))
def GC (a:(List Aj)):Ae Int :=
 Bk (fun (f:Bool)=>(if f = true then some 0 else Bk (fun (g:Bool)=>(if g = true then some 1 else Bk (fun (h:Bool)=>(if h = true then some 2 else Bk (fun (i:Bool)=>(if i = true then some 3 else (if (a == [99,97,114,114,121]) = true then some 4 else some (-1)))) (fun e=>(if (a == [112,108,97,99,101]) = true then e ((a == [112,108,97,99,101])) else e ((a == [118,101,114,115,105,111,110])))))) (fun c=>(if (a == [115,112,111,116]) = true then c ((a == [115,112,111,116])) else (if (a == [115,111,117,110,100]) = true then c ((a == [115,111,117,110,100])) else (if (a == [109,101,97,115,117,114,101]) = true then c ((a == [109,101,97,115,117,114,101])) else c ((a == [119,104,111])))))))) (fun b=>(if (a == [99,111,117,110,116,115]) = true then b ((a == [99,111,117,110,116,115])) else (if (a == [99,108,111,115,101]) = true then b ((a == [99,108,111,115,101])) else (if (a == [107,105,110,100]) = true then b ((a == [107,105,110,100])) else (if (a == [116,101,120,116]) = true then b ((a == [116,101,120,116])) else (if (a == [116,105,109,101]) = true then b ((a == [116,105,109,101])) else b ((a == [115,116,97,116,101])))))))))) (fun d=>(if (a == [109,105,114,114,111,114]) = true then d ((a == [109,105,114,114,111,114])) else (if (a == [107,101,101,112]) = true then d ((a == [107,101,101,112])) else (if (a == [115,117,109]) = true then d ((a == [115,117,109])) else d ((a == [108,101,97,115,116]))))))
def BQ (a:Int) (c:Int) (d:Int):Ae Bool :=
 Bk (fun (e:Bool)=>some e) (fun b=>(if (decide (c ≤ a)) = true then b ((decide (a ≤ d))) else b (false)))
def FE (a:(List Aj)):Nat → Int → Int → Ae Int
 | 0,_,_=>none
 | m + 1,c,b=>(if (decide (b < (a.length:Int))) = true then Bk (fun (e:Bool)=>(if e = true then some (-1) else (AL a b).bind fun f =>
 (FE a m) ((Ag ((Ag (10 * c)) + (Ag (Mv ((UInt8.toNat f:Int) - 48)))))) ((Ag (b + 1))))) (fun d=>(AL a b).bind fun g =>
 (if (decide ((UInt8.toNat g:Int) < 48)) = true then d (true) else (AL a b).bind fun h =>
 d ((decide (57 < (UInt8.toNat h:Int)))))) else some c)
def Kp (a:(List Aj)):Ae Int :=
 Bk (fun (c:Bool)=>(if c = true then some (-1) else FE a FU (0) (0))) (fun b=>(BQ (a.length:Int) 1 6).bind fun d =>
 (if (!d) = true then b (true) else (AL a 0).bind fun e =>
 (if ((UInt8.toNat e:Int) == 48) = true then b ((decide (1 < (a.length:Int)))) else b (false))))
def Gp (a:Aev):Ae Aev :=
 (Cl [] a).bind fun b =>
 some b
def Ia (a:(Int × Int)):Ae Bool :=
 Bk (fun (c:Bool)=>some c) (fun b=>(BQ a.1 0 1280).bind fun d =>
 (if d = true then (BQ a.2 0 672).bind fun e =>
 b (e) else b (false)))
def FF (a:Aev) (c:(Int × Int)) (d:(Int → Ae Bool)) (e:Int):Nat → Int → Ae Bool
 | 0,_=>none
 | m + 1,b=>(if (decide (b < (a.length:Int))) = true then (AL a b).bind fun f =>
 (if (MB c f) = true then some false else (FF a c d e m) ((Ag (b + 1)))) else d ((Ag (e + 1))))
def Ek (a:Aev):Nat → Int → Ae Bool
 | 0,_=>none
 | m + 1,b=>(if (decide (b < (a.length:Int))) = true then (AL a b).bind fun c =>
 (Ia c).bind fun d =>
 (if (!d) = true then some false else (sl a 0 b).bind fun e =>
 FF e c (Ek a m) b FU (0)) else (BQ (a.length:Int) 1 12).bind fun f =>
 some f)
def FK (a:Aev):Ae Bool :=
 Ek a FU (0)
def EF (a:(Aev × Aev × Int × Aev × Aew × Aey × (List Int) × (List Int) × Int)) (d:Aev) (b:Bool):Ae (Bool × (Aev × Aev × Int × Aev × Aew × Aey × (List Int) × (List Int) × Int)) :=
 Bk (fun (e:(Aev × Aev × Int × Aev × Aew × Aey × (List Int) × (List Int) × Int))=>some (b,e)) (fun c=>(if b = true then c ((d,a.2.1,a.2.2.1,a.2.2.2.1,a.2.2.2.2.1,a.2.2.2.2.2.1,a.2.2.2.2.2.2.1,a.2.2.2.2.2.2.2.1,a.2.2.2.2.2.2.2.2)) else c (a)))
def Mp (a:Aev) (c:Int):Ae Bool :=
 Bk (fun (d:Bool)=>some d) (fun b=>(FK a).bind fun e =>
 (if e = true then (BQ c 0 (Ag ((a.length:Int) - 1))).bind fun f =>
 b (f) else b (false)))
def Hg (a:Aev):Ae (Aev × Bool) :=
 (FK a).bind fun b =>
 (if (!b) = true then some ([],false) else some (a,true))
def GF (b:Aev) (a:Int) (d:(Int × Int)):Ae (Aev × Bool) :=
 (Mp b a).bind fun e =>
 (if (!e) = true then some ([],false) else (Gp b).bind fun c =>
 (AL c a).bind fun g =>
 (Hg (BE c a d)).bind fun f =>
 some f)
def KH (a:(Int × Int)):Ae (Int × Int) :=
 some ((Ag (1280 - a.1)),a.2)
def DM (a:Aev):Nat → Aev → Int → Ae (Aev × Bool)
 | 0,_,_=>none
 | m + 1,c,b=>(if (decide (b < (a.length:Int))) = true then (AL a b).bind fun d =>
 (KH d).bind fun e =>
 (Cl c [e]).bind fun f =>
 (DM a m) (f) ((Ag (b + 1))) else some (c,true))
def HG (a:Aev):Ae (Aev × Bool) :=
 (FK a).bind fun b =>
 (if (!b) = true then some ([],false) else DM a FU ([]) (0))
def ID (a:(Int × Int)):Ae Bool :=
 Bk (fun (c:Bool)=>some c) (fun b=>(BQ a.1 1 12).bind fun d =>
 (if d = true then (BQ a.2 40 220).bind fun e =>
 b (e) else b (false)))
def FD (a:Aev):Nat → Int → Ae Bool
 | 0,_=>none
 | m + 1,b=>(if (decide (b < (a.length:Int))) = true then (AL a b).bind fun c =>
 (ID c).bind fun d =>
 (if (!d) = true then some false else (FD a m) ((Ag (b + 1)))) else (BQ (a.length:Int) 1 40).bind fun e =>
 some e)
def Jg (a:Aev):Ae Bool :=
 FD a FU (0)
def HV (a:(Int × Int × Int × Int)) (b:(Int × Int × Int × Int)):Ae Bool :=
 Bk (fun (d:Bool)=>some d) (fun c=>(if (decide (a.2.2.1 < b.2.2.1)) = true then c (true) else (if (a.2.2.1 == b.2.2.1) = true then c ((decide (a.2.1 < b.2.1))) else c (false))))
def Jz (a:Int):Ae Bool :=
 (BQ a 1 12).bind fun b =>
 some b
def Jk (a:Int):Ae Bool :=
 (BQ a 1 9).bind fun b =>
 some b
def EH (c:Aew) (a:(Int × Int × Int × Int)) (f:(Int → Ae Bool)) (g:Int):Nat → Int → Ae Bool
 | 0,_=>none
 | m + 1,d=>(if (decide (d < (c.length:Int))) = true then (AL c d).bind fun b =>
 Bk (fun (h:Bool)=>(if h = true then some false else (EH c a f g m) ((Ag (d + 1))))) (fun e=>(if (b.2.1 == a.2.1) = true then e ((decide (a.2.2.1 < b.2.2.2))) else (if (b.1 == a.1) = true then e ((decide (a.2.2.1 < b.2.2.2))) else e (false)))) else f ((Ag (g + 1))))
def Du (b:Aew):Nat → Int → Ae Bool
 | 0,_=>none
 | m + 1,c=>(if (decide (c < (b.length:Int))) = true then (AL b c).bind fun a =>
 Bk (fun (e:Bool)=>(if e = true then some false else (sl b 0 c).bind fun f =>
 EH f a (Du b m) c FU (0))) (fun d=>(Jz a.1).bind fun g =>
 (if (!g) = true then d (true) else (Jk a.2.1).bind fun h =>
 (if (!h) = true then d (true) else (BQ a.2.2.1 0 999).bind fun i =>
 (if (!i) = true then d (true) else (BQ a.2.2.2 (Ag (a.2.2.1 + 1)) 1000).bind fun j =>
 (if (!j) = true then d (true) else (if (decide (0 < c)) = true then (AL b (Ag (c - 1))).bind fun k =>
 (HV k a).bind fun l =>
 d ((!l)) else d (false))))))) else some (decide ((b.length:Int) ≤ 40)))
def Jl (a:Aew):Ae Bool :=
 Du a FU (0)
def FG (a:Aew) (c:(Int × Int × Int × Int)) (d:(Aew → Ae (Aew × Bool))):Nat → Int → Ae (Aew × Bool)
 | 0,_=>none
 | m + 1,b=>Bk (fun (f:Bool)=>(if f = true then (FG a c d m) ((Ag (b - 1))) else (sl a 0 b).bind fun u64 =>
 (sl a b (a.length:Int)).bind fun g =>
 (Cl [] u64).bind fun h =>
 (Cl h [c]).bind fun i =>
 (Cl i g).bind fun j =>
 d (j))) (fun e=>(if (decide (0 < b)) = true then (AL a (Ag (b - 1))).bind fun k =>
 (HV c k).bind fun l =>
 e (l) else e (false)))
def EG (b:Aew):Nat → Aew → Int → Ae (Aew × Bool)
 | 0,_,_=>none
 | m + 1,a,c=>(if (decide (c < (b.length:Int))) = true then Bk (fun (d:Aew)=>(EG b m) (d) ((Ag (c + 1)))) (fun e=>(AL b c).bind fun f =>
 FG a f e FU ((a.length:Int))) else (Jl a).bind fun g =>
 (if (!g) = true then some ([],false) else some (a,true)))
def Jj (a:Aew):Ae (Aew × Bool) :=
 EG a FU ([]) (0)
def FB (d:Aey):Nat → Int → Ae Bool
 | 0,_=>none
 | m + 1,c=>(if (decide (c < (d.length:Int))) = true then (AL d c).bind fun a =>
 Bk (fun (e:Bool)=>(if e = true then some false else (FB d m) ((Ag (c + 1))))) (fun b=>(BQ a.1 0 (Ag (c - 1))).bind fun f =>
 (if (!f) = true then (if (decide (0 < c)) = true then b (true) else (if (a.1 != (-1)) = true then b (true) else (BQ a.2.1 0 7).bind fun g =>
 (if (!g) = true then b (true) else (BQ a.2.2 0 999).bind fun h =>
 b ((!h))))) else (BQ a.2.1 0 7).bind fun i =>
 (if (!i) = true then b (true) else (BQ a.2.2 0 999).bind fun j =>
 b ((!j))))) else (BQ (d.length:Int) 1 60).bind fun k =>
 some k)
def HZ (a:Aey):Ae Bool :=
 FB a FU (0)
def Ii (a:Aey) (d:(Int × Int × Int)):Ae (Aey × Bool) :=
 Bk (fun (b:Aey)=>Bk (fun (e:Bool)=>(if e = true then some ([],false) else some (b,true))) (fun c=>(HZ a).bind fun f =>
 (if (!f) = true then c (true) else (HZ b).bind fun g =>
 c ((!g))))) (fun h=>(Cl [] a).bind fun i =>
 (Cl i [d]).bind fun j =>
 h (j))
def Cz (a:(Aev × Aev × Int × Aev × Aew × Aey × (List Int) × (List Int) × Int)) (f:(List Aj)) (b:(List Int)):Ae (Bool × (Aev × Aev × Int × Aev × Aew × Aey × (List Int) × (List Int) × Int)) :=
 Gn (fun (s:(Aev × Aev × Int × Aev × Aew × Aey × (List Int) × (List Int) × Int)) (t:Bool)=>some (t,s)) (fun c=>(if (f == [115,112,111,116]) = true then (AL b 0).bind fun u =>
 (AL b 1).bind fun v =>
 (Gp a.1).bind fun w =>
 (Cl w [(u,v)]).bind fun x =>
 (Hg x).bind fun k =>
 (EF a k.1 k.2).bind fun l =>
 c (l.2) (l.1) else (if (f == [112,108,97,99,101]) = true then (AL b 0).bind fun y =>
 (AL b 1).bind fun z =>
 (AL b 2).bind fun aa =>
 (GF a.1 y (z,aa)).bind fun m =>
 (EF a m.1 m.2).bind fun n =>
 c (n.2) (n.1) else (if (f == [109,105,114,114,111,114]) = true then (HG a.1).bind fun o =>
 (EF a o.1 o.2).bind fun p =>
 c (p.2) (p.1) else (if (f == [107,101,101,112]) = true then (Gp a.1).bind fun ab =>
 c ((a.1,ab,a.2.2.1,a.2.2.2.1,a.2.2.2.2.1,a.2.2.2.2.2.1,a.2.2.2.2.2.2.1,a.2.2.2.2.2.2.2.1,a.2.2.2.2.2.2.2.2)) (true) else (if (f == [99,111,117,110,116,115]) = true then (AL b 0).bind fun ac =>
 (BQ ac 1 64).bind fun h =>
 (if h = true then (AL b 0).bind fun ad =>
 c ((a.1,a.2.1,ad,a.2.2.2.1,a.2.2.2.2.1,a.2.2.2.2.2.1,a.2.2.2.2.2.2.1,a.2.2.2.2.2.2.2.1,a.2.2.2.2.2.2.2.2)) (h) else c (a) (h)) else (if (f == [109,101,97,115,117,114,101]) = true then Gn (fun (d:(Aev × Aev × Int × Aev × Aew × Aey × (List Int) × (List Int) × Int)) (q:Aev)=>(Jg q).bind fun i =>
 (if i = true then c ((d.1,d.2.1,d.2.2.1,q,d.2.2.2.2.1,d.2.2.2.2.2.1,d.2.2.2.2.2.2.1,d.2.2.2.2.2.2.2.1,d.2.2.2.2.2.2.2.2)) (i) else c (d) (i))) (fun ae=>(AL b 0).bind fun af =>
 (AL b 1).bind fun ag =>
 (Cl [] a.2.2.2.1).bind fun ah =>
 (Cl ah [(af,ag)]).bind fun ai =>
 ae (a) (ai)) else (if (f == [99,97,114,114,121]) = true then W0 (fun (e:(Aev × Aev × Int × Aev × Aew × Aey × (List Int) × (List Int) × Int)) (aj:Aew) (j:Bool)=>(if j = true then c ((e.1,e.2.1,e.2.2.1,e.2.2.2.1,aj,e.2.2.2.2.2.1,e.2.2.2.2.2.2.1,e.2.2.2.2.2.2.2.1,e.2.2.2.2.2.2.2.2)) (j) else c (e) (j))) (fun ak=>(AL b 0).bind fun al =>
 (AL b 1).bind fun am =>
 (AL b 2).bind fun an =>
 (AL b 3).bind fun ao =>
 (Cl [] a.2.2.2.2.1).bind fun ap =>
 (Cl ap [(al,am,an,ao)]).bind fun aq =>
 (Jj aq).bind fun r =>
 ak (a) (r.1) (r.2)) else (if (f == [118,101,114,115,105,111,110]) = true then (AL b 0).bind fun ar =>
 (AL b 1).bind fun au =>
 (AL b 2).bind fun av =>
 (Ii a.2.2.2.2.2.1 (ar,au,av)).bind fun g =>
 (if g.2 = true then c ((a.1,a.2.1,a.2.2.1,a.2.2.2.1,a.2.2.2.2.1,g.1,a.2.2.2.2.2.2.1,a.2.2.2.2.2.2.2.1,a.2.2.2.2.2.2.2.2)) (g.2) else c (a) (g.2)) else c (a) (true))))))))))
def Jh (a:Bool):Ae (List Aj) :=
 (if (!a) = true then some ([110,111]) else some ([111,107]))
def Ji (b:Aev) (c:Aev):Ae Bool :=
 Bk (fun (d:Bool)=>some d) (fun a=>(FK b).bind fun e =>
 (if e = true then (FK c).bind fun f =>
 (if f = true then a (((b.length:Int) == (c.length:Int))) else a (false)) else a (false)))
def I3 (b:Aev) (c:Aev) (d:Int):Ae Bool :=
 Bk (fun (e:Bool)=>some e) (fun a=>(Ji b c).bind fun f =>
 (if f = true then (BQ d 1 64).bind fun g =>
 a (g) else a (false)))
def GT (a:(Int × Int)) (b:(Int × Int)):Ae Int :=
 some (Ag ((Ag ((Ag (a.1 - b.1)) * (Ag (a.1 - b.1)))) + (Ag ((Ag (a.2 - b.2)) * (Ag (a.2 - b.2))))))
def Fh (a:Aev) (c:(Int × Int)) (d:Ae0) (e:(Ae0 → Int → Ae Ae0)) (f:Int):Nat → (List Int) → Int → Ae Ae0
 | 0,_,_=>none
 | m + 1,g,b=>(if (decide (b < (a.length:Int))) = true then (AL a b).bind fun h =>
 (GT c h).bind fun u64 =>
 (Cl g [u64]).bind fun i =>
 (Fh a c d e f m) (i) ((Ag (b + 1))) else (Cl d [g]).bind fun j =>
 e (j) ((Ag (f + 1))))
def Ey (a:Aev) (c:Aev):Nat → Ae0 → Int → Ae Ae0
 | 0,_,_=>none
 | m + 1,d,b=>(if (decide (b < (a.length:Int))) = true then (AL a b).bind fun e =>
 Fh c e d (Ey a c m) b FU ([]) (0) else some d)
def JP (a:Aev) (b:Aev):Ae Ae0 :=
 Ey a b FU ([]) (0)
def EQ (a:Int) (b:Int):Ae Int :=
 (if (decide (a < b)) = true then some a else some b)
def D0 (d:(List Int)) (a:Int) (e:((List Int) → Int → Ae (List Int))):Nat → (List Int) → Int → Ae (List Int)
 | 0,_,_=>none
 | m + 1,b,c=>(if (decide (c < (d.length:Int))) = true then Bk (fun (g:(List Int))=>(D0 d a e m) (g) ((Ag (c + 1)))) (fun f=>(AL d c).bind fun h =>
 (if (decide (0 ≤ (Bh c))) = true then (if ((B4 .i64 (Br .i64 a (Bh c)) 1) == 1) = true then (AL b a).bind fun i =>
 (AL b (Sf .i64 a (KB .i64 1 (Bh c)))).bind fun j =>
 (EQ i (Ag (h + j))).bind fun k =>
 (AL b a).bind fun l =>
 f ((BE b a k)) else f (b)) else none)) else e (b) ((Ag (a + 1))))
def Ex (b:Ae0) (a:Int) (d:(List Int)) (e:((List Int) → Int → Ae (List Int))):Nat → Int → Int → Ae (List Int)
 | 0,_,_=>none
 | m + 1,f,c=>(if (decide (c < (b.length:Int))) = true then (if (decide (0 ≤ (Bh c))) = true then (Ex b a d e m) ((Ag (f + (B4 .i64 (Br .i64 a (Bh c)) 1)))) ((Ag (c + 1))) else none) else (AL d a).bind fun h =>
 (AL b (Ag ((b.length:Int) - f))).bind fun g =>
 D0 g a e FU ((BE d a 1000000000)) (0))
def EY (a:Ae0):Nat → (List Int) → Int → Ae (List Int)
 | 0,_,_=>none
 | m + 1,b,c=>(if (decide (c < (KB .i64 1 (Bh (a.length:Int))))) = true then Ex a c b (EY a m) FU (0) (0) else some b)
def JI (a:Ae0):Ae (List Int) :=
 (if (decide (0 ≤ (Bh (a.length:Int)))) = true then (RW (KB .i64 1 (Bh (a.length:Int))) 0).bind fun b =>
 EY a FU (b) (1) else none)
def EZ (d:(List Int)) (b:Int) (e:(List Int)) (g:(List Int)) (h:(Int → (List Int) → Int → Ae Ae1)) (i:Int):Nat → Int → Int → Ae Ae1
 | 0,_,_=>none
 | m + 1,c,a=>(if (decide (a < (d.length:Int))) = true then Bk (fun (k:Int)=>(EZ d b e g h i m) (k) ((Ag (a + 1)))) (fun j=>(AL d a).bind fun l =>
 Bk (fun (n:Bool)=>(if n = true then j (a) else j (c))) (fun f=>(if (decide (c < 0)) = true then (if (decide (0 ≤ (Bh a))) = true then (if ((B4 .i64 (Br .i64 b (Bh a)) 1) == 1) = true then (AL e b).bind fun o =>
 (AL e (Sf .i64 b (KB .i64 1 (Bh a)))).bind fun p =>
 f (((Ag (l + p)) == o)) else f (false)) else none) else f (false)))) else (Cl g [c]).bind fun q =>
 (if (decide (0 ≤ (Bh c))) = true then h ((Sf .i64 b (KB .i64 1 (Bh c)))) (q) ((Ag (i + 1))) else none))
def DV (b:Ae0) (a:(List Int)):Nat → Int → (List Int) → Int → Ae Ae1
 | 0,_,_,_=>none
 | m + 1,e,d,c=>(if (decide (c < (b.length:Int))) = true then (AL b c).bind fun f =>
 EZ f e a d (DV b a m) c FU ((-1)) (0) else (AL a (Ag ((a.length:Int) - 1))).bind fun g =>
 some (d,g))
def JJ (a:Ae0):Ae Ae1 :=
 (JI a).bind fun b =>
 DV a b FU ((Ag ((b.length:Int) - 1))) ([]) (0)
def JK (a:(List Int)):Ae (List Int) :=
 (Cl [] a).bind fun b =>
 some b
def Ib (a:Aev) (b:Aev) (c:Int) (d:(List Int)):Ae (Aev × Aev × Int × (List Int)) :=
 (Gp a).bind fun u8 =>
 (Gp b).bind fun e =>
 (JK d).bind fun f =>
 some (u8,e,c,f)
def Gr (a:Aev) (b:Aev) (c:Int):Ae ((Aev × Aev × Int × (List Int)) × Bool) :=
 (I3 a b c).bind fun d =>
 (if (!d) = true then some (([],[],0,[]),false) else (JP a b).bind fun e =>
 (JJ e).bind fun f =>
 (Ib a b c f.1).bind fun g =>
 some (g,true))
def Gc (a:(List Int)) (c:Int):Nat → Int → Ae Bool
 | 0,_=>none
 | m + 1,b=>(if (decide (b < (a.length:Int))) = true then (AL a b).bind fun d =>
 (if (d == c) = true then some true else (Gc a c m) ((Ag (b + 1)))) else some false)
def KX (a:(List Int)) (b:Int):Ae Bool :=
 Gc a b FU (0)
def EA (a:(List Int)) (c:Int):Nat → Int → Ae Bool
 | 0,_=>none
 | m + 1,b=>(if (decide (b < (a.length:Int))) = true then (AL a b).bind fun d =>
 Bk (fun (f:Bool)=>(if f = true then some false else (EA a c m) ((Ag (b + 1))))) (fun e=>(BQ d 0 (Ag (c - 1))).bind fun g =>
 (if (!g) = true then e (true) else (sl a 0 b).bind fun h =>
 (KX h d).bind fun i =>
 e (i))) else some ((a.length:Int) == c))
def Jy (a:(List Int)) (b:Int):Ae Bool :=
 EA a b FU (0)
def Ic (a:(Aev × Aev × Int × (List Int))):Ae Bool :=
 Bk (fun (c:Bool)=>some c) (fun b=>(Ji a.1 a.2.1).bind fun d =>
 (if d = true then (BQ a.2.2.1 1 64).bind fun e =>
 (if e = true then (Jy a.2.2.2 (a.1.length:Int)).bind fun f =>
 b (f) else b (false)) else b (false)))
def Fg (a:(Aev × Aev × Int × (List Int))):Nat → (List Aex) → Int → Ae (List Aex)
 | 0,_,_=>none
 | m + 1,c,b=>(if (decide (b < (a.2.2.2.length:Int))) = true then (AL a.2.2.2 b).bind fun d =>
 (AL a.1 b).bind fun e =>
 (AL a.2.1 d).bind fun f =>
 (Cl c [(e,f,a.2.2.1)]).bind fun g =>
 (Fg a m) (g) ((Ag (b + 1))) else some c)
def GE (a:(Aev × Aev × Int × (List Int))):Ae (List Aex) :=
 Fg a FU ([]) (0)
def Ge (a:(List Aex)):Nat → Int → Int → Ae Int
 | 0,_,_=>none
 | m + 1,c,b=>(if (decide (b < (a.length:Int))) = true then (AL a b).bind fun d =>
 (GT d.1 d.2.1).bind fun e =>
 (Ge a m) ((Ag (c + e))) ((Ag (b + 1))) else some c)
def KZ (a:(Aev × Aev × Int × (List Int))):Ae Int :=
 (GE a).bind fun b =>
 Ge b FU (0) (0)
def H2 (a:(Aev × Aev × Int × (List Int))):Ae (Int × Bool) :=
 (Ic a).bind fun b =>
 (if (!b) = true then some (0,false) else (KZ a).bind fun c =>
 some (c,true))
def FO:Nat → Int → Ae (List Aj)
 | 0,_=>none
 | m + 1,a=>(if (decide (a < 10)) = true then some (K1 [(Mv (Ag (48 + a)))]) else Bk (fun (b:(List Aj))=>some b) (fun c=>(FO m (Ag (Int.tdiv a 10))).bind fun d =>
 (Cl d (K1 [(Mv (Ag (48 + (Int.tmod a 10))))])).bind fun e =>
 c (e)))
def Dd (a:Int):Ae (List Aj) :=
 FO FU a
def Mn (a:Int):Ae (List Aj) :=
 (if (decide (a < 0)) = true then (Dd (Ag (0 - a))).bind fun b =>
 (Cl [45] b).bind fun c =>
 some c else (Dd a).bind fun d =>
 some d)
def Fq (a:Int) (b:Bool):Ae (List Aj) :=
 (if (!b) = true then some ([110,111]) else (Mn a).bind fun c =>
 some c)
def Df (a:Aev) (c:Aev) (d:Int):Nat → (List Int) → Int → Ae ((Aev × Aev × Int × (List Int)) × Bool)
 | 0,_,_=>none
 | m + 1,e,b=>(if (decide (b < (a.length:Int))) = true then (Cl e [b]).bind fun f =>
 (Df a c d m) (f) ((Ag (b + 1))) else (Ib a c d e).bind fun g =>
 some (g,true))
def Gq (a:Aev) (b:Aev) (c:Int):Ae ((Aev × Aev × Int × (List Int)) × Bool) :=
 (I3 a b c).bind fun d =>
 (if (!d) = true then some (([],[],0,[]),false) else Df a b c FU ([]) (0))
def ED (a:(Aev × Aev × Int × Aev × Aew × Aey × (List Int) × (List Int) × Int)):Ae ((Aev × Aev × Int × (List Int)) × Bool) :=
 (Gq a.2.1 a.1 a.2.2.1).bind fun b =>
 some b
def Hh (a:Int):Ae Bool :=
 (BQ a 0 80).bind fun b =>
 some b
def Lj (b:(Aev × Aev × Int × (List Int))) (c:Int):Ae Bool :=
 Bk (fun (d:Bool)=>some d) (fun a=>(Ic b).bind fun e =>
 (if e = true then (Hh c).bind fun f =>
 a (f) else a (false)))
def Kt (a:Aex) (b:Aex):Ae (Int × Int × Int × Int) :=
 some ((Ag (a.1.1 - b.1.1)),(Ag (a.1.2 - b.1.2)),(Ag (a.2.1.1 - b.2.1.1)),(Ag (a.2.1.2 - b.2.1.2)))
def Ll (c:Aex) (d:Aex):Ae (Int × Int) :=
 (Kt c d).bind fun a =>
 Bk (fun (e:Bool)=>(if e = true then some (0,0) else some ((Ag (0 - (Ag ((Ag (a.1 * (Ag (a.2.2.1 - a.1)))) + (Ag (a.2.1 * (Ag (a.2.2.2 - a.2.1)))))))),(Ag ((Ag ((Ag (a.2.2.1 - a.1)) * (Ag (a.2.2.1 - a.1)))) + (Ag ((Ag (a.2.2.2 - a.2.1)) * (Ag (a.2.2.2 - a.2.1))))))))) (fun b=>(if (decide ((Ag (0 - (Ag ((Ag (a.1 * (Ag (a.2.2.1 - a.1)))) + (Ag (a.2.1 * (Ag (a.2.2.2 - a.2.1)))))))) ≤ 0)) = true then b (true) else b ((decide ((Ag ((Ag ((Ag (a.2.2.1 - a.1)) * (Ag (a.2.2.1 - a.1)))) + (Ag ((Ag (a.2.2.2 - a.2.1)) * (Ag (a.2.2.2 - a.2.1)))))) ≤ (Ag (0 - (Ag ((Ag (a.1 * (Ag (a.2.2.1 - a.1)))) + (Ag (a.2.1 * (Ag (a.2.2.2 - a.2.1)))))))))))))
def Hp (a:Int) (b:Int):Ae Int :=
 (if (decide (b < a)) = true then some a else some b)
def Mo (a:Int):Ae Int :=
 (Hp a (Ag (0 - a))).bind fun b =>
 some b
def G3 (c:Int) (d:Int):Nat → Int → Int → Ae (Int × Int)
 | 0,_,_=>none
 | m + 1,a,b=>(if (decide (0 < b)) = true then (if b = 0 then none else (G3 c d m) (b) ((Int.tmod a b))) else (if a = 0 then none else (if a = 0 then none else some ((Ag (Int.tdiv c a)),(Ag (Int.tdiv d a))))))
def Jf (a:Int) (b:Int):Ae (Int × Int) :=
 (Mo a).bind fun c =>
 G3 a b FU (c) (b)
def JQ (b:Aex) (c:Aex):Ae (Int × Int) :=
 (Kt b c).bind fun a =>
 (Ll b c).bind fun d =>
 (if (decide (0 < d.2)) = true then (Jf (Ag ((Ag ((Ag (a.1 * a.2.2.2)) - (Ag (a.2.1 * a.2.2.1)))) * (Ag ((Ag (a.1 * a.2.2.2)) - (Ag (a.2.1 * a.2.2.1)))))) d.2).bind fun e =>
 some e else (EQ (Ag ((Ag (a.1 * a.1)) + (Ag (a.2.1 * a.2.1)))) (Ag ((Ag (a.2.2.1 * a.2.2.1)) + (Ag (a.2.2.2 * a.2.2.2))))).bind fun f =>
 some (f,1))
def Kr (c:Aex) (d:Aex) (a:Int):Ae Bool :=
 (JQ c d).bind fun b =>
 some (decide ((Ag ((Ag (a * a)) * b.2)) ≤ b.1))
def Fe (u8:(List Aex)) (d:Aex) (e:Int) (b:Int) (f:(Ae0 → Int → Ae Ae0)):Nat → Ae0 → Int → Ae Ae0
 | 0,_,_=>none
 | m + 1,c,a=>(if (decide (a < (u8.length:Int))) = true then Bk (fun (h:Ae0)=>(Fe u8 d e b f m) (h) ((Ag (a + 1)))) (fun g=>(AL u8 a).bind fun i =>
 (Kr d i e).bind fun j =>
 (if (!j) = true then (Cl c [[b,a]]).bind fun k =>
 g (k) else g (c))) else f (c) ((Ag (b + 1))))
def Ff (u8:(List Aex)) (b:Int):Nat → Ae0 → Int → Ae Ae0
 | 0,_,_=>none
 | m + 1,c,a=>(if (decide (a < (u8.length:Int))) = true then (AL u8 a).bind fun d =>
 Fe u8 d b a (Ff u8 b m) FU (c) ((Ag (a + 1))) else some c)
def JO (a:(Aev × Aev × Int × (List Int))) (b:Int):Ae Ae0 :=
 (GE a).bind fun u8 =>
 Ff u8 b FU ([]) (0)
def GU (a:(Aev × Aev × Int × (List Int))) (b:Int):Ae (Ae0 × Bool) :=
 (Lj a b).bind fun c =>
 (if (!c) = true then some ([],false) else (JO a b).bind fun d =>
 some (d,true))
def CR (c:(Ae0 × Bool)):Nat → (List Aj) → Int → Ae (List Aj)
 | 0,_,_=>none
 | m + 1,a,b=>(if (decide (b < (c.1.length:Int))) = true then (AL c.1 b).bind fun d =>
 Bk (fun (f:(List Aj))=>(AL d 0).bind fun g =>
 (AL d 1).bind fun h =>
 (Dd g).bind fun i =>
 (Cl i [45]).bind fun j =>
 (Dd h).bind fun k =>
 (Cl j k).bind fun l =>
 (Cl f l).bind fun n =>
 (CR c m) (n) ((Ag (b + 1)))) (fun e=>(if (decide (0 < b)) = true then (Cl a [32]).bind fun o =>
 e (o) else e (a))) else (if (a == []) = true then some ([110,111,110,101]) else some a))
def Hs (d:(Aev × Aev × Int × Aev × Aew × Aey × (List Int) × (List Int) × Int)) (e:Int):Ae (List Aj) :=
 (ED d).bind fun a =>
 (GU a.1 e).bind fun b =>
 Bk (fun (f:Bool)=>(if f = true then some ([110,111]) else CR b FU ([]) (0))) (fun c=>(if (!a.2) = true then c (true) else c ((!b.2))))
def L8 (a:(Aev × Aev × Int × (List Int))):Ae Bool :=
 Bk (fun (c:Bool)=>some c) (fun b=>(Ic a).bind fun d =>
 (if d = true then (if (decide (a.2.2.1 ≤ 16)) = true then b ((decide ((a.1.length:Int) ≤ 6))) else b (false)) else b (false)))
def L2 (a:Aex) (b:Int):Ae (Int × Int) :=
 some ((Ag ((Ag (a.1.1 * a.2.2)) + (Ag ((Ag (a.2.1.1 - a.1.1)) * b)))),(Ag ((Ag (a.1.2 * a.2.2)) + (Ag ((Ag (a.2.1.2 - a.1.2)) * b)))))
def Iv (a:Aex) (b:Int) (c:Int):Ae (Int × Int) :=
 (EQ a.2.2 (Ag (c - b))).bind fun d =>
 (Hp 0 d).bind fun e =>
 (L2 a e).bind fun f =>
 some f
def Ko (a:Int) (b:Int) (c:Int) (d:Int):Ae (Int × Int) :=
 Bk (fun (f:Bool)=>(if f = true then some ((Ag ((Ag ((Ag (a * d)) - (Ag (b * c)))) * (Ag ((Ag (a * d)) - (Ag (b * c)))))),(Ag ((Ag ((Ag (c - a)) * (Ag (c - a)))) + (Ag ((Ag (d - b)) * (Ag (d - b))))))) else (EQ (Ag ((Ag (a * a)) + (Ag (b * b)))) (Ag ((Ag (c * c)) + (Ag (d * d))))).bind fun g =>
 some (g,1))) (fun e=>(if (decide (0 < (Ag (0 - (Ag ((Ag (a * (Ag (c - a)))) + (Ag (b * (Ag (d - b)))))))))) = true then e ((decide ((Ag (0 - (Ag ((Ag (a * (Ag (c - a)))) + (Ag (b * (Ag (d - b)))))))) < (Ag ((Ag ((Ag (c - a)) * (Ag (c - a)))) + (Ag ((Ag (d - b)) * (Ag (d - b))))))))) else e (false)))
def Ks (c:Int) (a:Int) (d:Int) (b:Int):Ae Bool :=
 (if a = 0 then none else (if b = 0 then none else (if ((Ag (Int.tdiv c a)) != (Ag (Int.tdiv d b))) = true then (if a = 0 then none else (if b = 0 then none else some (decide ((Ag (Int.tdiv c a)) < (Ag (Int.tdiv d b)))))) else (if a = 0 then none else (if b = 0 then none else some (decide ((Ag ((Int.tmod c a) * b)) < (Ag ((Int.tmod d b) * a)))))))))
def EV (c:Int) (d:Int) (a:Aex) (g:Aex):Nat → Int → Int → Int → Ae (Int × Int)
 | 0,_,_,_=>none
 | m + 1,e,h,b=>(Hp c d).bind fun p =>
 (if (decide (b < (Ag (a.2.2 + p)))) = true then Gn (fun (q:Int) (r:Int)=>(EV c d a g m) (q) (r) ((Ag (b + 1)))) (fun i=>(Iv a c b).bind fun j =>
 (Iv g d b).bind fun k =>
 (Iv a c (Ag (b + 1))).bind fun l =>
 (Iv g d (Ag (b + 1))).bind fun n =>
 (Ko (Ag (j.1 - k.1)) (Ag (j.2 - k.2)) (Ag (l.1 - n.1)) (Ag (l.2 - n.2))).bind fun f =>
 Bk (fun (s:Bool)=>(if s = true then i (f.1) (f.2) else i (e) (h))) (fun o=>(if (decide (e < 0)) = true then o (true) else (Ks f.1 f.2 e h).bind fun t =>
 o (t)))) else (Jf e (Ag ((Ag (h * a.2.2)) * a.2.2))).bind fun u =>
 some u)
def I1 (a:Aex) (b:Aex) (c:Int) (d:Int):Ae (Int × Int) :=
 EV c d a b FU ((-1)) (1) (0)
def Je (c:Aex) (d:Aex) (e:Int) (f:Int) (b:Int):Ae Bool :=
 (I1 c d e f).bind fun a =>
 (if a.2 = 0 then none else some (decide ((Ag (b * b)) ≤ (Ag (Int.tdiv a.1 a.2)))))
def EW (u8:(List Aex)) (c:(List Int)) (b:Int) (e:Aex) (f:Int) (g:(Ae0 → Int → Ae Ae0)):Nat → Ae0 → Int → Ae Ae0
 | 0,_,_=>none
 | m + 1,d,a=>(if (decide (a < (u8.length:Int))) = true then Bk (fun (i:Ae0)=>(EW u8 c b e f g m) (i) ((Ag (a + 1)))) (fun h=>(AL u8 a).bind fun j =>
 (AL c b).bind fun k =>
 (AL c a).bind fun l =>
 (Je e j k l f).bind fun n =>
 (if (!n) = true then (Cl d [[b,a]]).bind fun o =>
 h (o) else h (d))) else g (d) ((Ag (b + 1))))
def EX (u8:(List Aex)) (b:(List Int)) (c:Int):Nat → Ae0 → Int → Ae Ae0
 | 0,_,_=>none
 | m + 1,d,a=>(if (decide (a < (u8.length:Int))) = true then (AL u8 a).bind fun e =>
 EW u8 b a e c (EX u8 b c m) FU (d) ((Ag (a + 1))) else some d)
def I2 (a:(Aev × Aev × Int × (List Int))) (b:(List Int)) (c:Int):Ae Ae0 :=
 (GE a).bind fun u8 =>
 EX u8 b c FU ([]) (0)
def Kq (a:(Aev × Aev × Int × (List Int))) (c:Int) (d:Int):Ae (Aev × Aev × Int × (List Int)) :=
 (Ib a.1 a.2.1 a.2.2.1 a.2.2.2).bind fun b =>
 (AL a.2.2.2 d).bind fun e =>
 (AL b.2.2.2 c).bind fun g =>
 (AL a.2.2.2 c).bind fun f =>
 (AL (BE b.2.2.2 c e) d).bind fun h =>
 some (b.1,b.2.1,b.2.2.1,(BE (BE b.2.2.2 c e) d f))
def FC (c:(Aev × Aev × Int × (List Int))) (a:Int) (u8:(List Int)) (d:Int) (e:(Int → Ae (Int × Int))):Nat → Int → Ae (Int × Int)
 | 0,_=>none
 | m + 1,b=>(if (decide (b < (c.1.length:Int))) = true then (Kq c a b).bind fun f =>
 (I2 f u8 d).bind fun g =>
 (if ((g.length:Int) == 0) = true then some (a,b) else (FC c a u8 d e m) ((Ag (b + 1)))) else e ((Ag (a + 1))))
def Ej (a:(Aev × Aev × Int × (List Int))) (u8:(List Int)) (c:Int):Nat → Int → Ae (Int × Int)
 | 0,_=>none
 | m + 1,b=>(if (decide (b < (a.1.length:Int))) = true then FC a b u8 c (Ej a u8 c m) FU ((Ag (b + 1))) else some ((-1),(-1)))
def Kn (a:(Aev × Aev × Int × (List Int))) (b:Int):Ae (Int × Int) :=
 (RW (a.1.length:Int) 0).bind fun u8 =>
 Ej a u8 b FU (0)
def GB (e:((List Aex) × Int × (List Int))) (a:Int) (b:Int) (c:Int) (d:Int):Ae (Bool × ((List Aex) × Int × (List Int))) :=
 Bk (fun (g:((List Aex) × Int × (List Int)))=>(if (decide (0 ≤ a) && decide (a < 6)) = true then (if (decide (0 ≤ b) && decide (b < 6)) = true then (if (decide (0 ≤ c) && decide (c < 5)) = true then (if (decide (0 ≤ d) && decide (d < 5)) = true then (g.2.2[a.toNat * 150 + b.toNat * 25 + c.toNat * 5 + d.toNat * 1]?).bind fun j =>
 some ((j == 1),g) else none) else none) else none) else none)) (fun h=>(if (decide (0 ≤ a) && decide (a < 6)) = true then (if (decide (0 ≤ b) && decide (b < 6)) = true then (if (decide (0 ≤ c) && decide (c < 5)) = true then (if (decide (0 ≤ d) && decide (d < 5)) = true then (e.2.2[a.toNat * 150 + b.toNat * 25 + c.toNat * 5 + d.toNat * 1]?).bind fun k =>
 (if (k == 0) = true then Gn (fun (f:((List Aex) × Int × (List Int))) (l:Int)=>(NP f.2.2 (a.toNat * 150 + b.toNat * 25 + c.toNat * 5 + d.toNat * 1) l).bind fun m =>
 h ((f.1,f.2.1,m))) (fun i=>(AL e.1 a).bind fun n =>
 (AL e.1 b).bind fun o =>
 (Je n o c d e.2.1).bind fun p =>
 (if p = true then i (e) (1) else i (e) (2))) else h (e)) else none) else none) else none) else none))
def CN (a:(List Int)) (b:Int) (f:(((List Aex) × Int × (List Int)) → Ae ((List Int) × ((List Aex) × Int × (List Int))))) (rec:(((List Aex) × Int × (List Int)) → (List Int) → Int → Ae ((List Int) × ((List Aex) × Int × (List Int))))) (g:Int):Nat → ((List Aex) × Int × (List Int)) → Bool → Int → Ae ((List Int) × ((List Aex) × Int × (List Int)))
 | 0,_,_,_=>none
 | m + 1,c,h,d=>(if (decide (d < (a.length:Int))) = true then Gn (fun (k:((List Aex) × Int × (List Int))) (l:Bool)=>(CN a b f rec g m) (k) (l) ((Ag (d + 1)))) (fun i=>(AL a d).bind fun n =>
 (if h = true then (GB c d (a.length:Int) n b).bind fun j =>
 i (j.2) (j.1) else i (c) (false))) else (if (!h) = true then f (c) else (JK a).bind fun o =>
 (Cl o [b]).bind fun p =>
 (rec c p (Ag (g - b))).bind fun e =>
 (if (decide (0 < (e.1.length:Int))) = true then some (e.1,e.2) else f (e.2))))
def CP (a:Int) (c:(List Int)) (rec:(((List Aex) × Int × (List Int)) → (List Int) → Int → Ae ((List Int) × ((List Aex) × Int × (List Int))))):Nat → ((List Aex) × Int × (List Int)) → Int → Ae ((List Int) × ((List Aex) × Int × (List Int)))
 | 0,_,_=>none
 | m + 1,d,b=>(EQ a 4).bind fun e =>
 (if (decide (b ≤ e)) = true then Bk (fun (f:((List Aex) × Int × (List Int)))=>(CP a c rec m) (f) ((Ag (b + 1)))) (fun g=>CN c b g rec a FU (d) (true) (0)) else some ([],d))
def FV (rec:((List Aex) × Int × (List Int)) → (List Int) → Int → Ae ((List Int) × ((List Aex) × Int × (List Int)))) (a:((List Aex) × Int × (List Int))) (b:(List Int)) (c:Int):Ae ((List Int) × ((List Aex) × Int × (List Int))) :=
 (if ((b.length:Int) == (a.1.length:Int)) = true then (if (decide (0 < c)) = true then some ([],a) else some (b,a)) else CP c b rec FU (a) (0))
def Db:Nat → ((List Aex) × Int × (List Int)) → (List Int) → Int → Ae ((List Int) × ((List Aex) × Int × (List Int)))
 | 0,_,_,_=>none
 | m + 1,a,b,c=>FV (Db m) a b c
def HU (a:((List Aex) × Int × (List Int))) (b:(List Int)) (c:Int):Ae ((List Int) × ((List Aex) × Int × (List Int))) :=
 Db FU a b c
def Ec (c:(Aev × Aev × Int × (List Int))):Nat → ((List Aex) × Int × (List Int)) → Int → Ae Ae1
 | 0,_,_=>none
 | m + 1,d,a=>(if (decide (a ≤ (Ag (4 * (c.1.length:Int))))) = true then (HU d [] a).bind fun b =>
 (if (decide (0 < (b.1.length:Int))) = true then some (b.1,a) else (Ec c m) (b.2) ((Ag (a + 1)))) else some ([],0))
def Jw (a:(Aev × Aev × Int × (List Int))) (b:Int):Ae Ae1 :=
 (GE a).bind fun u8 =>
 Ec a FU ((u8,b,(List.replicate 900 0))) (0)
def Ig (a:(Aev × Aev × Int × (List Int))) (b:Int):Ae (Int × Bool) :=
 Bk (fun (d:Bool)=>(if d = true then some (0,false) else (RW (a.1.length:Int) 0).bind fun e =>
 (I2 a e b).bind fun f =>
 (if ((f.length:Int) == 0) = true then some (0,true) else (Kn a b).bind fun g =>
 (if (decide (0 ≤ g.1)) = true then some (1,true) else (Jw a b).bind fun h =>
 (if (decide (0 < (h.1.length:Int))) = true then some (2,true) else some (3,true)))))) (fun c=>(L8 a).bind fun i =>
 (if (!i) = true then c (true) else (Hh b).bind fun j =>
 c ((!j))))
def D2 (c:Aev) (e:(Int × Int)) (d:Int) (f:(Int → Int → Int → Int → Ae (Int × Int × Int))):Nat → Int → Int → Int → Int → Ae (Int × Int × Int)
 | 0,_,_,_,_=>none
 | m + 1,g,h,a,b=>(if (decide (b < (c.length:Int))) = true then W0 (fun (k:Int) (l:Int) (n:Int)=>(D2 c e d f m) (k) (l) (n) ((Ag (b + 1)))) (fun i=>(AL c b).bind fun o =>
 (GT e o).bind fun u64 =>
 Bk (fun (p:Bool)=>(if p = true then i (d) (b) (u64) else i (g) (h) (a))) (fun j=>(if (decide (a < 0)) = true then j (true) else j ((decide (u64 < a)))))) else f (g) (h) (a) ((Ag (d + 1))))
def Fd (a:Aev):Nat → Int → Int → Int → Int → Ae (Int × Int × Int)
 | 0,_,_,_,_=>none
 | m + 1,c,d,e,b=>(if (decide (b < (a.length:Int))) = true then (AL a b).bind fun f =>
 D2 a f b (Fd a m) FU (c) (d) (e) ((Ag (b + 1))) else some (c,d,e))
def JN (a:Aev):Ae (Int × Int × Int) :=
 Fd a FU (0) (0) ((-1)) (0)
def Ee (a:Aev):Ae (Int × Bool) :=
 Bk (fun (c:Bool)=>(if c = true then some (0,false) else (JN a).bind fun d =>
 some (d.2.2,true))) (fun b=>(FK a).bind fun e =>
 (if (!e) = true then b (true) else b ((decide ((a.length:Int) < 2)))))
def E9 (a:Aev):Nat → Int → Int → Ae Int
 | 0,_,_=>none
 | m + 1,c,b=>(if (decide (b < (a.length:Int))) = true then (AL a b).bind fun d =>
 (E9 a m) ((Ag (c + d.1))) ((Ag (b + 1))) else some c)
def Jx (a:Aev):Ae Int :=
 E9 a FU (0) (0)
def L9 (a:Aev) (c:Int):Ae Bool :=
 Bk (fun (d:Bool)=>some d) (fun b=>(Jg a).bind fun e =>
 (if e = true then (Jx a).bind fun f =>
 (BQ c 0 f).bind fun g =>
 b (g) else b (false)))
def H1 (b:Int) (a:Int):Ae Int :=
 (if a = 0 then none else some (Ag (Int.tdiv (Ag (60000 * b)) a)))
def Di (b:Aev):Nat → Int → Int → Int → Ae Int
 | 0,_,_,_=>none
 | m + 1,c,d,e=>(if (decide (e < (b.length:Int))) = true then (AL b e).bind fun a =>
 (if (decide (c < a.1)) = true then (H1 c a.2).bind fun f =>
 some (Ag (d + f)) else (H1 a.1 a.2).bind fun g =>
 (Di b m) ((Ag (c - a.1))) ((Ag (d + g))) ((Ag (e + 1)))) else some d)
def FJ (a:Aev) (b:Int):Ae Int :=
 Di a FU (b) (0) (0)
def Ku (a:Aev) (b:Int):Ae (Int × Bool) :=
 (L9 a b).bind fun c =>
 (if (!c) = true then some (0,false) else (FJ a b).bind fun d =>
 some (d,true))
def Lk (a:Int):Ae Bool :=
 (BQ a 0 999).bind fun b =>
 some b
def GD (f:Aew) (g:Int) (c:Int) (d:Int):Nat → Int → Ae Int
 | 0,_=>none
 | m + 1,e=>(if (decide (e < (f.length:Int))) = true then (AL f e).bind fun a =>
 Bk (fun (h:Bool)=>(if h = true then some e else (GD f g c d m) ((Ag (e + 1))))) (fun b=>(if (g == 0) = true then (if (c == 0) = true then (BQ d a.2.2.1 (Ag (a.2.2.2 - 1))).bind fun i =>
 b (i) else (if (a.1 == c) = true then (BQ d a.2.2.1 (Ag (a.2.2.2 - 1))).bind fun j =>
 b (j) else b (false))) else (if (a.2.1 == g) = true then (if (c == 0) = true then (BQ d a.2.2.1 (Ag (a.2.2.2 - 1))).bind fun k =>
 b (k) else (if (a.1 == c) = true then (BQ d a.2.2.1 (Ag (a.2.2.2 - 1))).bind fun l =>
 b (l) else b (false))) else b (false)))) else some (-1))
def KA (a:Aew) (b:Int) (c:Int) (d:Int):Ae Int :=
 GD a b c d FU (0)
def IE (a:Aew) (c:Int) (d:Int):Ae (Int × Bool) :=
 Bk (fun (e:Bool)=>(if e = true then some (0,false) else (KA a c 0 d).bind fun f =>
 (AL a f).bind fun g =>
 some (g.1,true))) (fun b=>(Jl a).bind fun h =>
 (if (!h) = true then b (true) else (Jk c).bind fun i =>
 (if (!i) = true then b (true) else (Lk d).bind fun j =>
 (if (!j) = true then b (true) else (KA a c 0 d).bind fun k =>
 b ((decide (k < 0)))))))
def Ml (a:Aey) (c:Int):Ae Bool :=
 Bk (fun (d:Bool)=>some d) (fun b=>(HZ a).bind fun e =>
 (if e = true then (BQ c 0 (Ag ((a.length:Int) - 1))).bind fun f =>
 b (f) else b (false)))
def E5 (b:Aey):Nat → Int → (List Int) → Ae (List Int)
 | 0,_,_=>none
 | m + 1,a,c=>(if (decide (0 ≤ a)) = true then (Cl [a] c).bind fun d =>
 (AL b a).bind fun e =>
 (E5 b m) (e.1) (d) else some c)
def KW (a:Aey) (b:Int):Ae (List Int) :=
 E5 a FU (b) ([])
def ET (a:(List Int)) (b:Aey):Nat → (List Int) → Int → Ae (List Int)
 | 0,_,_=>none
 | m + 1,c,d=>(if (decide (d < (a.length:Int))) = true then (AL a d).bind fun e =>
 (AL b e).bind fun u64 =>
 (AL b e).bind fun f =>
 (AL c u64.2.1).bind fun g =>
 (ET a b m) ((BE c u64.2.1 f.2.2)) ((Ag (d + 1))) else some c)
def EU (a:Aey) (c:Int):Nat → (List Int) → Ae (List Int)
 | 0,_=>none
 | m + 1,b=>(if (decide ((b.length:Int) < 8)) = true then (Cl b [(-1)]).bind fun d =>
 (EU a c m) (d) else (KW a c).bind fun e =>
 ET e a FU (b) (0))
def JH (a:Aey) (b:Int):Ae (List Int) :=
 EU a b FU ([])
def JR (a:Aey) (b:Int):Ae ((List Int) × Bool) :=
 (Ml a b).bind fun c =>
 (if (!c) = true then some ([],false) else (JH a b).bind fun d =>
 some (d,true))
def D1 (b:(List Int)):Nat → (List Aj) → Int → Ae (List Aj)
 | 0,_,_=>none
 | m + 1,c,a=>(if (decide (a < (b.length:Int))) = true then Bk (fun (h:(List Aj))=>(D1 b m) (h) ((Ag (a + 1)))) (fun d=>(AL b a).bind fun e =>
 Bk (fun (f:(List Aj))=>(if (decide (e < 0)) = true then (Cl f [45]).bind fun i =>
 d (i) else (Dd e).bind fun j =>
 (Cl f j).bind fun k =>
 d (k))) (fun g=>(if (decide (0 < a)) = true then (Cl c [32]).bind fun l =>
 g (l) else g (c)))) else some c)
def JL (a:(List Int)):Ae (List Aj) :=
 D1 a FU ([]) (0)
def Jd (a:Int):Ae (List Aj) :=
 (if ((Int.tmod a 8) == 0) = true then (Dd (Ag (Int.tdiv a 8))).bind fun b =>
 some b else (Dd (Ag (Int.tdiv a 8))).bind fun c =>
 (Cl c [43]).bind fun d =>
 (Dd (Int.tmod a 8)).bind fun e =>
 (Cl d e).bind fun f =>
 some f)
def Kl (a:(Int × Int)):Ae (List Aj) :=
 (Jd a.1).bind fun b =>
 (Cl b [44]).bind fun c =>
 (Jd a.2).bind fun d =>
 (Cl c d).bind fun e =>
 some e
def Mm (b:(Int × Int)) (c:(Int × Int)):Ae Bool :=
 Bk (fun (d:Bool)=>some d) (fun a=>(Ia b).bind fun e =>
 (if e = true then (Ia c).bind fun f =>
 a (f) else a (false)))
def EE (c:Int):Nat → Int → Int → Ae Int
 | 0,_,_=>none
 | m + 1,a,b=>(if (decide (a < b)) = true then (if (decide ((Ag (1000000 * c)) ≤ (Ag ((Ag ((Ag (4800 * (Ag (Int.tdiv (Ag (a + b)) 2)))) * 4800)) * (Ag (Int.tdiv (Ag (a + b)) 2)))))) = true then (EE c m) (a) ((Ag (Int.tdiv (Ag (a + b)) 2))) else (EE c m) ((Ag ((Ag (Int.tdiv (Ag (a + b)) 2)) + 1))) (b)) else some a)
def Km (a:Int):Ae Int :=
 EE a FU (0) (1000)
def Lh (a:(Int × Int)) (b:(Int × Int)):Ae Int :=
 (GT a b).bind fun c =>
 (Km c).bind fun d =>
 some d
def H3 (a:(Int × Int)) (b:(Int × Int)):Ae (Int × Bool) :=
 (Mm a b).bind fun c =>
 (if (!c) = true then some (0,false) else (Lh a b).bind fun d =>
 some (d,true))
def CA (a:(List Int)) (b:(Aev × Aev × Int × Aev × Aew × Aey × (List Int) × (List Int) × Int)) (d:(List Aj)):Nat → Int → Ae (List Aj)
 | 0,_=>none
 | m + 1,c=>(if (decide (c < (a.length:Int))) = true then (AL a c).bind fun f =>
 (if (decide ((b.1.length:Int) ≤ f)) = true then some ([110,111]) else (CA a b d m) ((Ag (c + 1)))) else (if (d == [116,101,120,116]) = true then (AL a 0).bind fun g =>
 (AL b.1 g).bind fun h =>
 (Kl h).bind fun i =>
 some i else (AL a 0).bind fun j =>
 (AL b.1 j).bind fun k =>
 (AL a 1).bind fun l =>
 (AL b.1 l).bind fun n =>
 (H3 k n).bind fun e =>
 (Fq e.1 e.2).bind fun o =>
 some o))
def C3 (a:(Aev × Aev × Int × Aev × Aew × Aey × (List Int) × (List Int) × Int)) (b:(List Aj)) (c:(List Int)):Ae (List Aj) :=
 (if (b == [115,117,109]) = true then jK5 (fun (l:Aev) (m:Aev) (n:Int) (o:(List Int)) (p:Bool)=>(if (!p) = true then some ([110,111]) else (H2 (l,m,n,o)).bind fun e =>
 (Fq e.1 e.2).bind fun q =>
 some q)) (fun r=>(Gr a.2.1 a.1 a.2.2.1).bind fun d =>
 r (d.1.1) (d.1.2.1) (d.1.2.2.1) (d.1.2.2.2) (d.2)) else (if (b == [99,108,111,115,101]) = true then (AL c 0).bind fun s =>
 (Hs a s).bind fun t =>
 some t else (if (b == [107,105,110,100]) = true then (ED a).bind fun f =>
 (if (!f.2) = true then some ([110,111]) else (AL c 0).bind fun u =>
 (Ig f.1 u).bind fun g =>
 (Fq g.1 g.2).bind fun v =>
 some v) else (if (b == [108,101,97,115,116]) = true then (Ee a.1).bind fun h =>
 (Fq h.1 h.2).bind fun w =>
 some w else (if (b == [116,105,109,101]) = true then (AL c 0).bind fun x =>
 (Ku a.2.2.2.1 x).bind fun i =>
 (Fq i.1 i.2).bind fun y =>
 some y else (if (b == [119,104,111]) = true then (AL c 0).bind fun z =>
 (AL c 1).bind fun aa =>
 (IE a.2.2.2.2.1 z aa).bind fun j =>
 (if (!j.2) = true then some ([110,111,110,101]) else (Dd j.1).bind fun ab =>
 some ab) else (if (b == [115,116,97,116,101]) = true then (AL c 0).bind fun ac =>
 (JR a.2.2.2.2.2.1 ac).bind fun k =>
 (if (!k.2) = true then some ([110,111]) else (JL k.1).bind fun ad =>
 some ad) else CA c a b FU (0))))))))
def BS (e:(List (List Aj))) (c:(Aev × Aev × Int × Aev × Aew × Aey × (List Int) × (List Int) × Int)) (d:(List (List Aj))):Nat → (List Int) → Int → Ae ((List Aj) × (Aev × Aev × Int × Aev × Aew × Aey × (List Int) × (List Int) × Int))
 | 0,_,_=>none
 | m + 1,f,g=>(if (decide (g < (e.length:Int))) = true then (AL e g).bind fun j =>
 (Kp j).bind fun h =>
 (BQ h 0 99999).bind fun k =>
 (if (!k) = true then some ([119,104,97,116],c) else (Cl f [h]).bind fun l =>
 (BS e c d m) (l) ((Ag (g + 1)))) else (AL d 0).bind fun a =>
 Bk (fun (n:Bool)=>(if n = true then (AL d 0).bind fun o =>
 (Cz c o f).bind fun i =>
 (Jh i.1).bind fun p =>
 some (p,i.2) else (AL d 0).bind fun q =>
 (C3 c q f).bind fun r =>
 some (r,c))) (fun b=>(if (a == [115,112,111,116]) = true then b ((a == [115,112,111,116])) else (if (a == [112,108,97,99,101]) = true then b ((a == [112,108,97,99,101])) else (if (a == [109,105,114,114,111,114]) = true then b ((a == [109,105,114,114,111,114])) else (if (a == [107,101,101,112]) = true then b ((a == [107,101,101,112])) else (if (a == [99,111,117,110,116,115]) = true then b ((a == [99,111,117,110,116,115])) else (if (a == [109,101,97,115,117,114,101]) = true then b ((a == [109,101,97,115,117,114,101])) else (if (a == [99,97,114,114,121]) = true then b ((a == [99,97,114,114,121])) else b ((a == [118,101,114,115,105,111,110])))))))))))
def Ed (b:(Aev × Aev × Int × Aev × Aew × Aey × (List Int) × (List Int) × Int)) (c:(List Aj)):Ae ((List Aj) × (Aev × Aev × Int × Aev × Aew × Aey × (List Int) × (List Int) × Int)) :=
 (FN c 32).bind fun a =>
 (AL a 0).bind fun d =>
 (GC d).bind fun e =>
 (if ((Ag ((a.length:Int) - 1)) != e) = true then some ([119,104,97,116],b) else (sl a 1 (a.length:Int)).bind fun f =>
 BS f b a FU ([]) (0))
def Gd (d:((List (List Aj)) × Bool)):Nat → (Aev × Aev × Int × Aev × Aew × Aey × (List Int) × (List Int) × Int) → (List Aj) → Int → Ae ((Aev × Aev × Int × Aev × Aew × Aey × (List Int) × (List Int) × Int) × (List Aj) × Bool)
 | 0,_,_,_=>none
 | m + 1,b,f,c=>(if (decide (c < (d.1.length:Int))) = true then (AL d.1 c).bind fun g =>
 (Ed b g).bind fun a =>
 Bk (fun (h:(Aev × Aev × Int × Aev × Aew × Aey × (List Int) × (List Int) × Int))=>(Cl a.1 [10]).bind fun i =>
 (Cl f i).bind fun j =>
 (Gd d m) (h) (j) ((Ag (c + 1)))) (fun e=>(if (a.1 == [110,111]) = true then (Cl a.2.2.2.2.2.2.2.1 [(Ag (c + 1))]).bind fun k =>
 e ((a.2.1,a.2.2.1,a.2.2.2.1,a.2.2.2.2.1,a.2.2.2.2.2.1,a.2.2.2.2.2.2.1,k,a.2.2.2.2.2.2.2.2.1,a.2.2.2.2.2.2.2.2.2)) else (if (a.1 == [119,104,97,116]) = true then (Cl a.2.2.2.2.2.2.2.2.1 [(Ag (c + 1))]).bind fun l =>
 e ((a.2.1,a.2.2.1,a.2.2.2.1,a.2.2.2.2.1,a.2.2.2.2.2.1,a.2.2.2.2.2.2.1,a.2.2.2.2.2.2.2.1,l,a.2.2.2.2.2.2.2.2.2)) else e (a.2)))) else some ((b.1,b.2.1,b.2.2.1,b.2.2.2.1,b.2.2.2.2.1,b.2.2.2.2.2.1,b.2.2.2.2.2.2.1,b.2.2.2.2.2.2.2.1,(d.1.length:Int)),f,true))
def KY (c:(List Aj)):Ae ((Aev × Aev × Int × Aev × Aew × Aey × (List Int) × (List Int) × Int) × (List Aj) × Bool) :=
 (Li ).bind fun a =>
 (JM c).bind fun b =>
 (if (!b.2) = true then some (a,[],false) else Gd b FU (a) ([]) (0))
def Hr (a:(List Aj)) (b:Int):Ae Int :=
 some (PV a b)
def IR (b:(List Aj)) (a:(List Aj)):Ae Int :=
 Bk (fun (d:Bool)=>(if d = true then some 0 else (if ((a.length:Int) == 1) = true then (AL a 0).bind fun e =>
 (Hr b (UInt8.toNat e:Int)).bind fun f =>
 some f else (if (decide ((b.length:Int) ≤ (a.length:Int))) = true then some (-1) else none)))) (fun c=>(if ((a.length:Int) == 0) = true then c (true) else c ((a == b))))
def HT (a:(List Aj)) (b:(List Aj)):Ae Int :=
 (IR a b).bind fun c =>
 some c
def HF (a:(List Aj)):Nat → (List Aj) → Int → Ae Int
 | 0,_,_=>none
 | m + 1,b,c=>(HT b a).bind fun d =>
 (if (d == (-1)) = true then some c else (sl b (Ag (d + (a.length:Int))) (b.length:Int)).bind fun e =>
 (HF a m) (e) ((Ag (c + 1))))
def Jv (b:(List Aj)) (a:(List Aj)):Ae Int :=
 (if ((a.length:Int) == 0) = true then none else (if ((a.length:Int) == 1) = true then (AL a 0).bind fun c =>
 some (Yq b (UInt8.toNat c:Int)) else HF a FU (b) (0)))
def DL (g:Int) (h:(List Aj)) (d:(List Aj)) (e:((List Aj) → (List (List Aj)) → Int → Ae (List (List Aj)))) (i:Int):Nat → (List Aj) → (List (List Aj)) → Int → Ae (List (List Aj))
 | 0,_,_,_=>none
 | m + 1,a,c,b=>(if (decide (b < (Ag ((Fn g (Ag ((h.length:Int) + 1))) - 1)))) = true then (HT a d).bind fun f =>
 (if (decide (f < 0)) = true then e (a) (c) (b) else (sl a 0 (Ag (f + i))).bind fun j =>
 (AL c b).bind fun l =>
 (sl a (Ag (f + (d.length:Int))) (a.length:Int)).bind fun k =>
 (DL g h d e i m) (k) ((BE c b j)) ((Ag (b + 1)))) else e (a) (c) (b))
def Ju (a:(List Aj)) (b:(List Aj)) (h:Int) (c:Int):Ae (List (List Aj)) :=
 (if (c == 0) = true then some [] else (if (b == []) = true then none else Bk (fun (e:Int)=>(RW (Fn e (Ag ((a.length:Int) + 1))) []).bind fun i =>
 W0 (fun (j:(List Aj)) (f:(List (List Aj))) (d:Int)=>(AL f d).bind fun n =>
 (sl (BE f d j) 0 (Ag (d + 1))).bind fun k =>
 some k) (fun l=>DL e a b l h FU (a) (i) (0))) (fun g=>(if (decide (c < 0)) = true then (Jv a b).bind fun m =>
 g ((Ag (m + 1))) else g (c)))))
def Gb (a:(List Aj)) (b:(List Aj)):Ae (List (List Aj)) :=
 (Ju a b 0 (-1)).bind fun c =>
 some c
def JU (a:(List Aj)):Ae ((List (List Aj)) × Bool) :=
 (if (a == []) = true then some ([],true) else (AL a (Ag ((a.length:Int) - 1))).bind fun b =>
 (if ((UInt8.toNat b:Int) != 10) = true then some ([],false) else (sl a 0 (Ag ((a.length:Int) - 1))).bind fun c =>
 (Gb c [10]).bind fun d =>
 some (d,true)))
def HH (c:(List Aj)):Ae ((List (List Aj)) × Bool) :=
 (JU c).bind fun a =>
 Bk (fun (d:Bool)=>(if d = true then some ([],false) else some (a.1,true))) (fun b=>(if (!a.2) = true then b (true) else (if (decide (2000 < (c.length:Int))) = true then b (true) else b ((decide (40 < (a.1.length:Int)))))))
def KI  : Ae (Aev × Aev × Int × Aev × Aew × Aey) :=
 some ([(0,0)],[(0,0)],8,[(4,120)],[],[((-1),0,0)])
def Fj (a:(List Aj)):Nat → Int → Int → Ae (Int × Bool)
 | 0,_,_=>none
 | m + 1,c,b=>(if (decide (b < (a.length:Int))) = true then Bk (fun (e:Bool)=>(if e = true then some (0,false) else (AL a b).bind fun f =>
 (Fj a m) ((Ag ((Ag (10 * c)) + (Ag (Mv ((UInt8.toNat f:Int) - 48)))))) ((Ag (b + 1))))) (fun d=>(AL a b).bind fun g =>
 (if (decide ((UInt8.toNat g:Int) < 48)) = true then d (true) else (AL a b).bind fun h =>
 d ((decide (57 < (UInt8.toNat h:Int)))))) else some (c,true))
def JT (a:(List Aj)):Ae (Int × Bool) :=
 Bk (fun (c:Bool)=>(if c = true then some (0,false) else Fj a FU (0) (0))) (fun b=>(if (a == []) = true then b (true) else (if (decide (9 < (a.length:Int))) = true then b (true) else (if (decide (1 < (a.length:Int))) = true then (AL a 0).bind fun d =>
 b (((UInt8.toNat d:Int) == 48)) else b (false)))))
def J0 (a:(List Aj)):Ae Int :=
 Bk (fun (f:Bool)=>(if f = true then some 0 else Bk (fun (g:Bool)=>(if g = true then some 1 else Bk (fun (h:Bool)=>(if h = true then some 2 else Bk (fun (i:Bool)=>(if i = true then some 3 else (if (a == [99,97,114,114,121]) = true then some 4 else some (-1)))) (fun e=>(if (a == [112,108,97,99,101]) = true then e ((a == [112,108,97,99,101])) else e ((a == [118,101,114,115,105,111,110])))))) (fun c=>(if (a == [115,112,111,116]) = true then c ((a == [115,112,111,116])) else (if (a == [115,111,117,110,100]) = true then c ((a == [115,111,117,110,100])) else (if (a == [109,101,97,115,117,114,101]) = true then c ((a == [109,101,97,115,117,114,101])) else c ((a == [119,104,111])))))))) (fun b=>(if (a == [99,111,117,110,116,115]) = true then b ((a == [99,111,117,110,116,115])) else (if (a == [99,108,111,115,101]) = true then b ((a == [99,108,111,115,101])) else (if (a == [107,105,110,100]) = true then b ((a == [107,105,110,100])) else (if (a == [116,101,120,116]) = true then b ((a == [116,101,120,116])) else (if (a == [116,105,109,101]) = true then b ((a == [116,105,109,101])) else b ((a == [115,116,97,116,101])))))))))) (fun d=>(if (a == [109,105,114,114,111,114]) = true then d ((a == [109,105,114,114,111,114])) else (if (a == [107,101,101,112]) = true then d ((a == [107,101,101,112])) else (if (a == [115,117,109]) = true then d ((a == [115,117,109])) else d ((a == [108,101,97,115,116]))))))
def BX (a:Int) (c:Int) (d:Int):Ae Bool :=
 Bk (fun (e:Bool)=>some e) (fun b=>(if (decide (c ≤ a)) = true then b ((decide (a ≤ d))) else b (false)))
def Gw (a:(Int × Int)):Ae Bool :=
 Bk (fun (c:Bool)=>some c) (fun b=>(BX a.1 0 1280).bind fun d =>
 (if d = true then (BX a.2 0 672).bind fun e =>
 b (e) else b (false)))
def Cn (b:Aev) (c:(Int × Int)):Nat → Int → Ae Int
 | 0,_=>none
 | m + 1,a=>(if (decide (a < (b.length:Int))) = true then (AL b a).bind fun d =>
 (if (MB c d) = true then some a else (Cn b c m) ((Ag (a + 1)))) else some (-1))
def Ez (a:Aev) (b:(Int × Int)):Ae Int :=
 Cn a b FU (0)
def Dk (a:Aev) (b:(Int × Int)):Ae Bool :=
 (Ez a b).bind fun u8 =>
 some (decide (0 ≤ u8))
def Fm (a:Aev):Nat → Int → Ae Bool
 | 0,_=>none
 | m + 1,b=>(if (decide (b < (a.length:Int))) = true then (AL a b).bind fun c =>
 Bk (fun (e:Bool)=>(if e = true then some false else (Fm a m) ((Ag (b + 1))))) (fun d=>(Gw c).bind fun f =>
 (if (!f) = true then d (true) else (sl a 0 b).bind fun g =>
 (Dk g c).bind fun u64 =>
 d (u64))) else some true)
def Eb (a:Aev):Ae Bool :=
 (BX (a.length:Int) 1 12).bind fun b =>
 (if (!b) = true then some false else Fm a FU (0))
def I4 (a:Bool):Ae (List Aj) :=
 (if a = true then some ([111,107]) else some ([110,111]))
def Dj (a:(Aev × Aev × Int × Aev × Aew × Aey)) (d:Aev) (b:Bool):Ae ((List Aj) × (Aev × Aev × Int × Aev × Aew × Aey)) :=
 Bk (fun (e:(Aev × Aev × Int × Aev × Aew × Aey))=>(I4 b).bind fun f =>
 some (f,e)) (fun c=>(if b = true then c ((d,a.2.1,a.2.2.1,a.2.2.2.1,a.2.2.2.2.1,a.2.2.2.2.2)) else c (a)))
def Gk (a:Aev):Ae (Aev × Bool) :=
 (Eb a).bind fun b =>
 (if (!b) = true then some ([],false) else some (a,true))
def GG (a:Aev) (b:Int) (d:(Int × Int)):Ae (Aev × Bool) :=
 Bk (fun (f:Bool)=>(if f = true then some ([],false) else (Cl [] a).bind fun e =>
 (AL e b).bind fun j =>
 (Gk (BE e b d)).bind fun g =>
 some g)) (fun c=>(Eb a).bind fun h =>
 (if (!h) = true then c (true) else (BX b 0 (Ag ((a.length:Int) - 1))).bind fun i =>
 (if (!i) = true then c (true) else (Gw d).bind fun u64 =>
 c ((!u64)))))
def DT (a:Aev):Nat → Aev → Int → Ae (Aev × Bool)
 | 0,_,_=>none
 | m + 1,c,b=>(if (decide (b < (a.length:Int))) = true then (AL a b).bind fun d =>
 (Cl c [((Ag (1280 - d.1)),d.2)]).bind fun e =>
 (DT a m) (e) ((Ag (b + 1))) else some (c,true))
def HL (a:Aev):Ae (Aev × Bool) :=
 (Eb a).bind fun b =>
 (if (!b) = true then some ([],false) else DT a FU ([]) (0))
def BJ (a:(Aev × Aev × Int × Aev × Aew × Aey)) (c:(List Aj)) (b:(List Int)):Ae ((List Aj) × (Aev × Aev × Int × Aev × Aew × Aey)) :=
 (if (c == [115,112,111,116]) = true then Gn (fun (j:(Aev × Aev × Int × Aev × Aew × Aey)) (k:(List Aj))=>some (k,j)) (fun l=>(AL b 0).bind fun m =>
 (AL b 1).bind fun n =>
 (Cl [] a.1).bind fun o =>
 (Cl o [(m,n)]).bind fun p =>
 (Gk p).bind fun d =>
 (Dj a d.1 d.2).bind fun e =>
 l (e.2) (e.1)) else (if (c == [112,108,97,99,101]) = true then (AL b 0).bind fun q =>
 (AL b 1).bind fun r =>
 (AL b 2).bind fun s =>
 (GG a.1 q (r,s)).bind fun f =>
 (Dj a f.1 f.2).bind fun g =>
 some (g.1,g.2) else (if (c == [109,105,114,114,111,114]) = true then (HL a.1).bind fun h =>
 (Dj a h.1 h.2).bind fun i =>
 some (i.1,i.2) else (if (c == [107,101,101,112]) = true then (Cl [] a.1).bind fun t =>
 some ([111,107],(a.1,t,a.2.2.1,a.2.2.2.1,a.2.2.2.2.1,a.2.2.2.2.2)) else (AL b 0).bind fun u =>
 (BX u 1 64).bind fun v =>
 (if (!v) = true then some ([110,111],a) else (AL b 0).bind fun w =>
 some ([111,107],(a.1,a.2.1,w,a.2.2.2.1,a.2.2.2.2.1,a.2.2.2.2.2)))))))
def Fl (a:Aev):Nat → Int → Ae Bool
 | 0,_=>none
 | m + 1,b=>(if (decide (b < (a.length:Int))) = true then (AL a b).bind fun c =>
 Bk (fun (e:Bool)=>(if e = true then some false else (Fl a m) ((Ag (b + 1))))) (fun d=>(BX c.1 1 12).bind fun f =>
 (if (!f) = true then d (true) else (BX c.2 40 220).bind fun g =>
 d ((!g)))) else (BX (a.length:Int) 1 40).bind fun h =>
 some h)
def I6 (a:Aev):Ae Bool :=
 Fl a FU (0)
def Dr (a:(Int × Int × Int × Int)) (b:(Int × Int × Int × Int)):Ae Int :=
 (if (a.2.2.1 != b.2.2.1) = true then some (Ag (a.2.2.1 - b.2.2.1)) else some (Ag (a.2.1 - b.2.1)))
def JV (a:(Int × Int × Int × Int)):Ae Bool :=
 Bk (fun (c:Bool)=>some c) (fun b=>(BX a.1 1 12).bind fun d =>
 (if d = true then (BX a.2.1 1 9).bind fun e =>
 (if e = true then (if (decide (0 ≤ a.2.2.1)) = true then (if (decide (a.2.2.1 < a.2.2.2)) = true then b ((decide (a.2.2.2 ≤ 1000))) else b (false)) else b (false)) else b (false)) else b (false)))
def D3 (c:Aew) (a:(Int × Int × Int × Int)) (f:(Int → Ae Bool)) (g:Int):Nat → Int → Ae Bool
 | 0,_=>none
 | m + 1,d=>(if (decide (d < (c.length:Int))) = true then (AL c d).bind fun b =>
 Bk (fun (h:Bool)=>(if h = true then some false else (D3 c a f g m) ((Ag (d + 1))))) (fun e=>(if (a.2.1 == b.2.1) = true then e ((decide ((Fy a.2.2.1 b.2.2.1) < (Fn a.2.2.2 b.2.2.2)))) else (if (a.1 == b.1) = true then e ((decide ((Fy a.2.2.1 b.2.2.1) < (Fn a.2.2.2 b.2.2.2)))) else e (false)))) else f ((Ag (g + 1))))
def CE (b:Aew):Nat → Int → Ae Bool
 | 0,_=>none
 | m + 1,a=>(if (decide (a < (b.length:Int))) = true then (AL b a).bind fun c =>
 Bk (fun (e:Bool)=>(if e = true then some false else (sl b 0 a).bind fun f =>
 D3 f c (CE b m) a FU (0))) (fun d=>(if (decide (0 < a)) = true then (AL b (Ag (a - 1))).bind fun g =>
 (Dr g c).bind fun h =>
 d ((decide (0 ≤ h))) else d (false))) else some true)
def Ei (a:Aew):Nat → Int → Ae Bool
 | 0,_=>none
 | m + 1,b=>(if (decide (b < (a.length:Int))) = true then (AL a b).bind fun c =>
 (JV c).bind fun d =>
 (if (!d) = true then some false else (Ei a m) ((Ag (b + 1)))) else CE a FU (0))
def FW (a:Aew):Ae Bool :=
 (if (decide (40 < (a.length:Int))) = true then some false else Ei a FU (0))
def DU (d:Aey):Nat → Int → Ae Bool
 | 0,_=>none
 | m + 1,a=>(if (decide (a < (d.length:Int))) = true then (AL d a).bind fun b =>
 Bk (fun (e:Bool)=>(if e = true then some false else (DU d m) ((Ag (a + 1))))) (fun c=>(if (decide (0 < a)) = true then (BX b.1 0 (Ag (a - 1))).bind fun f =>
 (if (!f) = true then c (true) else (BX b.2.1 0 7).bind fun g =>
 (if (!g) = true then c (true) else (BX b.2.2 0 999).bind fun h =>
 c ((!h)))) else (BX b.2.1 0 7).bind fun i =>
 (if (!i) = true then c (true) else (BX b.2.2 0 999).bind fun j =>
 c ((!j))))) else some true)
def FI (a:Aey):Ae Bool :=
 Bk (fun (c:Bool)=>(if c = true then some false else DU a FU (0))) (fun b=>(BX (a.length:Int) 1 60).bind fun d =>
 (if (!d) = true then b (true) else (AL a 0).bind fun e =>
 b ((e.1 != (-1)))))
def Iq (a:Aey) (c:(Int × Int × Int)):Ae (Aey × Bool) :=
 (FI a).bind fun d =>
 (if (!d) = true then some ([],false) else Bk (fun (b:Aey)=>(FI b).bind fun e =>
 (if (!e) = true then some ([],false) else some (b,true))) (fun f=>(Cl [] a).bind fun g =>
 (Cl g [c]).bind fun h =>
 f (h)))
def Bn (c:(Aew → Int → Ae Aew)) (d:Int) (e:Int):Nat → Aew → Int → Ae Aew
 | 0,_,_=>none
 | m + 1,b,a=>Bk (fun (h:Bool)=>(if h = true then Bk (fun (i:Aew)=>(Bn c d e m) (i) ((Ag (a - 1)))) (fun j=>(AL b (Ag (a - 1))).bind fun f =>
 (AL b a).bind fun k =>
 (AL b a).bind fun p =>
 (AL (BE b a f) (Ag (a - 1))).bind fun q =>
 j ((BE (BE b a f) (Ag (a - 1)) k))) else c (b) ((Ag (d + 1))))) (fun g=>(if (decide (e < a)) = true then (AL b a).bind fun l =>
 (AL b (Ag (a - 1))).bind fun n =>
 (Dr l n).bind fun o =>
 g ((decide (o < 0))) else g (false)))
def AW (b:Int) (c:Int):Nat → Aew → Int → Ae Aew
 | 0,_,_=>none
 | m + 1,d,a=>(if (decide (a < b)) = true then Bn (AW b c m) a c FU (d) (a) else some d)
def Bj (b:Aew) (a:Int) (c:Int):Ae Aew :=
 AW c a FU (b) ((Ag (a + 1)))
def Bw (e:Int) (d:Int) (c:Int):Nat → Aew → Int → Ae Aew
 | 0,_,_=>none
 | m + 1,b,a=>(if (decide (a < e)) = true then Bk (fun (g:Aew)=>(Bw e d c m) (g) ((Ag (a + 1)))) (fun h=>(AL b (Ag (d + a))).bind fun f =>
 (AL b (Ag (c + a))).bind fun i =>
 (AL b (Ag (c + a))).bind fun j =>
 (AL (BE b (Ag (c + a)) f) (Ag (d + a))).bind fun k =>
 h ((BE (BE b (Ag (c + a)) f) (Ag (d + a)) i))) else some b)
def B8 (a:Aew) (b:Int) (c:Int) (d:Int):Ae Aew :=
 Bw d c b FU (a) (0)
def B0 (b:Int):Nat → Aew → Int → Int → Ae Aew
 | 0,_,_,_=>none
 | m + 1,d,a,c=>(if (a != c) = true then (if (decide (c < a)) = true then (B8 d (Ag (b - a)) b c).bind fun e =>
 (B0 b m) (e) ((Ag (a - c))) (c) else (B8 d (Ag (b - a)) (Ag ((Ag (b + c)) - a)) a).bind fun f =>
 (B0 b m) (f) (a) ((Ag (c - a)))) else (B8 d (Ag (b - a)) b a).bind fun g =>
 some g)
def BK (b:Aew) (c:Int) (a:Int) (d:Int):Ae Aew :=
 B0 a FU (b) ((Ag (a - c))) ((Ag (d - a)))
def Bz (c:Int):Nat → Aew → Int → Ae Aew
 | 0,_,_=>none
 | m + 1,b,a=>(if (decide (a < (Ag (c - 1)))) = true then Bk (fun (e:Aew)=>(Bz c m) (e) ((Ag (a + 1)))) (fun f=>(AL b (Ag (a + 1))).bind fun d =>
 (AL b a).bind fun g =>
 (AL b a).bind fun h =>
 (AL (BE b a d) (Ag (a + 1))).bind fun i =>
 f ((BE (BE b a d) (Ag (a + 1)) g))) else some b)
def AJ (b:Aew) (d:Int):Nat → Int → Int → Ae Aew
 | 0,_,_=>none
 | m + 1,a,c=>(if (decide (a < c)) = true then (AL b (Ag (Br .u64 (Bh (Ag (a + c))) 1))).bind fun e =>
 (AL b d).bind fun f =>
 (Dr e f).bind fun g =>
 (if (decide (g < 0)) = true then (AJ b d m) ((Ag ((Ag (Br .u64 (Bh (Ag (a + c))) 1)) + 1))) (c) else (AJ b d m) (a) ((Ag (Br .u64 (Bh (Ag (a + c))) 1)))) else Bz a FU (b) (d))
def Bx (c:Int):Nat → Aew → Int → Ae Aew
 | 0,_,_=>none
 | m + 1,b,a=>(if (decide (c < a)) = true then Bk (fun (e:Aew)=>(Bx c m) (e) ((Ag (a - 1)))) (fun f=>(AL b (Ag (a - 1))).bind fun d =>
 (AL b a).bind fun g =>
 (AL b a).bind fun h =>
 (AL (BE b a d) (Ag (a - 1))).bind fun i =>
 f ((BE (BE b a d) (Ag (a - 1)) g))) else some b)
def AH (b:Aew) (d:Int):Nat → Int → Int → Ae Aew
 | 0,_,_=>none
 | m + 1,a,c=>(if (decide (a < c)) = true then (AL b d).bind fun e =>
 (AL b (Ag (Br .u64 (Bh (Ag (a + c))) 1))).bind fun f =>
 (Dr e f).bind fun g =>
 (if (!(decide (g < 0))) = true then (AH b d m) ((Ag ((Ag (Br .u64 (Bh (Ag (a + c))) 1)) + 1))) (c) else (AH b d m) (a) ((Ag (Br .u64 (Bh (Ag (a + c))) 1)))) else Bx a FU (b) (d))
def AG (e:Aew) (b:Int) (c:Int) (d:Int) (rec:(Aew → Int → Int → Int → Ae Aew)):Nat → Int → Int → Ae Aew
 | 0,_,_=>none
 | m + 1,a,f=>(if (decide (a < f)) = true then (AL e (Ag ((Ag ((Ag ((Ag (Br .u64 (Bh (Ag (b + c))) 1)) + d)) - 1)) - (Ag (Br .u64 (Bh (Ag (a + f))) 1))))).bind fun o =>
 (AL e (Ag (Br .u64 (Bh (Ag (a + f))) 1))).bind fun p =>
 (Dr o p).bind fun q =>
 (if (!(decide (q < 0))) = true then (AG e b c d rec m) ((Ag ((Ag (Br .u64 (Bh (Ag (a + f))) 1)) + 1))) (f) else (AG e b c d rec m) (a) ((Ag (Br .u64 (Bh (Ag (a + f))) 1)))) else Bk (fun (g:Aew)=>Bk (fun (h:Aew)=>Bk (fun (r:Bool)=>(if r = true then (rec h (Ag (Br .u64 (Bh (Ag (b + c))) 1)) (Ag ((Ag ((Ag (Br .u64 (Bh (Ag (b + c))) 1)) + d)) - a)) c).bind fun s =>
 some s else some h)) (fun i=>(if (decide ((Ag (Br .u64 (Bh (Ag (b + c))) 1)) < (Ag ((Ag ((Ag (Br .u64 (Bh (Ag (b + c))) 1)) + d)) - a)))) = true then i ((decide ((Ag ((Ag ((Ag (Br .u64 (Bh (Ag (b + c))) 1)) + d)) - a)) < c))) else i (false)))) (fun j=>Bk (fun (t:Bool)=>(if t = true then (rec g b a (Ag (Br .u64 (Bh (Ag (b + c))) 1))).bind fun u =>
 j (u) else j (g))) (fun k=>(if (decide (b < a)) = true then k ((decide (a < (Ag (Br .u64 (Bh (Ag (b + c))) 1))))) else k (false))))) (fun l=>Bk (fun (v:Bool)=>(if v = true then (BK e a d (Ag ((Ag ((Ag (Br .u64 (Bh (Ag (b + c))) 1)) + d)) - a))).bind fun w =>
 l (w) else l (e))) (fun n=>(if (decide (a < d)) = true then n ((decide (d < (Ag ((Ag ((Ag (Br .u64 (Bh (Ag (b + c))) 1)) + d)) - a))))) else n (false)))))
def BW (rec:Aew → Int → Int → Int → Ae Aew) (d:Aew) (b:Int) (a:Int) (c:Int):Ae Aew :=
 (if ((Ag (a - b)) == 1) = true then AJ d b FU (a) (c) else (if ((Ag (c - a)) == 1) = true then AH d a FU (b) (a) else Gn (fun (f:Int) (g:Int)=>AG d b c a rec FU (f) (g)) (fun e=>(if (decide ((Ag (Br .u64 (Bh (Ag (b + c))) 1)) < a)) = true then e ((Ag ((Ag ((Ag (Br .u64 (Bh (Ag (b + c))) 1)) + a)) - c))) ((Ag (Br .u64 (Bh (Ag (b + c))) 1))) else e (b) (a)))))
def AO:Nat → Aew → Int → Int → Int → Ae Aew
 | 0,_,_,_,_=>none
 | m + 1,a,b,c,d=>BW (AO m) a b c d
def Cb (a:Aew) (b:Int) (c:Int) (d:Int):Ae Aew :=
 AO FU a b c d
def Bo (c:Int) (a:Int) (f:(Aew → Int → Ae Aew)):Nat → Aew → Int → Int → Ae Aew
 | 0,_,_,_=>none
 | m + 1,e,b,d=>(if (decide (d ≤ c)) = true then (Cb e b (Ag (b + a)) d).bind fun h =>
 (Bo c a f m) (h) (d) ((Ag (d + (Ag (2 * a))))) else Bk (fun (i:Aew)=>f (i) ((Ag (a * 2)))) (fun g=>(if (decide ((Ag (b + a)) < c)) = true then (Cb e b (Ag (b + a)) c).bind fun j =>
 g (j) else g (e))))
def AE (a:Int):Nat → Aew → Int → Ae Aew
 | 0,_,_=>none
 | m + 1,c,b=>(if (decide (b < a)) = true then Bo a b (AE a m) FU (c) (0) ((Ag (2 * b))) else some c)
def AM (a:Int):Nat → Aew → Int → Int → Ae Aew
 | 0,_,_,_=>none
 | m + 1,c,d,b=>(if (decide (b ≤ a)) = true then (Bj c d b).bind fun e =>
 (AM a m) (e) (b) ((Ag (b + 20))) else (Bj c d a).bind fun f =>
 AE a FU (f) (20))
def C6 (a:Aew) (b:Int):Ae Aew :=
 AM b FU (a) (0) (20)
def B7 (a:Aew):Ae Aew :=
 (C6 a (a.length:Int)).bind fun b =>
 some b
def CG (a:(Aev × Aev × Int × Aev × Aew × Aey)) (f:(List Aj)) (b:(List Int)):Ae ((List Aj) × (Aev × Aev × Int × Aev × Aew × Aey)) :=
 (if (f == [109,101,97,115,117,114,101]) = true then Gn (fun (c:(Aev × Aev × Int × Aev × Aew × Aey)) (g:Aev)=>(I6 g).bind fun j =>
 (if (!j) = true then some ([110,111],c) else some ([111,107],(c.1,c.2.1,c.2.2.1,g,c.2.2.2.2.1,c.2.2.2.2.2)))) (fun k=>(AL b 0).bind fun l =>
 (AL b 1).bind fun m =>
 (Cl [] a.2.2.2.1).bind fun n =>
 (Cl n [(l,m)]).bind fun o =>
 k (a) (o)) else (if (f == [99,97,114,114,121]) = true then Gn (fun (d:(Aev × Aev × Int × Aev × Aew × Aey)) (p:Aew)=>(B7 p).bind fun h =>
 (FW h).bind fun q =>
 (if (!q) = true then some ([110,111],d) else some ([111,107],(d.1,d.2.1,d.2.2.1,d.2.2.2.1,h,d.2.2.2.2.2)))) (fun r=>(AL b 0).bind fun s =>
 (AL b 1).bind fun t =>
 (AL b 2).bind fun u =>
 (AL b 3).bind fun v =>
 (Cl [] a.2.2.2.2.1).bind fun w =>
 (Cl w [(s,t,u,v)]).bind fun x =>
 r (a) (x)) else (AL b 0).bind fun y =>
 (AL b 1).bind fun z =>
 (AL b 2).bind fun aa =>
 (Iq a.2.2.2.2.2 (y,z,aa)).bind fun e =>
 Bk (fun (ab:(Aev × Aev × Int × Aev × Aew × Aey))=>(I4 e.2).bind fun ac =>
 some (ac,ab)) (fun i=>(if e.2 = true then i ((a.1,a.2.1,a.2.2.1,a.2.2.2.1,a.2.2.2.2.1,e.1)) else i (a)))))
def H6 (b:Aev) (c:Aev) (d:Int):Ae Bool :=
 Bk (fun (e:Bool)=>some e) (fun a=>(Eb b).bind fun f =>
 (if f = true then (Eb c).bind fun g =>
 (if g = true then (if ((b.length:Int) == (c.length:Int)) = true then (BX d 1 64).bind fun h =>
 a (h) else a (false)) else a (false)) else a (false)))
def Ef (a:(Int × Int)) (b:(Int × Int)):Ae Int :=
 some (Ag ((Ag ((Ag (a.1 - b.1)) * (Ag (a.1 - b.1)))) + (Ag ((Ag (a.2 - b.2)) * (Ag (a.2 - b.2))))))
def Es (a:Aev) (c:(Int × Int)) (d:Ae0) (e:(Ae0 → Int → Ae Ae0)) (f:Int):Nat → (List Int) → Int → Ae Ae0
 | 0,_,_=>none
 | m + 1,g,b=>(if (decide (b < (a.length:Int))) = true then (AL a b).bind fun h =>
 (Ef c h).bind fun i =>
 (Cl g [i]).bind fun j =>
 (Es a c d e f m) (j) ((Ag (b + 1))) else (Cl d [g]).bind fun k =>
 e (k) ((Ag (f + 1))))
def DG (a:Aev) (c:Aev):Nat → Ae0 → Int → Ae Ae0
 | 0,_,_=>none
 | m + 1,d,b=>(if (decide (b < (a.length:Int))) = true then (AL a b).bind fun e =>
 Es c e d (DG a c m) b FU ([]) (0) else some d)
def IH (a:Aev) (b:Aev):Ae Ae0 :=
 DG a b FU ([]) (0)
def Lb (a:Int):Ae Int :=
 some (B4 .i64 (Ag (Bh ((Bh ((Bh ((B4 .u64 (Bh ((Br .u64 (Bh ((B4 .u64 (Br .u64 (Bh ((B4 .u64 (Br .u64 a 1) 6148914691236517205) + (B4 .u64 a 6148914691236517205))) 2) 3689348814741910323) + (B4 .u64 (Bh ((B4 .u64 (Br .u64 a 1) 6148914691236517205) + (B4 .u64 a 6148914691236517205))) 3689348814741910323))) 4) + (Bh ((B4 .u64 (Br .u64 (Bh ((B4 .u64 (Br .u64 a 1) 6148914691236517205) + (B4 .u64 a 6148914691236517205))) 2) 3689348814741910323) + (B4 .u64 (Bh ((B4 .u64 (Br .u64 a 1) 6148914691236517205) + (B4 .u64 a 6148914691236517205))) 3689348814741910323))))) 1085102592571150095) + (Br .u64 (B4 .u64 (Bh ((Br .u64 (Bh ((B4 .u64 (Br .u64 (Bh ((B4 .u64 (Br .u64 a 1) 6148914691236517205) + (B4 .u64 a 6148914691236517205))) 2) 3689348814741910323) + (B4 .u64 (Bh ((B4 .u64 (Br .u64 a 1) 6148914691236517205) + (B4 .u64 a 6148914691236517205))) 3689348814741910323))) 4) + (Bh ((B4 .u64 (Br .u64 (Bh ((B4 .u64 (Br .u64 a 1) 6148914691236517205) + (B4 .u64 a 6148914691236517205))) 2) 3689348814741910323) + (B4 .u64 (Bh ((B4 .u64 (Br .u64 a 1) 6148914691236517205) + (B4 .u64 a 6148914691236517205))) 3689348814741910323))))) 1085102592571150095) 8))) + (Br .u64 (Bh ((B4 .u64 (Bh ((Br .u64 (Bh ((B4 .u64 (Br .u64 (Bh ((B4 .u64 (Br .u64 a 1) 6148914691236517205) + (B4 .u64 a 6148914691236517205))) 2) 3689348814741910323) + (B4 .u64 (Bh ((B4 .u64 (Br .u64 a 1) 6148914691236517205) + (B4 .u64 a 6148914691236517205))) 3689348814741910323))) 4) + (Bh ((B4 .u64 (Br .u64 (Bh ((B4 .u64 (Br .u64 a 1) 6148914691236517205) + (B4 .u64 a 6148914691236517205))) 2) 3689348814741910323) + (B4 .u64 (Bh ((B4 .u64 (Br .u64 a 1) 6148914691236517205) + (B4 .u64 a 6148914691236517205))) 3689348814741910323))))) 1085102592571150095) + (Br .u64 (B4 .u64 (Bh ((Br .u64 (Bh ((B4 .u64 (Br .u64 (Bh ((B4 .u64 (Br .u64 a 1) 6148914691236517205) + (B4 .u64 a 6148914691236517205))) 2) 3689348814741910323) + (B4 .u64 (Bh ((B4 .u64 (Br .u64 a 1) 6148914691236517205) + (B4 .u64 a 6148914691236517205))) 3689348814741910323))) 4) + (Bh ((B4 .u64 (Br .u64 (Bh ((B4 .u64 (Br .u64 a 1) 6148914691236517205) + (B4 .u64 a 6148914691236517205))) 2) 3689348814741910323) + (B4 .u64 (Bh ((B4 .u64 (Br .u64 a 1) 6148914691236517205) + (B4 .u64 a 6148914691236517205))) 3689348814741910323))))) 1085102592571150095) 8))) 16))) + (Br .u64 (Bh ((Bh ((B4 .u64 (Bh ((Br .u64 (Bh ((B4 .u64 (Br .u64 (Bh ((B4 .u64 (Br .u64 a 1) 6148914691236517205) + (B4 .u64 a 6148914691236517205))) 2) 3689348814741910323) + (B4 .u64 (Bh ((B4 .u64 (Br .u64 a 1) 6148914691236517205) + (B4 .u64 a 6148914691236517205))) 3689348814741910323))) 4) + (Bh ((B4 .u64 (Br .u64 (Bh ((B4 .u64 (Br .u64 a 1) 6148914691236517205) + (B4 .u64 a 6148914691236517205))) 2) 3689348814741910323) + (B4 .u64 (Bh ((B4 .u64 (Br .u64 a 1) 6148914691236517205) + (B4 .u64 a 6148914691236517205))) 3689348814741910323))))) 1085102592571150095) + (Br .u64 (B4 .u64 (Bh ((Br .u64 (Bh ((B4 .u64 (Br .u64 (Bh ((B4 .u64 (Br .u64 a 1) 6148914691236517205) + (B4 .u64 a 6148914691236517205))) 2) 3689348814741910323) + (B4 .u64 (Bh ((B4 .u64 (Br .u64 a 1) 6148914691236517205) + (B4 .u64 a 6148914691236517205))) 3689348814741910323))) 4) + (Bh ((B4 .u64 (Br .u64 (Bh ((B4 .u64 (Br .u64 a 1) 6148914691236517205) + (B4 .u64 a 6148914691236517205))) 2) 3689348814741910323) + (B4 .u64 (Bh ((B4 .u64 (Br .u64 a 1) 6148914691236517205) + (B4 .u64 a 6148914691236517205))) 3689348814741910323))))) 1085102592571150095) 8))) + (Br .u64 (Bh ((B4 .u64 (Bh ((Br .u64 (Bh ((B4 .u64 (Br .u64 (Bh ((B4 .u64 (Br .u64 a 1) 6148914691236517205) + (B4 .u64 a 6148914691236517205))) 2) 3689348814741910323) + (B4 .u64 (Bh ((B4 .u64 (Br .u64 a 1) 6148914691236517205) + (B4 .u64 a 6148914691236517205))) 3689348814741910323))) 4) + (Bh ((B4 .u64 (Br .u64 (Bh ((B4 .u64 (Br .u64 a 1) 6148914691236517205) + (B4 .u64 a 6148914691236517205))) 2) 3689348814741910323) + (B4 .u64 (Bh ((B4 .u64 (Br .u64 a 1) 6148914691236517205) + (B4 .u64 a 6148914691236517205))) 3689348814741910323))))) 1085102592571150095) + (Br .u64 (B4 .u64 (Bh ((Br .u64 (Bh ((B4 .u64 (Br .u64 (Bh ((B4 .u64 (Br .u64 a 1) 6148914691236517205) + (B4 .u64 a 6148914691236517205))) 2) 3689348814741910323) + (B4 .u64 (Bh ((B4 .u64 (Br .u64 a 1) 6148914691236517205) + (B4 .u64 a 6148914691236517205))) 3689348814741910323))) 4) + (Bh ((B4 .u64 (Br .u64 (Bh ((B4 .u64 (Br .u64 a 1) 6148914691236517205) + (B4 .u64 a 6148914691236517205))) 2) 3689348814741910323) + (B4 .u64 (Bh ((B4 .u64 (Br .u64 a 1) 6148914691236517205) + (B4 .u64 a 6148914691236517205))) 3689348814741910323))))) 1085102592571150095) 8))) 16))) 32)))) 127)
def H8 (a:Int):Ae Int :=
 (Lb a).bind fun b =>
 some b
def DI (d:Ae0) (a:Int) (e:Int) (f:((List Int) → Int → Ae (List Int))):Nat → (List Int) → Int → Ae (List Int)
 | 0,_,_=>none
 | m + 1,b,c=>(if (decide (c < (d.length:Int))) = true then Bk (fun (h:(List Int))=>(DI d a e f m) (h) ((Ag (c + 1)))) (fun g=>(if (decide (0 ≤ c)) = true then (if ((B4 .i64 (Br .i64 a c) 1) == 0) = true then (AL b a).bind fun i =>
 (AL d e).bind fun j =>
 (AL j c).bind fun k =>
 (AL b (Tk .i64 a (KB .i64 1 c))).bind fun l =>
 (AL b a).bind fun n =>
 g ((BE b a (Fn i (Ag (k + l))))) else g (b)) else none)) else f (b) ((Ag (a - 1))))
def Ev (c:Ae0):Nat → (List Int) → Int → Ae (List Int)
 | 0,_,_=>none
 | m + 1,b,a=>(if (decide (0 ≤ a)) = true then (H8 (Bh a)).bind fun d =>
 (AL b a).bind fun e =>
 DI c a d (Ev c m) FU ((BE b a 13194139533312)) (0) else some b)
def IK (a:Ae0):Ae (List Int) :=
 (if (decide (0 ≤ (a.length:Int))) = true then (RW (KB .i64 1 (a.length:Int)) 0).bind fun b =>
 Ev a FU (b) ((Ag ((KB .i64 1 (a.length:Int)) - 2))) else none)
def Dw (c:Ae0) (d:(List Int)) (e:(Int → (List Int) → Ae (List Int))) (b:Int) (g:Int) (f:(List Int)):Nat → Int → Ae (List Int)
 | 0,_=>none
 | m + 1,a=>(if (decide (a < (c.length:Int))) = true then Bk (fun (i:Bool)=>(if i = true then (Cl d [a]).bind fun j =>
 (if (decide (0 ≤ a)) = true then e ((Tk .i64 b (KB .i64 1 a))) (j) else none) else (Dw c d e b g f m) ((Ag (a + 1))))) (fun h=>(if (decide (0 ≤ a)) = true then (if ((B4 .i64 (Br .i64 b a) 1) == 0) = true then (AL c g).bind fun k =>
 (AL k a).bind fun l =>
 (AL f b).bind fun n =>
 (AL f (Tk .i64 b (KB .i64 1 a))).bind fun o =>
 h (((Ag (l + o)) == n)) else h (false)) else none)) else e (b) (d))
def Dx (a:Ae0) (c:(List Int)):Nat → Int → (List Int) → Int → Ae (List Int)
 | 0,_,_,_=>none
 | m + 1,e,d,b=>(if (decide (b < (a.length:Int))) = true then Gn (fun (f:Int) (g:(List Int))=>(Dx a c m) (f) (g) ((Ag (b + 1)))) (fun h=>Dw a d h e b c FU (0)) else some d)
def GW (a:Ae0):Ae (List Int) :=
 (IK a).bind fun b =>
 Dx a b FU (0) ([]) (0)
def Ft (a:(List Int)):Ae (List Int) :=
 (Cl [] a).bind fun b =>
 some b
def EI (a:Aev) (b:Aev) (c:Int) (d:(List Int)):Ae (Aev × Aev × Int × (List Int)) :=
 (Cl [] a).bind fun e =>
 (Cl [] b).bind fun f =>
 (Ft d).bind fun g =>
 some (e,f,c,g)
def Gt (a:Aev) (b:Aev) (c:Int):Ae ((Aev × Aev × Int × (List Int)) × Bool) :=
 (H6 a b c).bind fun d =>
 (if (!d) = true then some (([],[],0,[]),false) else (IH a b).bind fun e =>
 (GW e).bind fun f =>
 (EI a b c f).bind fun g =>
 some (g,true))
def Eh (b:(List Int)) (c:Int):Nat → Int → Int → Ae Bool
 | 0,_,_=>none
 | m + 1,e,d=>(if (decide (d < (b.length:Int))) = true then (AL b d).bind fun a =>
 Bk (fun (g:Bool)=>(if g = true then some false else (if (decide (0 ≤ a)) = true then (Eh b c m) ((Tk .i64 e (KB .i64 1 a))) ((Ag (d + 1))) else none))) (fun f=>(BX a 0 (Ag (c - 1))).bind fun h =>
 (if (!h) = true then f (true) else (if (decide (0 ≤ a)) = true then f (((B4 .i64 (Br .i64 e a) 1) == 1)) else none))) else some ((b.length:Int) == c))
def Io (a:(List Int)) (b:Int):Ae Bool :=
 Eh a b FU (0) (0)
def Fp (a:(Aev × Aev × Int × (List Int))):Ae Bool :=
 Bk (fun (c:Bool)=>some c) (fun b=>(Eb a.1).bind fun d =>
 (if d = true then (Eb a.2.1).bind fun e =>
 (if e = true then (if ((a.1.length:Int) == (a.2.1.length:Int)) = true then (BX a.2.2.1 1 64).bind fun f =>
 (if f = true then (Io a.2.2.2 (a.1.length:Int)).bind fun g =>
 b (g) else b (false)) else b (false)) else b (false)) else b (false)))
def Et (a:(Aev × Aev × Int × (List Int))):Nat → Int → Int → Ae Int
 | 0,_,_=>none
 | m + 1,c,b=>(if (decide (b < (a.2.2.2.length:Int))) = true then (AL a.2.2.2 b).bind fun d =>
 (AL a.1 b).bind fun e =>
 (AL a.2.1 d).bind fun f =>
 (Ef e f).bind fun g =>
 (Et a m) ((Ag (c + g))) ((Ag (b + 1))) else some c)
def II (a:(Aev × Aev × Int × (List Int))):Ae Int :=
 Et a FU (0) (0)
def H7 (a:(Aev × Aev × Int × (List Int))):Ae (Int × Bool) :=
 (Fp a).bind fun b =>
 (if (!b) = true then some (0,false) else (II a).bind fun c =>
 some (c,true))
def Fr (a:Int) (b:Bool):Ae (List Aj) :=
 (if b = true then (CY a).bind fun c =>
 some c else some ([110,111]))
def Dg (a:Aev) (c:Aev) (d:Int):Nat → (List Int) → Int → Ae ((Aev × Aev × Int × (List Int)) × Bool)
 | 0,_,_=>none
 | m + 1,e,b=>(if (decide (b < (a.length:Int))) = true then (Cl e [b]).bind fun f =>
 (Dg a c d m) (f) ((Ag (b + 1))) else (EI a c d e).bind fun g =>
 some (g,true))
def ER (a:Aev) (b:Aev) (c:Int):Ae ((Aev × Aev × Int × (List Int)) × Bool) :=
 (H6 a b c).bind fun d =>
 (if (!d) = true then some (([],[],0,[]),false) else Dg a b c FU ([]) (0))
def I5 (a:Int):Ae Bool :=
 (BX a 0 80).bind fun b =>
 some b
def Fk (a:(Aev × Aev × Int × (List Int))):Nat → (List Aex) → Int → Ae (List Aex)
 | 0,_,_=>none
 | m + 1,c,b=>(if (decide (b < (a.2.2.2.length:Int))) = true then (AL a.2.2.2 b).bind fun d =>
 (AL a.1 b).bind fun e =>
 (AL a.2.1 d).bind fun f =>
 (Cl c [(e,f,a.2.2.1)]).bind fun g =>
 (Fk a m) (g) ((Ag (b + 1))) else some c)
def H5 (a:(Aev × Aev × Int × (List Int))):Ae (List Aex) :=
 Fk a FU ([]) (0)
def Lm (a:Aex) (b:Aex):Ae ((Int × Int) × (Int × Int) × Int × Int) :=
 some (((Ag (a.1.1 - b.1.1)),(Ag (a.1.2 - b.1.2))),((Ag ((Ag (a.2.1.1 - b.2.1.1)) - (Ag (a.1.1 - b.1.1)))),(Ag ((Ag (a.2.1.2 - b.2.1.2)) - (Ag (a.1.2 - b.1.2))))),(Ag ((Ag ((Ag (a.1.1 - b.1.1)) * (Ag ((Ag (a.2.1.1 - b.2.1.1)) - (Ag (a.1.1 - b.1.1)))))) + (Ag ((Ag (a.1.2 - b.1.2)) * (Ag ((Ag (a.2.1.2 - b.2.1.2)) - (Ag (a.1.2 - b.1.2)))))))),(Ag ((Ag ((Ag ((Ag (a.2.1.1 - b.2.1.1)) - (Ag (a.1.1 - b.1.1)))) * (Ag ((Ag (a.2.1.1 - b.2.1.1)) - (Ag (a.1.1 - b.1.1)))))) + (Ag ((Ag ((Ag (a.2.1.2 - b.2.1.2)) - (Ag (a.1.2 - b.1.2)))) * (Ag ((Ag (a.2.1.2 - b.2.1.2)) - (Ag (a.1.2 - b.1.2)))))))))
def GX  : Nat → Int → Int → Ae Int
 | 0,_,_=>none
 | m + 1,b,a=>(if (a != 0) = true then (if a = 0 then none else (GX m) (a) ((Int.tmod b a))) else some b)
def Mq (a:Int) (b:Int):Ae Int :=
 GX FU ((Fy a (Ag (0 - a)))) ((Fy b (Ag (0 - b))))
def FH (b:Int) (c:Int):Ae (Int × Int) :=
 (Mq b c).bind fun a =>
 (if a = 0 then none else (if a = 0 then none else some ((Ag (Int.tdiv b a)),(Ag (Int.tdiv c a)))))
def Im (b:Aex) (c:Aex):Ae (Int × Int) :=
 (Lm b c).bind fun a =>
 (if (decide (0 ≤ a.2.2.1)) = true then some ((Ag ((Ag (a.1.1 * a.1.1)) + (Ag (a.1.2 * a.1.2)))),1) else (if (decide (a.2.2.2 ≤ (Ag (0 - a.2.2.1)))) = true then (Ef b.2.1 c.2.1).bind fun d =>
 some (d,1) else (FH (Ag ((Ag ((Ag (a.1.1 * a.2.1.2)) - (Ag (a.1.2 * a.2.1.1)))) * (Ag ((Ag (a.1.1 * a.2.1.2)) - (Ag (a.1.2 * a.2.1.1)))))) a.2.2.2).bind fun e =>
 some e))
def IG (c:Aex) (d:Aex) (a:Int):Ae Bool :=
 (Im c d).bind fun b =>
 some (decide ((Ag ((Ag (a * a)) * b.2)) ≤ b.1))
def Dy (u8:(List Aex)) (a:Int) (d:Int) (e:(Ae0 → Int → Ae Ae0)):Nat → Ae0 → Int → Ae Ae0
 | 0,_,_=>none
 | m + 1,c,b=>(if (decide (b < (u8.length:Int))) = true then Bk (fun (g:Ae0)=>(Dy u8 a d e m) (g) ((Ag (b + 1)))) (fun f=>(AL u8 a).bind fun h =>
 (AL u8 b).bind fun i =>
 (IG h i d).bind fun j =>
 (if (!j) = true then (Cl c [[a,b]]).bind fun k =>
 f (k) else f (c))) else e (c) ((Ag (a + 1))))
def Dz (u8:(List Aex)) (b:Int):Nat → Ae0 → Int → Ae Ae0
 | 0,_,_=>none
 | m + 1,c,a=>(if (decide (a < (u8.length:Int))) = true then Dy u8 a b (Dz u8 b m) FU (c) ((Ag (a + 1))) else some c)
def GZ (a:(Aev × Aev × Int × (List Int))) (b:Int):Ae Ae0 :=
 (H5 a).bind fun u8 =>
 Dz u8 b FU ([]) (0)
def Ha (a:(Aev × Aev × Int × (List Int))) (b:Int):Ae (Ae0 × Bool) :=
 Bk (fun (d:Bool)=>(if d = true then some ([],false) else (GZ a b).bind fun e =>
 some (e,true))) (fun c=>(Fp a).bind fun f =>
 (if (!f) = true then c (true) else (I5 b).bind fun g =>
 c ((!g))))
def CD (a:(Ae0 × Bool)):Nat → (List (List Aj)) → Int → Ae (List Aj)
 | 0,_,_=>none
 | m + 1,c,b=>(if (decide (b < (a.1.length:Int))) = true then Bk (fun (e:(List (List Aj)))=>(CD a m) (e) ((Ag (b + 1)))) (fun f=>(AL a.1 b).bind fun d =>
 (AL d 0).bind fun g =>
 (AL d 1).bind fun h =>
 (CY g).bind fun i =>
 (Cl i [45]).bind fun j =>
 (CY h).bind fun k =>
 (Cl j k).bind fun l =>
 (Cl c [l]).bind fun n =>
 f (n)) else (I0 c [32]).bind fun o =>
 some o)
def GL (b:(Aev × Aev × Int × Aev × Aew × Aey)) (d:Int):Ae (List Aj) :=
 Wz (fun (e:Aev) (f:Aev) (g:Int) (h:(List Int))=>(Ha (e,f,g,h) d).bind fun c =>
 (if (!c.2) = true then some ([110,111]) else (if ((c.1.length:Int) == 0) = true then some ([110,111,110,101]) else CD c FU ([]) (0)))) (fun i=>(ER b.2.1 b.1 b.2.2.1).bind fun a =>
 i (a.1.1) (a.1.2.1) (a.1.2.2.1) (a.1.2.2.2))
def JA (a:(Aev × Aev × Int × (List Int))):Ae Bool :=
 Bk (fun (c:Bool)=>some c) (fun b=>(Fp a).bind fun d =>
 (if d = true then (if (decide (a.2.2.1 ≤ 16)) = true then b ((decide ((a.1.length:Int) ≤ 6))) else b (false)) else b (false)))
def FQ (a:Aex) (b:Int):Ae (Int × Int) :=
 some ((Ag ((Ag (a.1.1 * a.2.2)) + (Ag (b * (Ag (a.2.1.1 - a.1.1)))))),(Ag ((Ag (a.1.2 * a.2.2)) + (Ag (b * (Ag (a.2.1.2 - a.1.2)))))))
def Gg (a:Aex) (b:Int) (c:Int):Ae (Int × Int) :=
 (FQ a (Fn (Fy (Ag (c - b)) 0) a.2.2)).bind fun u8 =>
 some u8
def JX (a:Int) (b:Int):Ae (Int × Int) :=
 some ((Bh ((Bh ((Bh ((Br .u64 a 32) * (Br .u64 b 32))) + (Br .u64 (Bh ((Bh ((Br .u64 a 32) * (B4 .u64 b 4294967295))) + (Br .u64 (Bh ((B4 .u64 a 4294967295) * (B4 .u64 b 4294967295))) 32))) 32))) + (Br .u64 (Bh ((B4 .u64 (Bh ((Bh ((Br .u64 a 32) * (B4 .u64 b 4294967295))) + (Br .u64 (Bh ((B4 .u64 a 4294967295) * (B4 .u64 b 4294967295))) 32))) 4294967295) + (Bh ((B4 .u64 a 4294967295) * (Br .u64 b 32))))) 32))),(Bh (a * b)))
def Fo (d:Int) (e:Int) (f:Int) (g:Int):Ae Bool :=
 (JX (Bh d) (Bh g)).bind fun a =>
 (JX (Bh f) (Bh e)).bind fun b =>
 Bk (fun (h:Bool)=>some h) (fun c=>(if (decide (a.1 < b.1)) = true then c (true) else (if (a.1 == b.1) = true then c ((decide (a.2 < b.2))) else c (false))))
def C0 (e:Aex) (g:Int) (h:Int) (k:Aex):Nat → Int → Int → Int → Int → Int → Ae (Int × Int)
 | 0,_,_,_,_,_=>none
 | m + 1,c,d,i,j,f=>(if (decide (f ≤ (Ag (e.2.2 + (Fy g h))))) = true then (Gg e g f).bind fun a =>
 (Gg k h f).bind fun b =>
 Gn (fun (l:Int) (n:Int)=>Gn (fun (s:Int) (t:Int)=>(C0 e g h k m) ((Ag (a.1 - b.1))) ((Ag (a.2 - b.2))) (s) (t) ((Ag (f + 1)))) (fun o=>(Fo l n i j).bind fun u =>
 (if u = true then o (l) (n) else o (i) (j)))) (fun p=>Bk (fun (v:Bool)=>(if v = true then p ((Ag ((Ag ((Ag (c * (Ag ((Ag (a.2 - b.2)) - d)))) - (Ag (d * (Ag ((Ag (a.1 - b.1)) - c)))))) * (Ag ((Ag (c * (Ag ((Ag (a.2 - b.2)) - d)))) - (Ag (d * (Ag ((Ag (a.1 - b.1)) - c))))))))) ((Ag ((Ag ((Ag ((Ag (a.1 - b.1)) - c)) * (Ag ((Ag (a.1 - b.1)) - c)))) + (Ag ((Ag ((Ag (a.2 - b.2)) - d)) * (Ag ((Ag (a.2 - b.2)) - d))))))) else p ((Ag ((Ag ((Ag (a.1 - b.1)) * (Ag (a.1 - b.1)))) + (Ag ((Ag (a.2 - b.2)) * (Ag (a.2 - b.2))))))) (1))) (fun q=>(if (decide ((Ag ((Ag (c * (Ag ((Ag (a.1 - b.1)) - c)))) + (Ag (d * (Ag ((Ag (a.2 - b.2)) - d)))))) < 0)) = true then q ((decide ((Ag (0 - (Ag ((Ag (c * (Ag ((Ag (a.1 - b.1)) - c)))) + (Ag (d * (Ag ((Ag (a.2 - b.2)) - d)))))))) < (Ag ((Ag ((Ag ((Ag (a.1 - b.1)) - c)) * (Ag ((Ag (a.1 - b.1)) - c)))) + (Ag ((Ag ((Ag (a.2 - b.2)) - d)) * (Ag ((Ag (a.2 - b.2)) - d))))))))) else q (false)))) else (FH i j).bind fun r =>
 (FH r.1 (Ag ((Ag (r.2 * e.2.2)) * e.2.2))).bind fun w =>
 some w)
def Gi (c:Aex) (d:Aex) (e:Int) (f:Int):Ae (Int × Int) :=
 (FQ c 0).bind fun a =>
 (FQ d 0).bind fun b =>
 C0 c e f d FU ((Ag (a.1 - b.1))) ((Ag (a.2 - b.2))) ((Ag ((Ag ((Ag (a.1 - b.1)) * (Ag (a.1 - b.1)))) + (Ag ((Ag (a.2 - b.2)) * (Ag (a.2 - b.2))))))) (1) (1)
def Gj (c:Aex) (d:Aex) (e:Int) (f:Int) (a:Int):Ae Bool :=
 (Gi c d e f).bind fun b =>
 some (decide (b.1 < (Ag ((Ag (a * a)) * b.2))))
def D8 (u8:(List Aex)) (a:Int) (c:(List Int)) (e:Int) (f:(Ae0 → Int → Ae Ae0)):Nat → Ae0 → Int → Ae Ae0
 | 0,_,_=>none
 | m + 1,d,b=>(if (decide (b < (u8.length:Int))) = true then Bk (fun (h:Ae0)=>(D8 u8 a c e f m) (h) ((Ag (b + 1)))) (fun g=>(AL u8 a).bind fun i =>
 (AL u8 b).bind fun j =>
 (AL c a).bind fun k =>
 (AL c b).bind fun l =>
 (Gj i j k l e).bind fun n =>
 (if n = true then (Cl d [[a,b]]).bind fun o =>
 g (o) else g (d))) else f (d) ((Ag (a + 1))))
def D9 (u8:(List Aex)) (b:(List Int)) (c:Int):Nat → Ae0 → Int → Ae Ae0
 | 0,_,_=>none
 | m + 1,d,a=>(if (decide (a < (u8.length:Int))) = true then D8 u8 a b c (D9 u8 b c m) FU (d) ((Ag (a + 1))) else some d)
def Hx (a:(Aev × Aev × Int × (List Int))) (b:(List Int)) (c:Int):Ae Ae0 :=
 (H5 a).bind fun u8 =>
 D9 u8 b c FU ([]) (0)
def Gh (a:(Aev × Aev × Int × (List Int))) (b:Int):Ae Bool :=
 (RW (a.1.length:Int) 0).bind fun c =>
 (Hx a c b).bind fun d =>
 some ((d.length:Int) == 0)
def Ik (b:(Aev × Aev × Int × (List Int))) (c:Int) (d:Int):Ae (Aev × Aev × Int × (List Int)) :=
 (EI b.1 b.2.1 b.2.2.1 b.2.2.2).bind fun a =>
 Bk (fun (f:(List Int))=>some (a.1,a.2.1,a.2.2.1,f)) (fun g=>(AL a.2.2.2 d).bind fun e =>
 (AL a.2.2.2 c).bind fun h =>
 (AL a.2.2.2 c).bind fun i =>
 (AL (BE a.2.2.2 c e) d).bind fun j =>
 g ((BE (BE a.2.2.2 c e) d h)))
def Eg (c:(Aev × Aev × Int × (List Int))) (a:Int) (d:Int) (e:(Int → Ae (Int × Int × Bool))):Nat → Int → Ae (Int × Int × Bool)
 | 0,_=>none
 | m + 1,b=>(if (decide (b < (c.1.length:Int))) = true then (Ik c a b).bind fun f =>
 (Gh f d).bind fun g =>
 (if g = true then some (a,b,true) else (Eg c a d e m) ((Ag (b + 1)))) else e ((Ag (a + 1))))
def Dm (a:(Aev × Aev × Int × (List Int))) (c:Int):Nat → Int → Ae (Int × Int × Bool)
 | 0,_=>none
 | m + 1,b=>(if (decide (b < (a.1.length:Int))) = true then Eg a b c (Dm a c m) FU ((Ag (b + 1))) else some (0,0,false))
def Il (a:(Aev × Aev × Int × (List Int))) (b:Int):Ae (Int × Int × Bool) :=
 Dm a b FU (0)
def CI (a:(List Int)) (b:Int) (rec:(Aez → (List Int) → Int → Ae Aez)) (g:Int) (e:(Aez → Ae Aez)):Nat → Aez → Bool → Int → Ae Aez
 | 0,_,_,_=>none
 | m + 1,d,h,c=>(if (decide (c < (a.length:Int))) = true then Gn (fun (j:Aez) (k:Bool)=>(CI a b rec g e m) (j) (k) ((Ag (c + 1)))) (fun i=>(AL a c).bind fun f =>
 (if h = true then (if (decide (0 ≤ c) && decide (c < 6)) = true then (if (decide (0 ≤ (a.length:Int)) && decide ((a.length:Int) < 6)) = true then (if (decide (0 ≤ f) && decide (f < 5)) = true then (if (decide (0 ≤ b) && decide (b < 5)) = true then (d.1[c.toNat * 150 + (a.length:Int).toNat * 25 + f.toNat * 5 + b.toNat * 1]?).bind fun l =>
 i (d) ((!l)) else none) else none) else none) else none) else i (d) (false))) else (if h = true then (Ft a).bind fun n =>
 (Cl n [b]).bind fun o =>
 (rec d o (Ag (g + b))).bind fun p =>
 e (p) else e (d)))
def Cu (b:(List Int)) (rec:(Aez → (List Int) → Int → Ae Aez)) (c:Int):Nat → Aez → Int → Ae Aez
 | 0,_,_=>none
 | m + 1,d,a=>(if (decide (a ≤ 4)) = true then Bk (fun (e:Aez)=>(Cu b rec c m) (e) ((Ag (a + 1)))) (fun f=>CI b a rec c f FU (d) (true) (0)) else some d)
def EL (rec:Aez → (List Int) → Int → Ae Aez) (b:Aez) (c:(List Int)) (d:Int):Ae Aez :=
 Gn (fun (a:Aez) (g:Bool)=>(if g = true then some a else (if ((c.length:Int) == a.2.1) = true then (Ft c).bind fun e =>
 (if (List.isEmpty e) = true then none else some (a.1,a.2.1,e,d)) else Cu c rec d FU (a) (0)))) (fun f=>(if (!(List.isEmpty b.2.2.1)) = true then f (b) ((decide (b.2.2.2 ≤ d))) else f (b) (false)))
def Ck:Nat → Aez → (List Int) → Int → Ae Aez
 | 0,_,_,_=>none
 | m + 1,a,b,c=>EL (Ck m) a b c
def GY (a:Aez) (b:(List Int)) (c:Int):Ae Aez :=
 Ck FU a b c
def DN (u8:(List Aex)) (c:Int) (d:Int) (a:Int) (f:Int) (g:(Aez → Int → Ae Ae1)):Nat → Aez → Int → Ae Ae1
 | 0,_,_=>none
 | m + 1,e,b=>(if (decide (b ≤ 4)) = true then Bk (fun (h:Aez)=>(DN u8 c d a f g m) (h) ((Ag (b + 1)))) (fun i=>(AL u8 c).bind fun j =>
 (AL u8 d).bind fun k =>
 (if (decide (0 ≤ c) && decide (c < 6)) = true then (if (decide (0 ≤ d) && decide (d < 6)) = true then (if (decide (0 ≤ a) && decide (a < 5)) = true then (Gj j k a b f).bind fun l =>
 (if (decide (0 ≤ b) && decide (b < 5)) = true then (NP e.1 (c.toNat * 150 + d.toNat * 25 + a.toNat * 5 + b.toNat * 1) l).bind fun n =>
 i ((n,e.2.1,e.2.2.1,e.2.2.2)) else none) else none) else none) else none)) else g (e) ((Ag (a + 1))))
def DO (u8:(List Aex)) (b:Int) (a:Int) (c:Int) (d:(Aez → Int → Ae Ae1)):Nat → Aez → Int → Ae Ae1
 | 0,_,_=>none
 | m + 1,e,f=>(if (decide (f ≤ 4)) = true then DN u8 b a f c (DO u8 b a c d m) FU (e) (0) else d (e) ((Ag (a + 1))))
def DP (u8:(List Aex)) (a:Int) (b:Int) (c:(Aez → Int → Ae Ae1)):Nat → Aez → Int → Ae Ae1
 | 0,_,_=>none
 | m + 1,d,e=>(if (decide (e < (u8.length:Int))) = true then DO u8 a e b (DP u8 a b c m) FU (d) (0) else c (d) ((Ag (a + 1))))
def DQ (u8:(List Aex)) (b:Int):Nat → Aez → Int → Ae Ae1
 | 0,_,_=>none
 | m + 1,c,a=>(if (decide (a < (u8.length:Int))) = true then DP u8 a b (DQ u8 b m) FU (c) ((Ag (a + 1))) else (GY c [] 0).bind fun d =>
 some (d.2.2.1,d.2.2.2))
def HI (a:(Aev × Aev × Int × (List Int))) (b:Int):Ae Ae1 :=
 (H5 a).bind fun u8 =>
 DQ u8 b FU (((List.replicate 900 false),(u8.length:Int),[],0)) (0)
def Ip (a:(Aev × Aev × Int × (List Int))) (b:Int):Ae (Int × Bool) :=
 Bk (fun (d:Bool)=>(if d = true then some (0,false) else (Gh a b).bind fun e =>
 (if e = true then some (0,true) else (Il a b).bind fun f =>
 (if f.2.2 = true then some (1,true) else (HI a b).bind fun g =>
 (if (!(List.isEmpty g.1)) = true then some (2,true) else some (3,true)))))) (fun c=>(JA a).bind fun h =>
 (if (!h) = true then c (true) else (I5 b).bind fun i =>
 c ((!i))))
def Ds (a:Aev) (b:Int) (f:(Int → Int → Int → Ae (Int × Int))):Nat → Int → Int → Int → Ae (Int × Int)
 | 0,_,_,_=>none
 | m + 1,d,e,c=>(if (decide (c < (a.length:Int))) = true then Gn (fun (h:Int) (i:Int)=>(Ds a b f m) (h) (i) ((Ag (c + 1)))) (fun g=>(AL a b).bind fun j =>
 (AL a c).bind fun k =>
 (AL a d).bind fun l =>
 (AL a e).bind fun n =>
 (Ef j k).bind fun o =>
 (Ef l n).bind fun p =>
 (if (decide (o < p)) = true then g (b) (c) else g (d) (e))) else f (d) (e) ((Ag (b + 1))))
def DS (a:Aev):Nat → Int → Int → Int → Ae (Int × Int)
 | 0,_,_,_=>none
 | m + 1,c,d,b=>(if (decide (b < (a.length:Int))) = true then Ds a b (DS a m) FU (c) (d) ((Ag (b + 1))) else some (c,d))
def HK (a:Aev):Ae (Int × Int) :=
 DS a FU (0) (1) (0)
def EC (a:Aev):Ae (Int × Bool) :=
 Bk (fun (d:Bool)=>(if d = true then some (0,false) else (HK a).bind fun b =>
 (AL a b.1).bind fun e =>
 (AL a b.2).bind fun f =>
 (Ef e f).bind fun g =>
 some (g,true))) (fun c=>(Eb a).bind fun h =>
 (if (!h) = true then c (true) else c ((decide ((a.length:Int) < 2)))))
def H4 (a:Int):Ae (List Aj) :=
 (CY (Ag (Int.tdiv a 8))).bind fun b =>
 Bk (fun (d:(List Aj))=>some d) (fun c=>(if (decide (0 < (Int.tmod a 8))) = true then (CY (Int.tmod a 8)).bind fun e =>
 (Cl [43] e).bind fun f =>
 (Cl b f).bind fun g =>
 c (g) else c (b)))
def J2 (a:(Int × Int)):Ae ((List Aj) × Bool) :=
 (Gw a).bind fun b =>
 (if (!b) = true then some ([],false) else (H4 a.1).bind fun c =>
 (Cl c [44]).bind fun d =>
 (H4 a.2).bind fun e =>
 (Cl d e).bind fun f =>
 some (f,true))
def DH (b:Int):Nat → Int → Ae Int
 | 0,_=>none
 | m + 1,a=>(if (decide ((Ag ((Ag ((Ag (4800 * a)) * 4800)) * a)) < (Ag (1000000 * b)))) = true then (DH b m) ((Ag (a + 1))) else some a)
def Kf (a:(Int × Int)) (b:(Int × Int)):Ae Int :=
 (Ef a b).bind fun c =>
 DH c FU (0)
def G5 (a:(Int × Int)) (b:(Int × Int)):Ae (Int × Bool) :=
 Bk (fun (d:Bool)=>(if d = true then some (0,false) else (Kf a b).bind fun e =>
 some (e,true))) (fun c=>(Gw a).bind fun f =>
 (if (!f) = true then c (true) else (Gw b).bind fun g =>
 c ((!g))))
def EB (a:Aev):Nat → Int → Int → Ae Int
 | 0,_,_=>none
 | m + 1,c,b=>(if (decide (b < (a.length:Int))) = true then (AL a b).bind fun d =>
 (EB a m) ((Ag (c + d.1))) ((Ag (b + 1))) else some c)
def J1 (a:Aev):Ae Int :=
 EB a FU (0) (0)
def G4 (b:Aev):Nat → Int → Int → Int → Ae Int
 | 0,_,_,_=>none
 | m + 1,c,d,e=>(if (decide (e < (b.length:Int))) = true then (AL b e).bind fun a =>
 (if (decide (c < a.1)) = true then (if a.2 = 0 then none else some (Ag (d + (Ag (Int.tdiv (Ag (60000 * c)) a.2))))) else (if a.2 = 0 then none else (G4 b m) ((Ag (c - a.1))) ((Ag (d + (Ag (Int.tdiv (Ag (60000 * a.1)) a.2))))) ((Ag (e + 1))))) else some d)
def Jm (a:Aev) (b:Int):Ae Int :=
 G4 a FU (b) (0) (0)
def Kv (a:Aev) (b:Int):Ae (Int × Bool) :=
 Bk (fun (d:Bool)=>(if d = true then some (0,false) else (Jm a b).bind fun e =>
 some (e,true))) (fun c=>(I6 a).bind fun f =>
 (if (!f) = true then c (true) else (J1 a).bind fun g =>
 (BX b 0 g).bind fun h =>
 c ((!h))))
def Ew (b:Aew) (f:Int) (c:Int):Nat → Int → Ae (Int × Bool)
 | 0,_=>none
 | m + 1,d=>(if (decide (d < (b.length:Int))) = true then (AL b d).bind fun a =>
 Bk (fun (g:Bool)=>(if g = true then some (a.1,true) else (Ew b f c m) ((Ag (d + 1))))) (fun e=>(if (a.2.1 == f) = true then (if (decide (a.2.2.1 ≤ c)) = true then e ((decide (c < a.2.2.2))) else e (false)) else e (false))) else some (0,false))
def IL (b:Aew) (c:Int) (d:Int):Ae (Int × Bool) :=
 Bk (fun (e:Bool)=>(if e = true then some (0,false) else Ew b c d FU (0))) (fun a=>(FW b).bind fun f =>
 (if (!f) = true then a (true) else (BX c 1 9).bind fun g =>
 (if (!g) = true then a (true) else (BX d 0 999).bind fun u64 =>
 a ((!u64)))))
def DR (a:(List Int)) (b:Aey):Nat → Int → Ae Bool
 | 0,_=>none
 | m + 1,c=>(if (decide (c < (a.length:Int))) = true then (AL a c).bind fun d =>
 (BX d 0 (Ag ((b.length:Int) - 1))).bind fun e =>
 (if (!e) = true then some false else (DR a b m) ((Ag (c + 1)))) else (FI b).bind fun f =>
 some f)
def HJ (a:Aey) (b:(List Int)):Ae Bool :=
 DR b a FU (0)
def CS  : Nat → (List Int) → Int → Int → Ae (List Int)
 | 0,_,_,_=>none
 | m + 1,a,b,c=>(if (decide (b < c)) = true then Bk (fun (e:(List Int))=>(CS m) (e) ((Ag (b + 1))) ((Ag (c - 1)))) (fun f=>(AL a c).bind fun d =>
 (AL a b).bind fun g =>
 (AL a b).bind fun h =>
 (AL (BE a b d) c).bind fun i =>
 f ((BE (BE a b d) c g))) else some a)
def Eo (a:(List Int)):Ae (List Int) :=
 CS FU (a) (0) ((Ag ((a.length:Int) - 1)))
def E6 (b:Aey):Nat → Int → (List Int) → Ae (List Int)
 | 0,_,_=>none
 | m + 1,a,c=>(if (decide (0 ≤ a)) = true then (Cl c [a]).bind fun d =>
 (AL b a).bind fun e =>
 (E6 b m) (e.1) (d) else (Eo c).bind fun f =>
 some f)
def La (a:Aey) (b:Int):Ae (List Int) :=
 E6 a FU (b) ([])
def Dl (a:(List Int)) (b:Aey):Nat → (List Int) → Int → Ae (List Int)
 | 0,_,_=>none
 | m + 1,c,d=>(if (decide (d < (a.length:Int))) = true then (AL a d).bind fun e =>
 (AL b e).bind fun f =>
 (AL b e).bind fun g =>
 (AL c f.2.1).bind fun h =>
 (Dl a b m) ((BE c f.2.1 g.2.2)) ((Ag (d + 1))) else some c)
def Fi (a:Aey) (b:Int):Nat → (List Int) → Int → Ae (List Int)
 | 0,_,_=>none
 | m + 1,c,d=>(if (decide (d < 8)) = true then (Cl c [(-1)]).bind fun e =>
 (Fi a b m) (e) ((Ag (d + 1))) else (La a b).bind fun f =>
 Dl f a FU (c) (0))
def JS (a:Aey) (b:Int):Ae (List Int) :=
 Fi a b FU ([]) (0)
def JW (a:Aey) (b:Int):Ae ((List Int) × Bool) :=
 (HJ a [b]).bind fun c =>
 (if (!c) = true then some ([],false) else (JS a b).bind fun d =>
 some (d,true))
def Cw (a:((List Int) × Bool)):Nat → (List (List Aj)) → Int → Ae (List Aj)
 | 0,_,_=>none
 | m + 1,b,c=>(if (decide (c < (a.1.length:Int))) = true then Bk (fun (f:(List (List Aj)))=>(Cw a m) (f) ((Ag (c + 1)))) (fun d=>(AL a.1 c).bind fun e =>
 (if (decide (e < 0)) = true then (Cl b [[45]]).bind fun g =>
 d (g) else (CY e).bind fun h =>
 (Cl b [h]).bind fun i =>
 d (i))) else (I0 b [32]).bind fun j =>
 some j)
def Fx (b:(Aev × Aev × Int × Aev × Aew × Aey)) (c:Int):Ae (List Aj) :=
 (JW b.2.2.2.2.2 c).bind fun a =>
 (if (!a.2) = true then some ([110,111]) else Cw a FU ([]) (0))
def Ca (a:(Aev × Aev × Int × Aev × Aew × Aey)) (c:(List Aj)) (b:(List Int)):Ae (List Aj) :=
 (if (c == [115,117,109]) = true then Wz (fun (l:Aev) (m:Aev) (n:Int) (o:(List Int))=>(H7 (l,m,n,o)).bind fun f =>
 (Fr f.1 f.2).bind fun p =>
 some p) (fun q=>(Gt a.2.1 a.1 a.2.2.1).bind fun d =>
 q (d.1.1) (d.1.2.1) (d.1.2.2.1) (d.1.2.2.2)) else (if (c == [99,108,111,115,101]) = true then (AL b 0).bind fun r =>
 (GL a r).bind fun s =>
 some s else (if (c == [107,105,110,100]) = true then Wz (fun (t:Aev) (u:Aev) (v:Int) (w:(List Int))=>(AL b 0).bind fun x =>
 (Ip (t,u,v,w) x).bind fun g =>
 (Fr g.1 g.2).bind fun y =>
 some y) (fun z=>(ER a.2.1 a.1 a.2.2.1).bind fun e =>
 z (e.1.1) (e.1.2.1) (e.1.2.2.1) (e.1.2.2.2)) else (if (c == [108,101,97,115,116]) = true then (EC a.1).bind fun h =>
 (Fr h.1 h.2).bind fun aa =>
 some aa else (if (c == [116,101,120,116]) = true then (AL b 0).bind fun ab =>
 (if (decide ((a.1.length:Int) ≤ ab)) = true then some ([110,111]) else (AL b 0).bind fun ac =>
 (AL a.1 ac).bind fun ad =>
 (J2 ad).bind fun ae =>
 some ae.1) else (if (c == [115,111,117,110,100]) = true then (AL b 0).bind fun af =>
 (AL b 1).bind fun ag =>
 (if (decide ((a.1.length:Int) ≤ (Fy af ag))) = true then some ([110,111]) else (AL b 0).bind fun ah =>
 (AL a.1 ah).bind fun ai =>
 (AL b 1).bind fun aj =>
 (AL a.1 aj).bind fun ak =>
 (G5 ai ak).bind fun i =>
 (Fr i.1 i.2).bind fun al =>
 some al) else (if (c == [116,105,109,101]) = true then (AL b 0).bind fun am =>
 (Kv a.2.2.2.1 am).bind fun j =>
 (Fr j.1 j.2).bind fun an =>
 some an else (if (c == [119,104,111]) = true then (AL b 0).bind fun ao =>
 (AL b 1).bind fun ap =>
 (IL a.2.2.2.2.1 ao ap).bind fun k =>
 (if (!k.2) = true then some ([110,111,110,101]) else (CY k.1).bind fun aq =>
 some aq) else (AL b 0).bind fun ar =>
 (Fx a ar).bind fun au =>
 some au))))))))
def BT (e:(List (List Aj))) (b:(Aev × Aev × Int × Aev × Aew × Aey)) (a:(List Aj)):Nat → (List Int) → Int → Ae ((List Aj) × (Aev × Aev × Int × Aev × Aew × Aey))
 | 0,_,_=>none
 | m + 1,c,f=>(if (decide (f < (e.length:Int))) = true then (AL e f).bind fun l =>
 (JT l).bind fun g =>
 Bk (fun (n:Bool)=>(if n = true then some ([119,104,97,116],b) else (Cl c [g.1]).bind fun o =>
 (BT e b a m) (o) ((Ag (f + 1))))) (fun i=>(if (!g.2) = true then i (true) else i ((decide (99999 < g.1))))) else (J0 a).bind fun p =>
 (if ((c.length:Int) != p) = true then some ([119,104,97,116],b) else Bk (fun (q:Bool)=>(if q = true then (BJ b a c).bind fun j =>
 some (j.1,j.2) else Bk (fun (r:Bool)=>(if r = true then (CG b a c).bind fun k =>
 some (k.1,k.2) else (Ca b a c).bind fun s =>
 some (s,b))) (fun h=>(if (a == [109,101,97,115,117,114,101]) = true then h ((a == [109,101,97,115,117,114,101])) else (if (a == [99,97,114,114,121]) = true then h ((a == [99,97,114,114,121])) else h ((a == [118,101,114,115,105,111,110]))))))) (fun d=>(if (a == [115,112,111,116]) = true then d ((a == [115,112,111,116])) else (if (a == [112,108,97,99,101]) = true then d ((a == [112,108,97,99,101])) else (if (a == [109,105,114,114,111,114]) = true then d ((a == [109,105,114,114,111,114])) else (if (a == [107,101,101,112]) = true then d ((a == [107,101,101,112])) else d ((a == [99,111,117,110,116,115])))))))))
def Dv (b:(Aev × Aev × Int × Aev × Aew × Aey)) (c:(List Aj)):Ae ((List Aj) × (Aev × Aev × Int × Aev × Aew × Aey)) :=
 (Gb c [32]).bind fun a =>
 (AL a 0).bind fun d =>
 (sl a 1 (a.length:Int)).bind fun e =>
 BT e b d FU ([]) (0)
def Eu (a:((List (List Aj)) × Bool)):Nat → (Aev × Aev × Int × Aev × Aew × Aey) → (List (List Aj)) → Int → Ae ((Bool × (Aev × Aev × Int × Aev × Aew × Aey)) × (List (List Aj)) × Bool)
 | 0,_,_,_=>none
 | m + 1,c,d,b=>(if (decide (b < (a.1.length:Int))) = true then (AL a.1 b).bind fun f =>
 (Dv c f).bind fun e =>
 (Cl d [e.1]).bind fun g =>
 (Eu a m) (e.2) (g) ((Ag (b + 1))) else some ((true,c),d,true))
def IJ (b:(List Aj)):Ae ((Bool × (Aev × Aev × Int × Aev × Aew × Aey)) × (List (List Aj)) × Bool) :=
 (HH b).bind fun a =>
 (if (!a.2) = true then some ((false,([],[],0,[],[],[])),[],false) else (KI ).bind fun c =>
 Eu a FU (c) ([]) (0))
def Ih (b:(List Aj)):Ae (Aev × Bool) :=
 (KY b).bind fun a =>
 (if (!a.2.2) = true then some ([],false) else some (a.1.2.2.2.1,true))
def Hi (b:(List Aj)):Ae (Aev × Bool) :=
 (IJ b).bind fun a =>
 (if a.1.1 = true then (if (!a.2.2) = true then some ([],false) else some (a.1.2.2.2.2.1,true)) else (if (!a.2.2) = true then some ([],false) else none))
def IF (a:(Int × Int)) (b:(Int × Int)):Ae Bool :=
 (if (a.1 != b.1) = true then some false else (if (a.2 != b.2) = true then some false else some true))
def FP (b:Aev) (c:Aev):Nat → Int → Ae Bool
 | 0,_=>none
 | m + 1,a=>(if (decide (a < (b.length:Int))) = true then (AL b a).bind fun d =>
 (AL c a).bind fun e =>
 (IF d e).bind fun f =>
 (if (!f) = true then some false else (FP b c m) ((Ag (a + 1)))) else some true)
def Ij (a:Aev) (b:Aev):Ae Bool :=
 (if ((a.length:Int) != (b.length:Int)) = true then some false else FP a b FU (0))
def D6  : Nat → Aev → Int → Int → Ae (Int × Aev)
 | 0,_,_,_=>none
 | m + 1,b,c,a=>(if (decide (a < (b.length:Int))) = true then (AL b a).bind fun d =>
 (AL (BE b a (c,d.2)) a).bind fun e =>
 (D6 m) ((BE (BE b a (c,d.2)) a (e.1,(Ag (c + 1))))) ((Ag ((Ag (c + 1)) + 1))) ((Ag (a + 1))) else some (c,b))
def IU (a:Aev) (b:Int):Ae (Int × Aev) :=
 D6 FU (a) (b) (0)
def D7 (a:Aev):Nat → Int → Int → Ae Int
 | 0,_,_=>none
 | m + 1,b,c=>(if (decide (c < (a.length:Int))) = true then (AL a c).bind fun d =>
 (if (d.1 != b) = true then some (-1) else (AL a c).bind fun e =>
 (if (e.2 != (Ag (b + 1))) = true then some (-1) else (D7 a m) ((Ag ((Ag (b + 1)) + 1))) ((Ag (c + 1))))) else some b)
def Hw (a:Aev) (b:Int):Ae Int :=
 D7 a FU (b) (0)
def GV (a:(List Aj)):Ae Bool :=
 (if (decide (1048576 < (a.length:Int))) = true then some true else (Ih a).bind fun b =>
 (Hi a).bind fun d =>
 Bk (fun (j:Bool)=>(if j = true then some false else (IU d.1 1).bind fun c =>
 (Hw c.2 1).bind fun e =>
 (if (decide (e < 0)) = true then some false else (if (e != c.1) = true then some false else (Hi a).bind fun f =>
 Bk (fun (k:Bool)=>(if k = true then some false else (Hw c.2 1).bind fun g =>
 (if (decide (g < 0)) = true then some false else (if (g != c.1) = true then some false else some true)))) (fun h=>(Ij f.1 b.1).bind fun l =>
 (if (!l) = true then h (true) else h ((f.2 != b.2)))))))) (fun i=>(Ij d.1 b.1).bind fun m =>
 (if (!m) = true then i (true) else i ((d.2 != b.2)))))
end Go.Proofs.YtellehgihceicaaGreatDoor
