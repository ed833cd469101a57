/-
 THE FUNCTIONS of this seat as plain functions, by program (gen.py).
-/
import Derived.Test.YtellehgihceicaaGreatDoorCore20
import Derived.Test.YtellehgihceicaaGreatDoorLibF
set_option linter.unusedVariables false
set_option linter.unusedSimpArgs false
set_option maxRecDepth 100000
set_option maxHeartbeats 1600000
namespace Go.Proofs.YtellehgihceicaaGreatDoor
open Go
def ME (x y:(Int × Int)):Bool:=(x.1 == y.1) && (x.2 == y.2)
def Ll  : Af (Aev × Aev × Int × Aev × Aew × Aey × (List Int) × (List Int) × Int) :=
 some ([(0,0)],[(0,0)],8,[(4,120)],[],[((-1),0,0)],[],[],0)
def Fc (a:(List Aj)) (e:Int):Nat → (List (List Aj)) → Int → Int → Af (List (List Aj))
 | 0,_,_,_=>none
 | m + 1,c,d,b=>(if (decide (b < (a.length:Int))) = true then Gr (fun (g:(List (List Aj))) (h:Int)=>(Fc a e m) (g) (h) ((Ae (b + 1)))) (fun f=>(AK a b).bind fun i =>
 (if ((UInt8.toNat i:Int) == e) = true then (sl a d b).bind fun j =>
 (Cl c [j]).bind fun k =>
 f (k) ((Ae (b + 1))) else f (c) (d))) else (sl a d (a.length:Int)).bind fun l =>
 (Cl c [l]).bind fun n =>
 some n)
def FO (a:(List Aj)) (b:Int):Af (List (List Aj)) :=
 Fc a b FU ([]) (0) (0)
def JL (a:(List Aj)):Af ((List (List Aj)) × Bool) :=
 Bk (fun (e:Bool)=>(if e = true then some ([],false) else (FO a 10).bind fun c =>
 (sl c 0 (Ae ((c.length:Int) - 1))).bind fun d =>
 (if (decide (40 < (d.length:Int))) = true then some ([],false) else some (d,true)))) (fun b=>(if (decide (2000 < (a.length:Int))) = true then b (true) else (if (a != []) = true then (AK a (Ae ((a.length:Int) - 1))).bind fun f =>
 b (((UInt8.toNat f:Int) != 10)) else b (false))))
def GE (a:(List Aj)):Af Int :=
 Bk (fun (f:Bool)=>(if f = true then some 0 else Bk (fun (g:Bool)=>(if g = true then some 1 else Bk (fun (h:Bool)=>(if h = true then some 2 else Bk (fun (i:Bool)=>(if i = true then some 3 else (if (a == [99,97,114,114,121]) = true then some 4 else some (-1)))) (fun e=>(if (a == [112,108,97,99,101]) = true then e ((a == [112,108,97,99,101])) else e ((a == [118,101,114,115,105,111,110])))))) (fun c=>(if (a == [115,112,111,116]) = true then c ((a == [115,112,111,116])) else (if (a == [115,111,117,110,100]) = true then c ((a == [115,111,117,110,100])) else (if (a == [109,101,97,115,117,114,101]) = true then c ((a == [109,101,97,115,117,114,101])) else c ((a == [119,104,111])))))))) (fun b=>(if (a == [99,111,117,110,116,115]) = true then b ((a == [99,111,117,110,116,115])) else (if (a == [99,108,111,115,101]) = true then b ((a == [99,108,111,115,101])) else (if (a == [107,105,110,100]) = true then b ((a == [107,105,110,100])) else (if (a == [116,101,120,116]) = true then b ((a == [116,101,120,116])) else (if (a == [116,105,109,101]) = true then b ((a == [116,105,109,101])) else b ((a == [115,116,97,116,101])))))))))) (fun d=>(if (a == [109,105,114,114,111,114]) = true then d ((a == [109,105,114,114,111,114])) else (if (a == [107,101,101,112]) = true then d ((a == [107,101,101,112])) else (if (a == [115,117,109]) = true then d ((a == [115,117,109])) else d ((a == [108,101,97,115,116]))))))
def BR (a:Int) (c:Int) (d:Int):Af Bool :=
 Bk (fun (e:Bool)=>some e) (fun b=>(if (decide (c ≤ a)) = true then b ((decide (a ≤ d))) else b (false)))
def FE (a:(List Aj)):Nat → Int → Int → Af Int
 | 0,_,_=>none
 | m + 1,c,b=>(if (decide (b < (a.length:Int))) = true then Bk (fun (e:Bool)=>(if e = true then some (-1) else (AK a b).bind fun f =>
 (FE a m) ((Ae ((Ae (10 * c)) + (Ae (Mx ((UInt8.toNat f:Int) - 48)))))) ((Ae (b + 1))))) (fun d=>(AK a b).bind fun g =>
 (if (decide ((UInt8.toNat g:Int) < 48)) = true then d (true) else (AK a b).bind fun h =>
 d ((decide (57 < (UInt8.toNat h:Int)))))) else some c)
def Ko (a:(List Aj)):Af Int :=
 Bk (fun (c:Bool)=>(if c = true then some (-1) else FE a FU (0) (0))) (fun b=>(BR (a.length:Int) 1 6).bind fun d =>
 (if (!d) = true then b (true) else (AK a 0).bind fun e =>
 (if ((UInt8.toNat e:Int) == 48) = true then b ((decide (1 < (a.length:Int)))) else b (false))))
def Gt (a:Aev):Af Aev :=
 (Cl [] a).bind fun b =>
 some b
def Ia (a:(Int × Int)):Af Bool :=
 Bk (fun (c:Bool)=>some c) (fun b=>(BR a.1 0 1280).bind fun d =>
 (if d = true then (BR a.2 0 672).bind fun e =>
 b (e) else b (false)))
def FF (a:Aev) (c:(Int × Int)) (d:(Int → Af Bool)) (e:Int):Nat → Int → Af Bool
 | 0,_=>none
 | m + 1,b=>(if (decide (b < (a.length:Int))) = true then (AK a b).bind fun f =>
 (if (ME c f) = true then some false else (FF a c d e m) ((Ae (b + 1)))) else d ((Ae (e + 1))))
def Ek (a:Aev):Nat → Int → Af Bool
 | 0,_=>none
 | m + 1,b=>(if (decide (b < (a.length:Int))) = true then (AK a b).bind fun c =>
 (Ia c).bind fun d =>
 (if (!d) = true then some false else (sl a 0 b).bind fun e =>
 FF e c (Ek a m) b FU (0)) else (BR (a.length:Int) 1 12).bind fun f =>
 some f)
def FK (a:Aev):Af Bool :=
 Ek a FU (0)
def EF (a:(Aev × Aev × Int × Aev × Aew × Aey × (List Int) × (List Int) × Int)) (d:Aev) (b:Bool):Af (Bool × (Aev × Aev × Int × Aev × Aew × Aey × (List Int) × (List Int) × Int)) :=
 Bk (fun (e:(Aev × Aev × Int × Aev × Aew × Aey × (List Int) × (List Int) × Int))=>some (b,e)) (fun c=>(if b = true then c ((d,a.2.1,a.2.2.1,a.2.2.2.1,a.2.2.2.2.1,a.2.2.2.2.2.1,a.2.2.2.2.2.2.1,a.2.2.2.2.2.2.2.1,a.2.2.2.2.2.2.2.2)) else c (a)))
def Mq (a:Aev) (c:Int):Af Bool :=
 Bk (fun (d:Bool)=>some d) (fun b=>(FK a).bind fun e =>
 (if e = true then (BR c 0 (Ae ((a.length:Int) - 1))).bind fun f =>
 b (f) else b (false)))
def Hj (a:Aev):Af (Aev × Bool) :=
 (FK a).bind fun b =>
 (if (!b) = true then some ([],false) else some (a,true))
def GH (b:Aev) (a:Int) (d:(Int × Int)):Af (Aev × Bool) :=
 (Mq b a).bind fun e =>
 (if (!e) = true then some ([],false) else (Gt b).bind fun c =>
 (AK c a).bind fun g =>
 (Hj (BC c a d)).bind fun f =>
 some f)
def KK (a:(Int × Int)):Af (Int × Int) :=
 some ((Ae (1280 - a.1)),a.2)
def DM (a:Aev):Nat → Aev → Int → Af (Aev × Bool)
 | 0,_,_=>none
 | m + 1,c,b=>(if (decide (b < (a.length:Int))) = true then (AK a b).bind fun d =>
 (KK d).bind fun e =>
 (Cl c [e]).bind fun f =>
 (DM a m) (f) ((Ae (b + 1))) else some (c,true))
def HH (a:Aev):Af (Aev × Bool) :=
 (FK a).bind fun b =>
 (if (!b) = true then some ([],false) else DM a FU ([]) (0))
def IC (a:(Int × Int)):Af Bool :=
 Bk (fun (c:Bool)=>some c) (fun b=>(BR a.1 1 12).bind fun d =>
 (if d = true then (BR a.2 40 220).bind fun e =>
 b (e) else b (false)))
def FD (a:Aev):Nat → Int → Af Bool
 | 0,_=>none
 | m + 1,b=>(if (decide (b < (a.length:Int))) = true then (AK a b).bind fun c =>
 (IC c).bind fun d =>
 (if (!d) = true then some false else (FD a m) ((Ae (b + 1)))) else (BR (a.length:Int) 1 40).bind fun e =>
 some e)
def Jf (a:Aev):Af Bool :=
 FD a FU (0)
def HV (a:(Int × Int × Int × Int)) (b:(Int × Int × Int × Int)):Af Bool :=
 Bk (fun (d:Bool)=>some d) (fun c=>(if (decide (a.2.2.1 < b.2.2.1)) = true then c (true) else (if (a.2.2.1 == b.2.2.1) = true then c ((decide (a.2.1 < b.2.1))) else c (false))))
def Jy (a:Int):Af Bool :=
 (BR a 1 12).bind fun b =>
 some b
def Jj (a:Int):Af Bool :=
 (BR a 1 9).bind fun b =>
 some b
def EH (c:Aew) (a:(Int × Int × Int × Int)) (f:(Int → Af Bool)) (g:Int):Nat → Int → Af Bool
 | 0,_=>none
 | m + 1,d=>(if (decide (d < (c.length:Int))) = true then (AK c d).bind fun b =>
 Bk (fun (h:Bool)=>(if h = true then some false else (EH c a f g m) ((Ae (d + 1))))) (fun e=>(if (b.2.1 == a.2.1) = true then e ((decide (a.2.2.1 < b.2.2.2))) else (if (b.1 == a.1) = true then e ((decide (a.2.2.1 < b.2.2.2))) else e (false)))) else f ((Ae (g + 1))))
def Du (b:Aew):Nat → Int → Af Bool
 | 0,_=>none
 | m + 1,c=>(if (decide (c < (b.length:Int))) = true then (AK b c).bind fun a =>
 Bk (fun (e:Bool)=>(if e = true then some false else (sl b 0 c).bind fun f =>
 EH f a (Du b m) c FU (0))) (fun d=>(Jy a.1).bind fun g =>
 (if (!g) = true then d (true) else (Jj a.2.1).bind fun h =>
 (if (!h) = true then d (true) else (BR a.2.2.1 0 999).bind fun i =>
 (if (!i) = true then d (true) else (BR a.2.2.2 (Ae (a.2.2.1 + 1)) 1000).bind fun j =>
 (if (!j) = true then d (true) else (if (decide (0 < c)) = true then (AK b (Ae (c - 1))).bind fun k =>
 (HV k a).bind fun l =>
 d ((!l)) else d (false))))))) else some (decide ((b.length:Int) ≤ 40)))
def Jk (a:Aew):Af Bool :=
 Du a FU (0)
def FG (a:Aew) (c:(Int × Int × Int × Int)) (d:(Aew → Af (Aew × Bool))):Nat → Int → Af (Aew × Bool)
 | 0,_=>none
 | m + 1,b=>Bk (fun (f:Bool)=>(if f = true then (FG a c d m) ((Ae (b - 1))) else (sl a 0 b).bind fun u64 =>
 (sl a b (a.length:Int)).bind fun g =>
 (Cl [] u64).bind fun h =>
 (Cl h [c]).bind fun i =>
 (Cl i g).bind fun j =>
 d (j))) (fun e=>(if (decide (0 < b)) = true then (AK a (Ae (b - 1))).bind fun k =>
 (HV c k).bind fun l =>
 e (l) else e (false)))
def EG (b:Aew):Nat → Aew → Int → Af (Aew × Bool)
 | 0,_,_=>none
 | m + 1,a,c=>(if (decide (c < (b.length:Int))) = true then Bk (fun (d:Aew)=>(EG b m) (d) ((Ae (c + 1)))) (fun e=>(AK b c).bind fun f =>
 FG a f e FU ((a.length:Int))) else (Jk a).bind fun g =>
 (if (!g) = true then some ([],false) else some (a,true)))
def Ji (a:Aew):Af (Aew × Bool) :=
 EG a FU ([]) (0)
def FB (d:Aey):Nat → Int → Af Bool
 | 0,_=>none
 | m + 1,c=>(if (decide (c < (d.length:Int))) = true then (AK d c).bind fun a =>
 Bk (fun (e:Bool)=>(if e = true then some false else (FB d m) ((Ae (c + 1))))) (fun b=>(BR a.1 0 (Ae (c - 1))).bind fun f =>
 (if (!f) = true then (if (decide (0 < c)) = true then b (true) else (if (a.1 != (-1)) = true then b (true) else (BR a.2.1 0 7).bind fun g =>
 (if (!g) = true then b (true) else (BR a.2.2 0 999).bind fun h =>
 b ((!h))))) else (BR a.2.1 0 7).bind fun i =>
 (if (!i) = true then b (true) else (BR a.2.2 0 999).bind fun j =>
 b ((!j))))) else (BR (d.length:Int) 1 60).bind fun k =>
 some k)
def HZ (a:Aey):Af Bool :=
 FB a FU (0)
def Ih (a:Aey) (d:(Int × Int × Int)):Af (Aey × Bool) :=
 Bk (fun (b:Aey)=>Bk (fun (e:Bool)=>(if e = true then some ([],false) else some (b,true))) (fun c=>(HZ a).bind fun f =>
 (if (!f) = true then c (true) else (HZ b).bind fun g =>
 c ((!g))))) (fun h=>(Cl [] a).bind fun i =>
 (Cl i [d]).bind fun j =>
 h (j))
def Cz (a:(Aev × Aev × Int × Aev × Aew × Aey × (List Int) × (List Int) × Int)) (f:(List Aj)) (b:(List Int)):Af (Bool × (Aev × Aev × Int × Aev × Aew × Aey × (List Int) × (List Int) × Int)) :=
 Gr (fun (s:(Aev × Aev × Int × Aev × Aew × Aey × (List Int) × (List Int) × Int)) (t:Bool)=>some (t,s)) (fun c=>(if (f == [115,112,111,116]) = true then (AK b 0).bind fun u =>
 (AK b 1).bind fun v =>
 (Gt a.1).bind fun w =>
 (Cl w [(u,v)]).bind fun x =>
 (Hj x).bind fun k =>
 (EF a k.1 k.2).bind fun l =>
 c (l.2) (l.1) else (if (f == [112,108,97,99,101]) = true then (AK b 0).bind fun y =>
 (AK b 1).bind fun z =>
 (AK b 2).bind fun aa =>
 (GH a.1 y (z,aa)).bind fun m =>
 (EF a m.1 m.2).bind fun n =>
 c (n.2) (n.1) else (if (f == [109,105,114,114,111,114]) = true then (HH a.1).bind fun o =>
 (EF a o.1 o.2).bind fun p =>
 c (p.2) (p.1) else (if (f == [107,101,101,112]) = true then (Gt a.1).bind fun ab =>
 c ((a.1,ab,a.2.2.1,a.2.2.2.1,a.2.2.2.2.1,a.2.2.2.2.2.1,a.2.2.2.2.2.2.1,a.2.2.2.2.2.2.2.1,a.2.2.2.2.2.2.2.2)) (true) else (if (f == [99,111,117,110,116,115]) = true then (AK b 0).bind fun ac =>
 (BR ac 1 64).bind fun h =>
 (if h = true then (AK b 0).bind fun ad =>
 c ((a.1,a.2.1,ad,a.2.2.2.1,a.2.2.2.2.1,a.2.2.2.2.2.1,a.2.2.2.2.2.2.1,a.2.2.2.2.2.2.2.1,a.2.2.2.2.2.2.2.2)) (h) else c (a) (h)) else (if (f == [109,101,97,115,117,114,101]) = true then Gr (fun (d:(Aev × Aev × Int × Aev × Aew × Aey × (List Int) × (List Int) × Int)) (q:Aev)=>(Jf q).bind fun i =>
 (if i = true then c ((d.1,d.2.1,d.2.2.1,q,d.2.2.2.2.1,d.2.2.2.2.2.1,d.2.2.2.2.2.2.1,d.2.2.2.2.2.2.2.1,d.2.2.2.2.2.2.2.2)) (i) else c (d) (i))) (fun ae=>(AK b 0).bind fun af =>
 (AK b 1).bind fun ag =>
 (Cl [] a.2.2.2.1).bind fun ah =>
 (Cl ah [(af,ag)]).bind fun ai =>
 ae (a) (ai)) else (if (f == [99,97,114,114,121]) = true then W0 (fun (e:(Aev × Aev × Int × Aev × Aew × Aey × (List Int) × (List Int) × Int)) (aj:Aew) (j:Bool)=>(if j = true then c ((e.1,e.2.1,e.2.2.1,e.2.2.2.1,aj,e.2.2.2.2.2.1,e.2.2.2.2.2.2.1,e.2.2.2.2.2.2.2.1,e.2.2.2.2.2.2.2.2)) (j) else c (e) (j))) (fun ak=>(AK b 0).bind fun al =>
 (AK b 1).bind fun am =>
 (AK b 2).bind fun an =>
 (AK b 3).bind fun ao =>
 (Cl [] a.2.2.2.2.1).bind fun ap =>
 (Cl ap [(al,am,an,ao)]).bind fun aq =>
 (Ji aq).bind fun r =>
 ak (a) (r.1) (r.2)) else (if (f == [118,101,114,115,105,111,110]) = true then (AK b 0).bind fun ar =>
 (AK b 1).bind fun au =>
 (AK b 2).bind fun av =>
 (Ih a.2.2.2.2.2.1 (ar,au,av)).bind fun g =>
 (if g.2 = true then c ((a.1,a.2.1,a.2.2.1,a.2.2.2.1,a.2.2.2.2.1,g.1,a.2.2.2.2.2.2.1,a.2.2.2.2.2.2.2.1,a.2.2.2.2.2.2.2.2)) (g.2) else c (a) (g.2)) else c (a) (true))))))))))
def Jg (a:Bool):Af (List Aj) :=
 (if (!a) = true then some ([110,111]) else some ([111,107]))
def Jh (b:Aev) (c:Aev):Af Bool :=
 Bk (fun (d:Bool)=>some d) (fun a=>(FK b).bind fun e =>
 (if e = true then (FK c).bind fun f =>
 (if f = true then a (((b.length:Int) == (c.length:Int))) else a (false)) else a (false)))
def I3 (b:Aev) (c:Aev) (d:Int):Af Bool :=
 Bk (fun (e:Bool)=>some e) (fun a=>(Jh b c).bind fun f =>
 (if f = true then (BR d 1 64).bind fun g =>
 a (g) else a (false)))
def GW (a:(Int × Int)) (b:(Int × Int)):Af Int :=
 some (Ae ((Ae ((Ae (a.1 - b.1)) * (Ae (a.1 - b.1)))) + (Ae ((Ae (a.2 - b.2)) * (Ae (a.2 - b.2))))))
def Fh (a:Aev) (c:(Int × Int)) (d:Ae0) (e:(Ae0 → Int → Af Ae0)) (f:Int):Nat → (List Int) → Int → Af Ae0
 | 0,_,_=>none
 | m + 1,g,b=>(if (decide (b < (a.length:Int))) = true then (AK a b).bind fun h =>
 (GW c h).bind fun u64 =>
 (Cl g [u64]).bind fun i =>
 (Fh a c d e f m) (i) ((Ae (b + 1))) else (Cl d [g]).bind fun j =>
 e (j) ((Ae (f + 1))))
def Ey (a:Aev) (c:Aev):Nat → Ae0 → Int → Af Ae0
 | 0,_,_=>none
 | m + 1,d,b=>(if (decide (b < (a.length:Int))) = true then (AK a b).bind fun e =>
 Fh c e d (Ey a c m) b FU ([]) (0) else some d)
def JO (a:Aev) (b:Aev):Af Ae0 :=
 Ey a b FU ([]) (0)
def EQ (a:Int) (b:Int):Af Int :=
 (if (decide (a < b)) = true then some a else some b)
def D0 (d:(List Int)) (a:Int) (e:((List Int) → Int → Af (List Int))):Nat → (List Int) → Int → Af (List Int)
 | 0,_,_=>none
 | m + 1,b,c=>(if (decide (c < (d.length:Int))) = true then Bk (fun (g:(List Int))=>(D0 d a e m) (g) ((Ae (c + 1)))) (fun f=>(AK d c).bind fun h =>
 (if (decide (0 ≤ (Bh c))) = true then (if ((B3 .i64 (Br .i64 a (Bh c)) 1) == 1) = true then (AK b a).bind fun i =>
 (AK b (Si .i64 a (KD .i64 1 (Bh c)))).bind fun j =>
 (EQ i (Ae (h + j))).bind fun k =>
 (AK b a).bind fun l =>
 f ((BC b a k)) else f (b)) else none)) else e (b) ((Ae (a + 1))))
def Ex (b:Ae0) (a:Int) (d:(List Int)) (e:((List Int) → Int → Af (List Int))):Nat → Int → Int → Af (List Int)
 | 0,_,_=>none
 | m + 1,f,c=>(if (decide (c < (b.length:Int))) = true then (if (decide (0 ≤ (Bh c))) = true then (Ex b a d e m) ((Ae (f + (B3 .i64 (Br .i64 a (Bh c)) 1)))) ((Ae (c + 1))) else none) else (AK d a).bind fun h =>
 (AK b (Ae ((b.length:Int) - f))).bind fun g =>
 D0 g a e FU ((BC d a 1000000000)) (0))
def EY (a:Ae0):Nat → (List Int) → Int → Af (List Int)
 | 0,_,_=>none
 | m + 1,b,c=>(if (decide (c < (KD .i64 1 (Bh (a.length:Int))))) = true then Ex a c b (EY a m) FU (0) (0) else some b)
def JH (a:Ae0):Af (List Int) :=
 (if (decide (0 ≤ (Bh (a.length:Int)))) = true then (RY (KD .i64 1 (Bh (a.length:Int))) 0).bind fun b =>
 EY a FU (b) (1) else none)
def EZ (d:(List Int)) (b:Int) (e:(List Int)) (g:(List Int)) (h:(Int → (List Int) → Int → Af Ae1)) (i:Int):Nat → Int → Int → Af Ae1
 | 0,_,_=>none
 | m + 1,c,a=>(if (decide (a < (d.length:Int))) = true then Bk (fun (k:Int)=>(EZ d b e g h i m) (k) ((Ae (a + 1)))) (fun j=>(AK d a).bind fun l =>
 Bk (fun (n:Bool)=>(if n = true then j (a) else j (c))) (fun f=>(if (decide (c < 0)) = true then (if (decide (0 ≤ (Bh a))) = true then (if ((B3 .i64 (Br .i64 b (Bh a)) 1) == 1) = true then (AK e b).bind fun o =>
 (AK e (Si .i64 b (KD .i64 1 (Bh a)))).bind fun p =>
 f (((Ae (l + p)) == o)) else f (false)) else none) else f (false)))) else (Cl g [c]).bind fun q =>
 (if (decide (0 ≤ (Bh c))) = true then h ((Si .i64 b (KD .i64 1 (Bh c)))) (q) ((Ae (i + 1))) else none))
def DV (b:Ae0) (a:(List Int)):Nat → Int → (List Int) → Int → Af Ae1
 | 0,_,_,_=>none
 | m + 1,e,d,c=>(if (decide (c < (b.length:Int))) = true then (AK b c).bind fun f =>
 EZ f e a d (DV b a m) c FU ((-1)) (0) else (AK a (Ae ((a.length:Int) - 1))).bind fun g =>
 some (d,g))
def JI (a:Ae0):Af Ae1 :=
 (JH a).bind fun b =>
 DV a b FU ((Ae ((b.length:Int) - 1))) ([]) (0)
def JJ (a:(List Int)):Af (List Int) :=
 (Cl [] a).bind fun b =>
 some b
def Ib (a:Aev) (b:Aev) (c:Int) (d:(List Int)):Af (Aev × Aev × Int × (List Int)) :=
 (Gt a).bind fun u8 =>
 (Gt b).bind fun e =>
 (JJ d).bind fun f =>
 some (u8,e,c,f)
def Gv (a:Aev) (b:Aev) (c:Int):Af ((Aev × Aev × Int × (List Int)) × Bool) :=
 (I3 a b c).bind fun d =>
 (if (!d) = true then some (([],[],0,[]),false) else (JO a b).bind fun e =>
 (JI e).bind fun f =>
 (Ib a b c f.1).bind fun g =>
 some (g,true))
def Ge (a:(List Int)) (c:Int):Nat → Int → Af Bool
 | 0,_=>none
 | m + 1,b=>(if (decide (b < (a.length:Int))) = true then (AK a b).bind fun d =>
 (if (d == c) = true then some true else (Ge a c m) ((Ae (b + 1)))) else some false)
def La (a:(List Int)) (b:Int):Af Bool :=
 Ge a b FU (0)
def EA (a:(List Int)) (c:Int):Nat → Int → Af Bool
 | 0,_=>none
 | m + 1,b=>(if (decide (b < (a.length:Int))) = true then (AK a b).bind fun d =>
 Bk (fun (f:Bool)=>(if f = true then some false else (EA a c m) ((Ae (b + 1))))) (fun e=>(BR d 0 (Ae (c - 1))).bind fun g =>
 (if (!g) = true then e (true) else (sl a 0 b).bind fun h =>
 (La h d).bind fun i =>
 e (i))) else some ((a.length:Int) == c))
def Jx (a:(List Int)) (b:Int):Af Bool :=
 EA a b FU (0)
def Ic (a:(Aev × Aev × Int × (List Int))):Af Bool :=
 Bk (fun (c:Bool)=>some c) (fun b=>(Jh a.1 a.2.1).bind fun d =>
 (if d = true then (BR a.2.2.1 1 64).bind fun e =>
 (if e = true then (Jx a.2.2.2 (a.1.length:Int)).bind fun f =>
 b (f) else b (false)) else b (false)))
def Fg (a:(Aev × Aev × Int × (List Int))):Nat → (List Aex) → Int → Af (List Aex)
 | 0,_,_=>none
 | m + 1,c,b=>(if (decide (b < (a.2.2.2.length:Int))) = true then (AK a.2.2.2 b).bind fun d =>
 (AK a.1 b).bind fun e =>
 (AK a.2.1 d).bind fun f =>
 (Cl c [(e,f,a.2.2.1)]).bind fun g =>
 (Fg a m) (g) ((Ae (b + 1))) else some c)
def GG (a:(Aev × Aev × Int × (List Int))):Af (List Aex) :=
 Fg a FU ([]) (0)
def Gg (a:(List Aex)):Nat → Int → Int → Af Int
 | 0,_,_=>none
 | m + 1,c,b=>(if (decide (b < (a.length:Int))) = true then (AK a b).bind fun d =>
 (GW d.1 d.2.1).bind fun e =>
 (Gg a m) ((Ae (c + e))) ((Ae (b + 1))) else some c)
def Lc (a:(Aev × Aev × Int × (List Int))):Af Int :=
 (GG a).bind fun b =>
 Gg b FU (0) (0)
def H3 (a:(Aev × Aev × Int × (List Int))):Af (Int × Bool) :=
 (Ic a).bind fun b =>
 (if (!b) = true then some (0,false) else (Lc a).bind fun c =>
 some (c,true))
def FP:Nat → Int → Af (List Aj)
 | 0,_=>none
 | m + 1,a=>(if (decide (a < 10)) = true then some (KB [(Mx (Ae (48 + a)))]) else Bk (fun (b:(List Aj))=>some b) (fun c=>(FP m (Ae (Int.tdiv a 10))).bind fun d =>
 (Cl d (KB [(Mx (Ae (48 + (Int.tmod a 10))))])).bind fun e =>
 c (e)))
def Dd (a:Int):Af (List Aj) :=
 FP FU a
def Mo (a:Int):Af (List Aj) :=
 (if (decide (a < 0)) = true then (Dd (Ae (0 - a))).bind fun b =>
 (Cl [45] b).bind fun c =>
 some c else (Dd a).bind fun d =>
 some d)
def Fq (a:Int) (b:Bool):Af (List Aj) :=
 (if (!b) = true then some ([110,111]) else (Mo a).bind fun c =>
 some c)
def Df (a:Aev) (c:Aev) (d:Int):Nat → (List Int) → Int → Af ((Aev × Aev × Int × (List Int)) × Bool)
 | 0,_,_=>none
 | m + 1,e,b=>(if (decide (b < (a.length:Int))) = true then (Cl e [b]).bind fun f =>
 (Df a c d m) (f) ((Ae (b + 1))) else (Ib a c d e).bind fun g =>
 some (g,true))
def Gu (a:Aev) (b:Aev) (c:Int):Af ((Aev × Aev × Int × (List Int)) × Bool) :=
 (I3 a b c).bind fun d =>
 (if (!d) = true then some (([],[],0,[]),false) else Df a b c FU ([]) (0))
def ED (a:(Aev × Aev × Int × Aev × Aew × Aey × (List Int) × (List Int) × Int)):Af ((Aev × Aev × Int × (List Int)) × Bool) :=
 (Gu a.2.1 a.1 a.2.2.1).bind fun b =>
 some b
def Hk (a:Int):Af Bool :=
 (BR a 0 80).bind fun b =>
 some b
def Lm (b:(Aev × Aev × Int × (List Int))) (c:Int):Af Bool :=
 Bk (fun (d:Bool)=>some d) (fun a=>(Ic b).bind fun e =>
 (if e = true then (Hk c).bind fun f =>
 a (f) else a (false)))
def Ks (a:Aex) (b:Aex):Af (Int × Int × Int × Int) :=
 some ((Ae (a.1.1 - b.1.1)),(Ae (a.1.2 - b.1.2)),(Ae (a.2.1.1 - b.2.1.1)),(Ae (a.2.1.2 - b.2.1.2)))
def Lo (c:Aex) (d:Aex):Af (Int × Int) :=
 (Ks c d).bind fun a =>
 Bk (fun (e:Bool)=>(if e = true then some (0,0) else some ((Ae (0 - (Ae ((Ae (a.1 * (Ae (a.2.2.1 - a.1)))) + (Ae (a.2.1 * (Ae (a.2.2.2 - a.2.1)))))))),(Ae ((Ae ((Ae (a.2.2.1 - a.1)) * (Ae (a.2.2.1 - a.1)))) + (Ae ((Ae (a.2.2.2 - a.2.1)) * (Ae (a.2.2.2 - a.2.1))))))))) (fun b=>(if (decide ((Ae (0 - (Ae ((Ae (a.1 * (Ae (a.2.2.1 - a.1)))) + (Ae (a.2.1 * (Ae (a.2.2.2 - a.2.1)))))))) ≤ 0)) = true then b (true) else b ((decide ((Ae ((Ae ((Ae (a.2.2.1 - a.1)) * (Ae (a.2.2.1 - a.1)))) + (Ae ((Ae (a.2.2.2 - a.2.1)) * (Ae (a.2.2.2 - a.2.1)))))) ≤ (Ae (0 - (Ae ((Ae (a.1 * (Ae (a.2.2.1 - a.1)))) + (Ae (a.2.1 * (Ae (a.2.2.2 - a.2.1)))))))))))))
def Hq (a:Int) (b:Int):Af Int :=
 (if (decide (b < a)) = true then some a else some b)
def Mp (a:Int):Af Int :=
 (Hq a (Ae (0 - a))).bind fun b =>
 some b
def G5 (c:Int) (d:Int):Nat → Int → Int → Af (Int × Int)
 | 0,_,_=>none
 | m + 1,a,b=>(if (decide (0 < b)) = true then (if b = 0 then none else (G5 c d m) (b) ((Int.tmod a b))) else (if a = 0 then none else (if a = 0 then none else some ((Ae (Int.tdiv c a)),(Ae (Int.tdiv d a))))))
def Je (a:Int) (b:Int):Af (Int × Int) :=
 (Mp a).bind fun c =>
 G5 a b FU (c) (b)
def JP (b:Aex) (c:Aex):Af (Int × Int) :=
 (Ks b c).bind fun a =>
 (Lo b c).bind fun d =>
 (if (decide (0 < d.2)) = true then (Je (Ae ((Ae ((Ae (a.1 * a.2.2.2)) - (Ae (a.2.1 * a.2.2.1)))) * (Ae ((Ae (a.1 * a.2.2.2)) - (Ae (a.2.1 * a.2.2.1)))))) d.2).bind fun e =>
 some e else (EQ (Ae ((Ae (a.1 * a.1)) + (Ae (a.2.1 * a.2.1)))) (Ae ((Ae (a.2.2.1 * a.2.2.1)) + (Ae (a.2.2.2 * a.2.2.2))))).bind fun f =>
 some (f,1))
def Kq (c:Aex) (d:Aex) (a:Int):Af Bool :=
 (JP c d).bind fun b =>
 some (decide ((Ae ((Ae (a * a)) * b.2)) ≤ b.1))
def Fe (u8:(List Aex)) (d:Aex) (e:Int) (b:Int) (f:(Ae0 → Int → Af Ae0)):Nat → Ae0 → Int → Af Ae0
 | 0,_,_=>none
 | m + 1,c,a=>(if (decide (a < (u8.length:Int))) = true then Bk (fun (h:Ae0)=>(Fe u8 d e b f m) (h) ((Ae (a + 1)))) (fun g=>(AK u8 a).bind fun i =>
 (Kq d i e).bind fun j =>
 (if (!j) = true then (Cl c [[b,a]]).bind fun k =>
 g (k) else g (c))) else f (c) ((Ae (b + 1))))
def Ff (u8:(List Aex)) (b:Int):Nat → Ae0 → Int → Af Ae0
 | 0,_,_=>none
 | m + 1,c,a=>(if (decide (a < (u8.length:Int))) = true then (AK u8 a).bind fun d =>
 Fe u8 d b a (Ff u8 b m) FU (c) ((Ae (a + 1))) else some c)
def JN (a:(Aev × Aev × Int × (List Int))) (b:Int):Af Ae0 :=
 (GG a).bind fun u8 =>
 Ff u8 b FU ([]) (0)
def GY (a:(Aev × Aev × Int × (List Int))) (b:Int):Af (Ae0 × Bool) :=
 (Lm a b).bind fun c =>
 (if (!c) = true then some ([],false) else (JN a b).bind fun d =>
 some (d,true))
def CR (c:(Ae0 × Bool)):Nat → (List Aj) → Int → Af (List Aj)
 | 0,_,_=>none
 | m + 1,a,b=>(if (decide (b < (c.1.length:Int))) = true then (AK c.1 b).bind fun d =>
 Bk (fun (f:(List Aj))=>(AK d 0).bind fun g =>
 (AK d 1).bind fun h =>
 (Dd g).bind fun i =>
 (Cl i [45]).bind fun j =>
 (Dd h).bind fun k =>
 (Cl j k).bind fun l =>
 (Cl f l).bind fun n =>
 (CR c m) (n) ((Ae (b + 1)))) (fun e=>(if (decide (0 < b)) = true then (Cl a [32]).bind fun o =>
 e (o) else e (a))) else (if (a == []) = true then some ([110,111,110,101]) else some a))
def Ht (d:(Aev × Aev × Int × Aev × Aew × Aey × (List Int) × (List Int) × Int)) (e:Int):Af (List Aj) :=
 (ED d).bind fun a =>
 (GY a.1 e).bind fun b =>
 Bk (fun (f:Bool)=>(if f = true then some ([110,111]) else CR b FU ([]) (0))) (fun c=>(if (!a.2) = true then c (true) else c ((!b.2))))
def LA (a:(Aev × Aev × Int × (List Int))):Af Bool :=
 Bk (fun (c:Bool)=>some c) (fun b=>(Ic a).bind fun d =>
 (if d = true then (if (decide (a.2.2.1 ≤ 16)) = true then b ((decide ((a.1.length:Int) ≤ 6))) else b (false)) else b (false)))
def L5 (a:Aex) (b:Int):Af (Int × Int) :=
 some ((Ae ((Ae (a.1.1 * a.2.2)) + (Ae ((Ae (a.2.1.1 - a.1.1)) * b)))),(Ae ((Ae (a.1.2 * a.2.2)) + (Ae ((Ae (a.2.1.2 - a.1.2)) * b)))))
def Iv (a:Aex) (b:Int) (c:Int):Af (Int × Int) :=
 (EQ a.2.2 (Ae (c - b))).bind fun d =>
 (Hq 0 d).bind fun e =>
 (L5 a e).bind fun f =>
 some f
def Kn (a:Int) (b:Int) (c:Int) (d:Int):Af (Int × Int) :=
 Bk (fun (f:Bool)=>(if f = true then some ((Ae ((Ae ((Ae (a * d)) - (Ae (b * c)))) * (Ae ((Ae (a * d)) - (Ae (b * c)))))),(Ae ((Ae ((Ae (c - a)) * (Ae (c - a)))) + (Ae ((Ae (d - b)) * (Ae (d - b))))))) else (EQ (Ae ((Ae (a * a)) + (Ae (b * b)))) (Ae ((Ae (c * c)) + (Ae (d * d))))).bind fun g =>
 some (g,1))) (fun e=>(if (decide (0 < (Ae (0 - (Ae ((Ae (a * (Ae (c - a)))) + (Ae (b * (Ae (d - b)))))))))) = true then e ((decide ((Ae (0 - (Ae ((Ae (a * (Ae (c - a)))) + (Ae (b * (Ae (d - b)))))))) < (Ae ((Ae ((Ae (c - a)) * (Ae (c - a)))) + (Ae ((Ae (d - b)) * (Ae (d - b))))))))) else e (false)))
def Kr (c:Int) (a:Int) (d:Int) (b:Int):Af Bool :=
 (if a = 0 then none else (if b = 0 then none else (if ((Ae (Int.tdiv c a)) != (Ae (Int.tdiv d b))) = true then (if a = 0 then none else (if b = 0 then none else some (decide ((Ae (Int.tdiv c a)) < (Ae (Int.tdiv d b)))))) else (if a = 0 then none else (if b = 0 then none else some (decide ((Ae ((Int.tmod c a) * b)) < (Ae ((Int.tmod d b) * a)))))))))
def EV (c:Int) (d:Int) (a:Aex) (g:Aex):Nat → Int → Int → Int → Af (Int × Int)
 | 0,_,_,_=>none
 | m + 1,e,h,b=>(Hq c d).bind fun p =>
 (if (decide (b < (Ae (a.2.2 + p)))) = true then Gr (fun (q:Int) (r:Int)=>(EV c d a g m) (q) (r) ((Ae (b + 1)))) (fun i=>(Iv a c b).bind fun j =>
 (Iv g d b).bind fun k =>
 (Iv a c (Ae (b + 1))).bind fun l =>
 (Iv g d (Ae (b + 1))).bind fun n =>
 (Kn (Ae (j.1 - k.1)) (Ae (j.2 - k.2)) (Ae (l.1 - n.1)) (Ae (l.2 - n.2))).bind fun f =>
 Bk (fun (s:Bool)=>(if s = true then i (f.1) (f.2) else i (e) (h))) (fun o=>(if (decide (e < 0)) = true then o (true) else (Kr f.1 f.2 e h).bind fun t =>
 o (t)))) else (Je e (Ae ((Ae (h * a.2.2)) * a.2.2))).bind fun u =>
 some u)
def I1 (a:Aex) (b:Aex) (c:Int) (d:Int):Af (Int × Int) :=
 EV c d a b FU ((-1)) (1) (0)
def Jd (c:Aex) (d:Aex) (e:Int) (f:Int) (b:Int):Af Bool :=
 (I1 c d e f).bind fun a =>
 (if a.2 = 0 then none else some (decide ((Ae (b * b)) ≤ (Ae (Int.tdiv a.1 a.2)))))
def EW (u8:(List Aex)) (c:(List Int)) (b:Int) (e:Aex) (f:Int) (g:(Ae0 → Int → Af Ae0)):Nat → Ae0 → Int → Af Ae0
 | 0,_,_=>none
 | m + 1,d,a=>(if (decide (a < (u8.length:Int))) = true then Bk (fun (i:Ae0)=>(EW u8 c b e f g m) (i) ((Ae (a + 1)))) (fun h=>(AK u8 a).bind fun j =>
 (AK c b).bind fun k =>
 (AK c a).bind fun l =>
 (Jd e j k l f).bind fun n =>
 (if (!n) = true then (Cl d [[b,a]]).bind fun o =>
 h (o) else h (d))) else g (d) ((Ae (b + 1))))
def EX (u8:(List Aex)) (b:(List Int)) (c:Int):Nat → Ae0 → Int → Af Ae0
 | 0,_,_=>none
 | m + 1,d,a=>(if (decide (a < (u8.length:Int))) = true then (AK u8 a).bind fun e =>
 EW u8 b a e c (EX u8 b c m) FU (d) ((Ae (a + 1))) else some d)
def I2 (a:(Aev × Aev × Int × (List Int))) (b:(List Int)) (c:Int):Af Ae0 :=
 (GG a).bind fun u8 =>
 EX u8 b c FU ([]) (0)
def Kp (a:(Aev × Aev × Int × (List Int))) (c:Int) (d:Int):Af (Aev × Aev × Int × (List Int)) :=
 (Ib a.1 a.2.1 a.2.2.1 a.2.2.2).bind fun b =>
 (AK a.2.2.2 d).bind fun e =>
 (AK b.2.2.2 c).bind fun g =>
 (AK a.2.2.2 c).bind fun f =>
 (AK (BC b.2.2.2 c e) d).bind fun h =>
 some (b.1,b.2.1,b.2.2.1,(BC (BC b.2.2.2 c e) d f))
def FC (c:(Aev × Aev × Int × (List Int))) (a:Int) (u8:(List Int)) (d:Int) (e:(Int → Af (Int × Int))):Nat → Int → Af (Int × Int)
 | 0,_=>none
 | m + 1,b=>(if (decide (b < (c.1.length:Int))) = true then (Kp c a b).bind fun f =>
 (I2 f u8 d).bind fun g =>
 (if ((g.length:Int) == 0) = true then some (a,b) else (FC c a u8 d e m) ((Ae (b + 1)))) else e ((Ae (a + 1))))
def Ej (a:(Aev × Aev × Int × (List Int))) (u8:(List Int)) (c:Int):Nat → Int → Af (Int × Int)
 | 0,_=>none
 | m + 1,b=>(if (decide (b < (a.1.length:Int))) = true then FC a b u8 c (Ej a u8 c m) FU ((Ae (b + 1))) else some ((-1),(-1)))
def Km (a:(Aev × Aev × Int × (List Int))) (b:Int):Af (Int × Int) :=
 (RY (a.1.length:Int) 0).bind fun u8 =>
 Ej a u8 b FU (0)
def GD (e:((List Aex) × Int × (List Int))) (a:Int) (b:Int) (c:Int) (d:Int):Af (Bool × ((List Aex) × Int × (List Int))) :=
 Bk (fun (g:((List Aex) × Int × (List Int)))=>(if (decide (0 ≤ a) && decide (a < 6)) = true then (if (decide (0 ≤ b) && decide (b < 6)) = true then (if (decide (0 ≤ c) && decide (c < 5)) = true then (if (decide (0 ≤ d) && decide (d < 5)) = true then (g.2.2[a.toNat * 150 + b.toNat * 25 + c.toNat * 5 + d.toNat * 1]?).bind fun j =>
 some ((j == 1),g) else none) else none) else none) else none)) (fun h=>(if (decide (0 ≤ a) && decide (a < 6)) = true then (if (decide (0 ≤ b) && decide (b < 6)) = true then (if (decide (0 ≤ c) && decide (c < 5)) = true then (if (decide (0 ≤ d) && decide (d < 5)) = true then (e.2.2[a.toNat * 150 + b.toNat * 25 + c.toNat * 5 + d.toNat * 1]?).bind fun k =>
 (if (k == 0) = true then Gr (fun (f:((List Aex) × Int × (List Int))) (l:Int)=>(NR f.2.2 (a.toNat * 150 + b.toNat * 25 + c.toNat * 5 + d.toNat * 1) l).bind fun m =>
 h ((f.1,f.2.1,m))) (fun i=>(AK e.1 a).bind fun n =>
 (AK e.1 b).bind fun o =>
 (Jd n o c d e.2.1).bind fun p =>
 (if p = true then i (e) (1) else i (e) (2))) else h (e)) else none) else none) else none) else none))
def CN (a:(List Int)) (b:Int) (f:(((List Aex) × Int × (List Int)) → Af ((List Int) × ((List Aex) × Int × (List Int))))) (rec:(((List Aex) × Int × (List Int)) → (List Int) → Int → Af ((List Int) × ((List Aex) × Int × (List Int))))) (g:Int):Nat → ((List Aex) × Int × (List Int)) → Bool → Int → Af ((List Int) × ((List Aex) × Int × (List Int)))
 | 0,_,_,_=>none
 | m + 1,c,h,d=>(if (decide (d < (a.length:Int))) = true then Gr (fun (k:((List Aex) × Int × (List Int))) (l:Bool)=>(CN a b f rec g m) (k) (l) ((Ae (d + 1)))) (fun i=>(AK a d).bind fun n =>
 (if h = true then (GD c d (a.length:Int) n b).bind fun j =>
 i (j.2) (j.1) else i (c) (false))) else (if (!h) = true then f (c) else (JJ a).bind fun o =>
 (Cl o [b]).bind fun p =>
 (rec c p (Ae (g - b))).bind fun e =>
 (if (decide (0 < (e.1.length:Int))) = true then some (e.1,e.2) else f (e.2))))
def CP (a:Int) (c:(List Int)) (rec:(((List Aex) × Int × (List Int)) → (List Int) → Int → Af ((List Int) × ((List Aex) × Int × (List Int))))):Nat → ((List Aex) × Int × (List Int)) → Int → Af ((List Int) × ((List Aex) × Int × (List Int)))
 | 0,_,_=>none
 | m + 1,d,b=>(EQ a 4).bind fun e =>
 (if (decide (b ≤ e)) = true then Bk (fun (f:((List Aex) × Int × (List Int)))=>(CP a c rec m) (f) ((Ae (b + 1)))) (fun g=>CN c b g rec a FU (d) (true) (0)) else some ([],d))
def FX (rec:((List Aex) × Int × (List Int)) → (List Int) → Int → Af ((List Int) × ((List Aex) × Int × (List Int)))) (a:((List Aex) × Int × (List Int))) (b:(List Int)) (c:Int):Af ((List Int) × ((List Aex) × Int × (List Int))) :=
 (if ((b.length:Int) == (a.1.length:Int)) = true then (if (decide (0 < c)) = true then some ([],a) else some (b,a)) else CP c b rec FU (a) (0))
def Db:Nat → ((List Aex) × Int × (List Int)) → (List Int) → Int → Af ((List Int) × ((List Aex) × Int × (List Int)))
 | 0,_,_,_=>none
 | m + 1,a,b,c=>FX (Db m) a b c
def HU (a:((List Aex) × Int × (List Int))) (b:(List Int)) (c:Int):Af ((List Int) × ((List Aex) × Int × (List Int))) :=
 Db FU a b c
def Ec (c:(Aev × Aev × Int × (List Int))):Nat → ((List Aex) × Int × (List Int)) → Int → Af Ae1
 | 0,_,_=>none
 | m + 1,d,a=>(if (decide (a ≤ (Ae (4 * (c.1.length:Int))))) = true then (HU d [] a).bind fun b =>
 (if (decide (0 < (b.1.length:Int))) = true then some (b.1,a) else (Ec c m) (b.2) ((Ae (a + 1)))) else some ([],0))
def Jv (a:(Aev × Aev × Int × (List Int))) (b:Int):Af Ae1 :=
 (GG a).bind fun u8 =>
 Ec a FU ((u8,b,(List.replicate 900 0))) (0)
def Ig (a:(Aev × Aev × Int × (List Int))) (b:Int):Af (Int × Bool) :=
 Bk (fun (d:Bool)=>(if d = true then some (0,false) else (RY (a.1.length:Int) 0).bind fun e =>
 (I2 a e b).bind fun f =>
 (if ((f.length:Int) == 0) = true then some (0,true) else (Km a b).bind fun g =>
 (if (decide (0 ≤ g.1)) = true then some (1,true) else (Jv a b).bind fun h =>
 (if (decide (0 < (h.1.length:Int))) = true then some (2,true) else some (3,true)))))) (fun c=>(LA a).bind fun i =>
 (if (!i) = true then c (true) else (Hk b).bind fun j =>
 c ((!j))))
def D2 (c:Aev) (e:(Int × Int)) (d:Int) (f:(Int → Int → Int → Int → Af (Int × Int × Int))):Nat → Int → Int → Int → Int → Af (Int × Int × Int)
 | 0,_,_,_,_=>none
 | m + 1,g,h,a,b=>(if (decide (b < (c.length:Int))) = true then W0 (fun (k:Int) (l:Int) (n:Int)=>(D2 c e d f m) (k) (l) (n) ((Ae (b + 1)))) (fun i=>(AK c b).bind fun o =>
 (GW e o).bind fun u64 =>
 Bk (fun (p:Bool)=>(if p = true then i (d) (b) (u64) else i (g) (h) (a))) (fun j=>(if (decide (a < 0)) = true then j (true) else j ((decide (u64 < a)))))) else f (g) (h) (a) ((Ae (d + 1))))
def Fd (a:Aev):Nat → Int → Int → Int → Int → Af (Int × Int × Int)
 | 0,_,_,_,_=>none
 | m + 1,c,d,e,b=>(if (decide (b < (a.length:Int))) = true then (AK a b).bind fun f =>
 D2 a f b (Fd a m) FU (c) (d) (e) ((Ae (b + 1))) else some (c,d,e))
def JM (a:Aev):Af (Int × Int × Int) :=
 Fd a FU (0) (0) ((-1)) (0)
def Ee (a:Aev):Af (Int × Bool) :=
 Bk (fun (c:Bool)=>(if c = true then some (0,false) else (JM a).bind fun d =>
 some (d.2.2,true))) (fun b=>(FK a).bind fun e =>
 (if (!e) = true then b (true) else b ((decide ((a.length:Int) < 2)))))
def E9 (a:Aev):Nat → Int → Int → Af Int
 | 0,_,_=>none
 | m + 1,c,b=>(if (decide (b < (a.length:Int))) = true then (AK a b).bind fun d =>
 (E9 a m) ((Ae (c + d.1))) ((Ae (b + 1))) else some c)
def Jw (a:Aev):Af Int :=
 E9 a FU (0) (0)
def LB (a:Aev) (c:Int):Af Bool :=
 Bk (fun (d:Bool)=>some d) (fun b=>(Jf a).bind fun e =>
 (if e = true then (Jw a).bind fun f =>
 (BR c 0 f).bind fun g =>
 b (g) else b (false)))
def H2 (b:Int) (a:Int):Af Int :=
 (if a = 0 then none else some (Ae (Int.tdiv (Ae (60000 * b)) a)))
def Di (b:Aev):Nat → Int → Int → Int → Af Int
 | 0,_,_,_=>none
 | m + 1,c,d,e=>(if (decide (e < (b.length:Int))) = true then (AK b e).bind fun a =>
 (if (decide (c < a.1)) = true then (H2 c a.2).bind fun f =>
 some (Ae (d + f)) else (H2 a.1 a.2).bind fun g =>
 (Di b m) ((Ae (c - a.1))) ((Ae (d + g))) ((Ae (e + 1)))) else some d)
def FJ (a:Aev) (b:Int):Af Int :=
 Di a FU (b) (0) (0)
def Kt (a:Aev) (b:Int):Af (Int × Bool) :=
 (LB a b).bind fun c =>
 (if (!c) = true then some (0,false) else (FJ a b).bind fun d =>
 some (d,true))
def Ln (a:Int):Af Bool :=
 (BR a 0 999).bind fun b =>
 some b
def GF (f:Aew) (g:Int) (c:Int) (d:Int):Nat → Int → Af Int
 | 0,_=>none
 | m + 1,e=>(if (decide (e < (f.length:Int))) = true then (AK f e).bind fun a =>
 Bk (fun (h:Bool)=>(if h = true then some e else (GF f g c d m) ((Ae (e + 1))))) (fun b=>(if (g == 0) = true then (if (c == 0) = true then (BR d a.2.2.1 (Ae (a.2.2.2 - 1))).bind fun i =>
 b (i) else (if (a.1 == c) = true then (BR d a.2.2.1 (Ae (a.2.2.2 - 1))).bind fun j =>
 b (j) else b (false))) else (if (a.2.1 == g) = true then (if (c == 0) = true then (BR d a.2.2.1 (Ae (a.2.2.2 - 1))).bind fun k =>
 b (k) else (if (a.1 == c) = true then (BR d a.2.2.1 (Ae (a.2.2.2 - 1))).bind fun l =>
 b (l) else b (false))) else b (false)))) else some (-1))
def KC (a:Aew) (b:Int) (c:Int) (d:Int):Af Int :=
 GF a b c d FU (0)
def ID (a:Aew) (c:Int) (d:Int):Af (Int × Bool) :=
 Bk (fun (e:Bool)=>(if e = true then some (0,false) else (KC a c 0 d).bind fun f =>
 (AK a f).bind fun g =>
 some (g.1,true))) (fun b=>(Jk a).bind fun h =>
 (if (!h) = true then b (true) else (Jj c).bind fun i =>
 (if (!i) = true then b (true) else (Ln d).bind fun j =>
 (if (!j) = true then b (true) else (KC a c 0 d).bind fun k =>
 b ((decide (k < 0)))))))
def Mm (a:Aey) (c:Int):Af Bool :=
 Bk (fun (d:Bool)=>some d) (fun b=>(HZ a).bind fun e =>
 (if e = true then (BR c 0 (Ae ((a.length:Int) - 1))).bind fun f =>
 b (f) else b (false)))
def E5 (b:Aey):Nat → Int → (List Int) → Af (List Int)
 | 0,_,_=>none
 | m + 1,a,c=>(if (decide (0 ≤ a)) = true then (Cl [a] c).bind fun d =>
 (AK b a).bind fun e =>
 (E5 b m) (e.1) (d) else some c)
def KZ (a:Aey) (b:Int):Af (List Int) :=
 E5 a FU (b) ([])
def ET (a:(List Int)) (b:Aey):Nat → (List Int) → Int → Af (List Int)
 | 0,_,_=>none
 | m + 1,c,d=>(if (decide (d < (a.length:Int))) = true then (AK a d).bind fun e =>
 (AK b e).bind fun u64 =>
 (AK b e).bind fun f =>
 (AK c u64.2.1).bind fun g =>
 (ET a b m) ((BC c u64.2.1 f.2.2)) ((Ae (d + 1))) else some c)
def EU (a:Aey) (c:Int):Nat → (List Int) → Af (List Int)
 | 0,_=>none
 | m + 1,b=>(if (decide ((b.length:Int) < 8)) = true then (Cl b [(-1)]).bind fun d =>
 (EU a c m) (d) else (KZ a c).bind fun e =>
 ET e a FU (b) (0))
def JG (a:Aey) (b:Int):Af (List Int) :=
 EU a b FU ([])
def JQ (a:Aey) (b:Int):Af ((List Int) × Bool) :=
 (Mm a b).bind fun c =>
 (if (!c) = true then some ([],false) else (JG a b).bind fun d =>
 some (d,true))
def D1 (b:(List Int)):Nat → (List Aj) → Int → Af (List Aj)
 | 0,_,_=>none
 | m + 1,c,a=>(if (decide (a < (b.length:Int))) = true then Bk (fun (h:(List Aj))=>(D1 b m) (h) ((Ae (a + 1)))) (fun d=>(AK b a).bind fun e =>
 Bk (fun (f:(List Aj))=>(if (decide (e < 0)) = true then (Cl f [45]).bind fun i =>
 d (i) else (Dd e).bind fun j =>
 (Cl f j).bind fun k =>
 d (k))) (fun g=>(if (decide (0 < a)) = true then (Cl c [32]).bind fun l =>
 g (l) else g (c)))) else some c)
def JK (a:(List Int)):Af (List Aj) :=
 D1 a FU ([]) (0)
def Jc (a:Int):Af (List Aj) :=
 (if ((Int.tmod a 8) == 0) = true then (Dd (Ae (Int.tdiv a 8))).bind fun b =>
 some b else (Dd (Ae (Int.tdiv a 8))).bind fun c =>
 (Cl c [43]).bind fun d =>
 (Dd (Int.tmod a 8)).bind fun e =>
 (Cl d e).bind fun f =>
 some f)
def Kk (a:(Int × Int)):Af (List Aj) :=
 (Jc a.1).bind fun b =>
 (Cl b [44]).bind fun c =>
 (Jc a.2).bind fun d =>
 (Cl c d).bind fun e =>
 some e
def Mn (b:(Int × Int)) (c:(Int × Int)):Af Bool :=
 Bk (fun (d:Bool)=>some d) (fun a=>(Ia b).bind fun e =>
 (if e = true then (Ia c).bind fun f =>
 a (f) else a (false)))
def EE (c:Int):Nat → Int → Int → Af Int
 | 0,_,_=>none
 | m + 1,a,b=>(if (decide (a < b)) = true then (if (decide ((Ae (1000000 * c)) ≤ (Ae ((Ae ((Ae (4800 * (Ae (Int.tdiv (Ae (a + b)) 2)))) * 4800)) * (Ae (Int.tdiv (Ae (a + b)) 2)))))) = true then (EE c m) (a) ((Ae (Int.tdiv (Ae (a + b)) 2))) else (EE c m) ((Ae ((Ae (Int.tdiv (Ae (a + b)) 2)) + 1))) (b)) else some a)
def Kl (a:Int):Af Int :=
 EE a FU (0) (1000)
def Lk (a:(Int × Int)) (b:(Int × Int)):Af Int :=
 (GW a b).bind fun c =>
 (Kl c).bind fun d =>
 some d
def H4 (a:(Int × Int)) (b:(Int × Int)):Af (Int × Bool) :=
 (Mn a b).bind fun c =>
 (if (!c) = true then some (0,false) else (Lk a b).bind fun d =>
 some (d,true))
def CA (a:(List Int)) (b:(Aev × Aev × Int × Aev × Aew × Aey × (List Int) × (List Int) × Int)) (d:(List Aj)):Nat → Int → Af (List Aj)
 | 0,_=>none
 | m + 1,c=>(if (decide (c < (a.length:Int))) = true then (AK a c).bind fun f =>
 (if (decide ((b.1.length:Int) ≤ f)) = true then some ([110,111]) else (CA a b d m) ((Ae (c + 1)))) else (if (d == [116,101,120,116]) = true then (AK a 0).bind fun g =>
 (AK b.1 g).bind fun h =>
 (Kk h).bind fun i =>
 some i else (AK a 0).bind fun j =>
 (AK b.1 j).bind fun k =>
 (AK a 1).bind fun l =>
 (AK b.1 l).bind fun n =>
 (H4 k n).bind fun e =>
 (Fq e.1 e.2).bind fun o =>
 some o))
def C3 (a:(Aev × Aev × Int × Aev × Aew × Aey × (List Int) × (List Int) × Int)) (b:(List Aj)) (c:(List Int)):Af (List Aj) :=
 (if (b == [115,117,109]) = true then jK5 (fun (l:Aev) (m:Aev) (n:Int) (o:(List Int)) (p:Bool)=>(if (!p) = true then some ([110,111]) else (H3 (l,m,n,o)).bind fun e =>
 (Fq e.1 e.2).bind fun q =>
 some q)) (fun r=>(Gv a.2.1 a.1 a.2.2.1).bind fun d =>
 r (d.1.1) (d.1.2.1) (d.1.2.2.1) (d.1.2.2.2) (d.2)) else (if (b == [99,108,111,115,101]) = true then (AK c 0).bind fun s =>
 (Ht a s).bind fun t =>
 some t else (if (b == [107,105,110,100]) = true then (ED a).bind fun f =>
 (if (!f.2) = true then some ([110,111]) else (AK c 0).bind fun u =>
 (Ig f.1 u).bind fun g =>
 (Fq g.1 g.2).bind fun v =>
 some v) else (if (b == [108,101,97,115,116]) = true then (Ee a.1).bind fun h =>
 (Fq h.1 h.2).bind fun w =>
 some w else (if (b == [116,105,109,101]) = true then (AK c 0).bind fun x =>
 (Kt a.2.2.2.1 x).bind fun i =>
 (Fq i.1 i.2).bind fun y =>
 some y else (if (b == [119,104,111]) = true then (AK c 0).bind fun z =>
 (AK c 1).bind fun aa =>
 (ID a.2.2.2.2.1 z aa).bind fun j =>
 (if (!j.2) = true then some ([110,111,110,101]) else (Dd j.1).bind fun ab =>
 some ab) else (if (b == [115,116,97,116,101]) = true then (AK c 0).bind fun ac =>
 (JQ a.2.2.2.2.2.1 ac).bind fun k =>
 (if (!k.2) = true then some ([110,111]) else (JK k.1).bind fun ad =>
 some ad) else CA c a b FU (0))))))))
def BT (e:(List (List Aj))) (c:(Aev × Aev × Int × Aev × Aew × Aey × (List Int) × (List Int) × Int)) (d:(List (List Aj))):Nat → (List Int) → Int → Af ((List Aj) × (Aev × Aev × Int × Aev × Aew × Aey × (List Int) × (List Int) × Int))
 | 0,_,_=>none
 | m + 1,f,g=>(if (decide (g < (e.length:Int))) = true then (AK e g).bind fun j =>
 (Ko j).bind fun h =>
 (BR h 0 99999).bind fun k =>
 (if (!k) = true then some ([119,104,97,116],c) else (Cl f [h]).bind fun l =>
 (BT e c d m) (l) ((Ae (g + 1)))) else (AK d 0).bind fun a =>
 Bk (fun (n:Bool)=>(if n = true then (AK d 0).bind fun o =>
 (Cz c o f).bind fun i =>
 (Jg i.1).bind fun p =>
 some (p,i.2) else (AK d 0).bind fun q =>
 (C3 c q f).bind fun r =>
 some (r,c))) (fun b=>(if (a == [115,112,111,116]) = true then b ((a == [115,112,111,116])) else (if (a == [112,108,97,99,101]) = true then b ((a == [112,108,97,99,101])) else (if (a == [109,105,114,114,111,114]) = true then b ((a == [109,105,114,114,111,114])) else (if (a == [107,101,101,112]) = true then b ((a == [107,101,101,112])) else (if (a == [99,111,117,110,116,115]) = true then b ((a == [99,111,117,110,116,115])) else (if (a == [109,101,97,115,117,114,101]) = true then b ((a == [109,101,97,115,117,114,101])) else (if (a == [99,97,114,114,121]) = true then b ((a == [99,97,114,114,121])) else b ((a == [118,101,114,115,105,111,110])))))))))))
def Ed (b:(Aev × Aev × Int × Aev × Aew × Aey × (List Int) × (List Int) × Int)) (c:(List Aj)):Af ((List Aj) × (Aev × Aev × Int × Aev × Aew × Aey × (List Int) × (List Int) × Int)) :=
 (FO c 32).bind fun a =>
 (AK a 0).bind fun d =>
 (GE d).bind fun e =>
 (if ((Ae ((a.length:Int) - 1)) != e) = true then some ([119,104,97,116],b) else (sl a 1 (a.length:Int)).bind fun f =>
 BT f b a FU ([]) (0))
def Gf (d:((List (List Aj)) × Bool)):Nat → (Aev × Aev × Int × Aev × Aew × Aey × (List Int) × (List Int) × Int) → (List Aj) → Int → Af ((Aev × Aev × Int × Aev × Aew × Aey × (List Int) × (List Int) × Int) × (List Aj) × Bool)
 | 0,_,_,_=>none
 | m + 1,b,f,c=>(if (decide (c < (d.1.length:Int))) = true then (AK d.1 c).bind fun g =>
 (Ed b g).bind fun a =>
 Bk (fun (h:(Aev × Aev × Int × Aev × Aew × Aey × (List Int) × (List Int) × Int))=>(Cl a.1 [10]).bind fun i =>
 (Cl f i).bind fun j =>
 (Gf d m) (h) (j) ((Ae (c + 1)))) (fun e=>(if (a.1 == [110,111]) = true then (Cl a.2.2.2.2.2.2.2.1 [(Ae (c + 1))]).bind fun k =>
 e ((a.2.1,a.2.2.1,a.2.2.2.1,a.2.2.2.2.1,a.2.2.2.2.2.1,a.2.2.2.2.2.2.1,k,a.2.2.2.2.2.2.2.2.1,a.2.2.2.2.2.2.2.2.2)) else (if (a.1 == [119,104,97,116]) = true then (Cl a.2.2.2.2.2.2.2.2.1 [(Ae (c + 1))]).bind fun l =>
 e ((a.2.1,a.2.2.1,a.2.2.2.1,a.2.2.2.2.1,a.2.2.2.2.2.1,a.2.2.2.2.2.2.1,a.2.2.2.2.2.2.2.1,l,a.2.2.2.2.2.2.2.2.2)) else e (a.2)))) else some ((b.1,b.2.1,b.2.2.1,b.2.2.2.1,b.2.2.2.2.1,b.2.2.2.2.2.1,b.2.2.2.2.2.2.1,b.2.2.2.2.2.2.2.1,(d.1.length:Int)),f,true))
def Lb (c:(List Aj)):Af ((Aev × Aev × Int × Aev × Aew × Aey × (List Int) × (List Int) × Int) × (List Aj) × Bool) :=
 (Ll ).bind fun a =>
 (JL c).bind fun b =>
 (if (!b.2) = true then some (a,[],false) else Gf b FU (a) ([]) (0))
def Hs (a:(List Aj)) (b:Int):Af Int :=
 some (PV a b)
def IQ (b:(List Aj)) (a:(List Aj)):Af Int :=
 Bk (fun (d:Bool)=>(if d = true then some 0 else (if ((a.length:Int) == 1) = true then (AK a 0).bind fun e =>
 (Hs b (UInt8.toNat e:Int)).bind fun f =>
 some f else (if (decide ((b.length:Int) ≤ (a.length:Int))) = true then some (-1) else none)))) (fun c=>(if ((a.length:Int) == 0) = true then c (true) else c ((a == b))))
def HT (a:(List Aj)) (b:(List Aj)):Af Int :=
 (IQ a b).bind fun c =>
 some c
def HG (a:(List Aj)):Nat → (List Aj) → Int → Af Int
 | 0,_,_=>none
 | m + 1,b,c=>(HT b a).bind fun d =>
 (if (d == (-1)) = true then some c else (sl b (Ae (d + (a.length:Int))) (b.length:Int)).bind fun e =>
 (HG a m) (e) ((Ae (c + 1))))
def Ju (b:(List Aj)) (a:(List Aj)):Af Int :=
 (if ((a.length:Int) == 0) = true then none else (if ((a.length:Int) == 1) = true then (AK a 0).bind fun c =>
 some (Yp b (UInt8.toNat c:Int)) else HG a FU (b) (0)))
def DL (g:Int) (h:(List Aj)) (d:(List Aj)) (e:((List Aj) → (List (List Aj)) → Int → Af (List (List Aj)))) (i:Int):Nat → (List Aj) → (List (List Aj)) → Int → Af (List (List Aj))
 | 0,_,_,_=>none
 | m + 1,a,c,b=>(if (decide (b < (Ae ((Fn g (Ae ((h.length:Int) + 1))) - 1)))) = true then (HT a d).bind fun f =>
 (if (decide (f < 0)) = true then e (a) (c) (b) else (sl a 0 (Ae (f + i))).bind fun j =>
 (AK c b).bind fun l =>
 (sl a (Ae (f + (d.length:Int))) (a.length:Int)).bind fun k =>
 (DL g h d e i m) (k) ((BC c b j)) ((Ae (b + 1)))) else e (a) (c) (b))
def Jt (a:(List Aj)) (b:(List Aj)) (h:Int) (c:Int):Af (List (List Aj)) :=
 (if (c == 0) = true then some [] else (if (b == []) = true then none else Bk (fun (e:Int)=>(RY (Fn e (Ae ((a.length:Int) + 1))) []).bind fun i =>
 W0 (fun (j:(List Aj)) (f:(List (List Aj))) (d:Int)=>(AK f d).bind fun n =>
 (sl (BC f d j) 0 (Ae (d + 1))).bind fun k =>
 some k) (fun l=>DL e a b l h FU (a) (i) (0))) (fun g=>(if (decide (c < 0)) = true then (Ju a b).bind fun m =>
 g ((Ae (m + 1))) else g (c)))))
def Gd (a:(List Aj)) (b:(List Aj)):Af (List (List Aj)) :=
 (Jt a b 0 (-1)).bind fun c =>
 some c
def JT (a:(List Aj)):Af ((List (List Aj)) × Bool) :=
 (if (a == []) = true then some ([],true) else (AK a (Ae ((a.length:Int) - 1))).bind fun b =>
 (if ((UInt8.toNat b:Int) != 10) = true then some ([],false) else (sl a 0 (Ae ((a.length:Int) - 1))).bind fun c =>
 (Gd c [10]).bind fun d =>
 some (d,true)))
def HI (c:(List Aj)):Af ((List (List Aj)) × Bool) :=
 (JT c).bind fun a =>
 Bk (fun (d:Bool)=>(if d = true then some ([],false) else some (a.1,true))) (fun b=>(if (!a.2) = true then b (true) else (if (decide (2000 < (c.length:Int))) = true then b (true) else b ((decide (40 < (a.1.length:Int)))))))
def KM  : Af (Aev × Aev × Int × Aev × Aew × Aey) :=
 some ([(0,0)],[(0,0)],8,[(4,120)],[],[((-1),0,0)])
def Fj (a:(List Aj)):Nat → Int → Int → Af (Int × Bool)
 | 0,_,_=>none
 | m + 1,c,b=>(if (decide (b < (a.length:Int))) = true then Bk (fun (e:Bool)=>(if e = true then some (0,false) else (AK a b).bind fun f =>
 (Fj a m) ((Ae ((Ae (10 * c)) + (Ae (Mx ((UInt8.toNat f:Int) - 48)))))) ((Ae (b + 1))))) (fun d=>(AK a b).bind fun g =>
 (if (decide ((UInt8.toNat g:Int) < 48)) = true then d (true) else (AK a b).bind fun h =>
 d ((decide (57 < (UInt8.toNat h:Int)))))) else some (c,true))
def JS (a:(List Aj)):Af (Int × Bool) :=
 Bk (fun (c:Bool)=>(if c = true then some (0,false) else Fj a FU (0) (0))) (fun b=>(if (a == []) = true then b (true) else (if (decide (9 < (a.length:Int))) = true then b (true) else (if (decide (1 < (a.length:Int))) = true then (AK a 0).bind fun d =>
 b (((UInt8.toNat d:Int) == 48)) else b (false)))))
def Jz (a:(List Aj)):Af Int :=
 Bk (fun (f:Bool)=>(if f = true then some 0 else Bk (fun (g:Bool)=>(if g = true then some 1 else Bk (fun (h:Bool)=>(if h = true then some 2 else Bk (fun (i:Bool)=>(if i = true then some 3 else (if (a == [99,97,114,114,121]) = true then some 4 else some (-1)))) (fun e=>(if (a == [112,108,97,99,101]) = true then e ((a == [112,108,97,99,101])) else e ((a == [118,101,114,115,105,111,110])))))) (fun c=>(if (a == [115,112,111,116]) = true then c ((a == [115,112,111,116])) else (if (a == [115,111,117,110,100]) = true then c ((a == [115,111,117,110,100])) else (if (a == [109,101,97,115,117,114,101]) = true then c ((a == [109,101,97,115,117,114,101])) else c ((a == [119,104,111])))))))) (fun b=>(if (a == [99,111,117,110,116,115]) = true then b ((a == [99,111,117,110,116,115])) else (if (a == [99,108,111,115,101]) = true then b ((a == [99,108,111,115,101])) else (if (a == [107,105,110,100]) = true then b ((a == [107,105,110,100])) else (if (a == [116,101,120,116]) = true then b ((a == [116,101,120,116])) else (if (a == [116,105,109,101]) = true then b ((a == [116,105,109,101])) else b ((a == [115,116,97,116,101])))))))))) (fun d=>(if (a == [109,105,114,114,111,114]) = true then d ((a == [109,105,114,114,111,114])) else (if (a == [107,101,101,112]) = true then d ((a == [107,101,101,112])) else (if (a == [115,117,109]) = true then d ((a == [115,117,109])) else d ((a == [108,101,97,115,116]))))))
def Ca (a:Int) (c:Int) (d:Int):Af Bool :=
 Bk (fun (e:Bool)=>some e) (fun b=>(if (decide (c ≤ a)) = true then b ((decide (a ≤ d))) else b (false)))
def Gy (a:(Int × Int)):Af Bool :=
 Bk (fun (c:Bool)=>some c) (fun b=>(Ca a.1 0 1280).bind fun d =>
 (if d = true then (Ca a.2 0 672).bind fun e =>
 b (e) else b (false)))
def Co (b:Aev) (c:(Int × Int)):Nat → Int → Af Int
 | 0,_=>none
 | m + 1,a=>(if (decide (a < (b.length:Int))) = true then (AK b a).bind fun d =>
 (if (ME c d) = true then some a else (Co b c m) ((Ae (a + 1)))) else some (-1))
def Ez (a:Aev) (b:(Int × Int)):Af Int :=
 Co a b FU (0)
def Dk (a:Aev) (b:(Int × Int)):Af Bool :=
 (Ez a b).bind fun u8 =>
 some (decide (0 ≤ u8))
def Fm (a:Aev):Nat → Int → Af Bool
 | 0,_=>none
 | m + 1,b=>(if (decide (b < (a.length:Int))) = true then (AK a b).bind fun c =>
 Bk (fun (e:Bool)=>(if e = true then some false else (Fm a m) ((Ae (b + 1))))) (fun d=>(Gy c).bind fun f =>
 (if (!f) = true then d (true) else (sl a 0 b).bind fun g =>
 (Dk g c).bind fun u64 =>
 d (u64))) else some true)
def Eb (a:Aev):Af Bool :=
 (Ca (a.length:Int) 1 12).bind fun b =>
 (if (!b) = true then some false else Fm a FU (0))
def I4 (a:Bool):Af (List Aj) :=
 (if a = true then some ([111,107]) else some ([110,111]))
def Dj (a:(Aev × Aev × Int × Aev × Aew × Aey)) (d:Aev) (b:Bool):Af ((List Aj) × (Aev × Aev × Int × Aev × Aew × Aey)) :=
 Bk (fun (e:(Aev × Aev × Int × Aev × Aew × Aey))=>(I4 b).bind fun f =>
 some (f,e)) (fun c=>(if b = true then c ((d,a.2.1,a.2.2.1,a.2.2.2.1,a.2.2.2.2.1,a.2.2.2.2.2)) else c (a)))
def Gn (a:Aev):Af (Aev × Bool) :=
 (Eb a).bind fun b =>
 (if (!b) = true then some ([],false) else some (a,true))
def GI (a:Aev) (b:Int) (d:(Int × Int)):Af (Aev × Bool) :=
 Bk (fun (f:Bool)=>(if f = true then some ([],false) else (Cl [] a).bind fun e =>
 (AK e b).bind fun j =>
 (Gn (BC e b d)).bind fun g =>
 some g)) (fun c=>(Eb a).bind fun h =>
 (if (!h) = true then c (true) else (Ca b 0 (Ae ((a.length:Int) - 1))).bind fun i =>
 (if (!i) = true then c (true) else (Gy d).bind fun u64 =>
 c ((!u64)))))
def DT (a:Aev):Nat → Aev → Int → Af (Aev × Bool)
 | 0,_,_=>none
 | m + 1,c,b=>(if (decide (b < (a.length:Int))) = true then (AK a b).bind fun d =>
 (Cl c [((Ae (1280 - d.1)),d.2)]).bind fun e =>
 (DT a m) (e) ((Ae (b + 1))) else some (c,true))
def HM (a:Aev):Af (Aev × Bool) :=
 (Eb a).bind fun b =>
 (if (!b) = true then some ([],false) else DT a FU ([]) (0))
def BK (a:(Aev × Aev × Int × Aev × Aew × Aey)) (c:(List Aj)) (b:(List Int)):Af ((List Aj) × (Aev × Aev × Int × Aev × Aew × Aey)) :=
 (if (c == [115,112,111,116]) = true then Gr (fun (j:(Aev × Aev × Int × Aev × Aew × Aey)) (k:(List Aj))=>some (k,j)) (fun l=>(AK b 0).bind fun m =>
 (AK b 1).bind fun n =>
 (Cl [] a.1).bind fun o =>
 (Cl o [(m,n)]).bind fun p =>
 (Gn p).bind fun d =>
 (Dj a d.1 d.2).bind fun e =>
 l (e.2) (e.1)) else (if (c == [112,108,97,99,101]) = true then (AK b 0).bind fun q =>
 (AK b 1).bind fun r =>
 (AK b 2).bind fun s =>
 (GI a.1 q (r,s)).bind fun f =>
 (Dj a f.1 f.2).bind fun g =>
 some (g.1,g.2) else (if (c == [109,105,114,114,111,114]) = true then (HM a.1).bind fun h =>
 (Dj a h.1 h.2).bind fun i =>
 some (i.1,i.2) else (if (c == [107,101,101,112]) = true then (Cl [] a.1).bind fun t =>
 some ([111,107],(a.1,t,a.2.2.1,a.2.2.2.1,a.2.2.2.2.1,a.2.2.2.2.2)) else (AK b 0).bind fun u =>
 (Ca u 1 64).bind fun v =>
 (if (!v) = true then some ([110,111],a) else (AK b 0).bind fun w =>
 some ([111,107],(a.1,a.2.1,w,a.2.2.2.1,a.2.2.2.2.1,a.2.2.2.2.2)))))))
def Fl (a:Aev):Nat → Int → Af Bool
 | 0,_=>none
 | m + 1,b=>(if (decide (b < (a.length:Int))) = true then (AK a b).bind fun c =>
 Bk (fun (e:Bool)=>(if e = true then some false else (Fl a m) ((Ae (b + 1))))) (fun d=>(Ca c.1 1 12).bind fun f =>
 (if (!f) = true then d (true) else (Ca c.2 40 220).bind fun g =>
 d ((!g)))) else (Ca (a.length:Int) 1 40).bind fun h =>
 some h)
def I6 (a:Aev):Af Bool :=
 Fl a FU (0)
def Dr (a:(Int × Int × Int × Int)) (b:(Int × Int × Int × Int)):Af Int :=
 (if (a.2.2.1 != b.2.2.1) = true then some (Ae (a.2.2.1 - b.2.2.1)) else some (Ae (a.2.1 - b.2.1)))
def JU (a:(Int × Int × Int × Int)):Af Bool :=
 Bk (fun (c:Bool)=>some c) (fun b=>(Ca a.1 1 12).bind fun d =>
 (if d = true then (Ca a.2.1 1 9).bind fun e =>
 (if e = true then (if (decide (0 ≤ a.2.2.1)) = true then (if (decide (a.2.2.1 < a.2.2.2)) = true then b ((decide (a.2.2.2 ≤ 1000))) else b (false)) else b (false)) else b (false)) else b (false)))
def D3 (c:Aew) (a:(Int × Int × Int × Int)) (f:(Int → Af Bool)) (g:Int):Nat → Int → Af Bool
 | 0,_=>none
 | m + 1,d=>(if (decide (d < (c.length:Int))) = true then (AK c d).bind fun b =>
 Bk (fun (h:Bool)=>(if h = true then some false else (D3 c a f g m) ((Ae (d + 1))))) (fun e=>(if (a.2.1 == b.2.1) = true then e ((decide ((Fy a.2.2.1 b.2.2.1) < (Fn a.2.2.2 b.2.2.2)))) else (if (a.1 == b.1) = true then e ((decide ((Fy a.2.2.1 b.2.2.1) < (Fn a.2.2.2 b.2.2.2)))) else e (false)))) else f ((Ae (g + 1))))
def CE (b:Aew):Nat → Int → Af Bool
 | 0,_=>none
 | m + 1,a=>(if (decide (a < (b.length:Int))) = true then (AK b a).bind fun c =>
 Bk (fun (e:Bool)=>(if e = true then some false else (sl b 0 a).bind fun f =>
 D3 f c (CE b m) a FU (0))) (fun d=>(if (decide (0 < a)) = true then (AK b (Ae (a - 1))).bind fun g =>
 (Dr g c).bind fun h =>
 d ((decide (0 ≤ h))) else d (false))) else some true)
def Ei (a:Aew):Nat → Int → Af Bool
 | 0,_=>none
 | m + 1,b=>(if (decide (b < (a.length:Int))) = true then (AK a b).bind fun c =>
 (JU c).bind fun d =>
 (if (!d) = true then some false else (Ei a m) ((Ae (b + 1)))) else CE a FU (0))
def FY (a:Aew):Af Bool :=
 (if (decide (40 < (a.length:Int))) = true then some false else Ei a FU (0))
def DU (d:Aey):Nat → Int → Af Bool
 | 0,_=>none
 | m + 1,a=>(if (decide (a < (d.length:Int))) = true then (AK d a).bind fun b =>
 Bk (fun (e:Bool)=>(if e = true then some false else (DU d m) ((Ae (a + 1))))) (fun c=>(if (decide (0 < a)) = true then (Ca b.1 0 (Ae (a - 1))).bind fun f =>
 (if (!f) = true then c (true) else (Ca b.2.1 0 7).bind fun g =>
 (if (!g) = true then c (true) else (Ca b.2.2 0 999).bind fun h =>
 c ((!h)))) else (Ca b.2.1 0 7).bind fun i =>
 (if (!i) = true then c (true) else (Ca b.2.2 0 999).bind fun j =>
 c ((!j))))) else some true)
def FI (a:Aey):Af Bool :=
 Bk (fun (c:Bool)=>(if c = true then some false else DU a FU (0))) (fun b=>(Ca (a.length:Int) 1 60).bind fun d =>
 (if (!d) = true then b (true) else (AK a 0).bind fun e =>
 b ((e.1 != (-1)))))
def Ip (a:Aey) (c:(Int × Int × Int)):Af (Aey × Bool) :=
 (FI a).bind fun d =>
 (if (!d) = true then some ([],false) else Bk (fun (b:Aey)=>(FI b).bind fun e =>
 (if (!e) = true then some ([],false) else some (b,true))) (fun f=>(Cl [] a).bind fun g =>
 (Cl g [c]).bind fun h =>
 f (h)))
def Bn (c:(Aew → Int → Af Aew)) (d:Int) (e:Int):Nat → Aew → Int → Af Aew
 | 0,_,_=>none
 | m + 1,b,a=>Bk (fun (h:Bool)=>(if h = true then Bk (fun (i:Aew)=>(Bn c d e m) (i) ((Ae (a - 1)))) (fun j=>(AK b (Ae (a - 1))).bind fun f =>
 (AK b a).bind fun k =>
 (AK b a).bind fun p =>
 (AK (BC b a f) (Ae (a - 1))).bind fun q =>
 j ((BC (BC b a f) (Ae (a - 1)) k))) else c (b) ((Ae (d + 1))))) (fun g=>(if (decide (e < a)) = true then (AK b a).bind fun l =>
 (AK b (Ae (a - 1))).bind fun n =>
 (Dr l n).bind fun o =>
 g ((decide (o < 0))) else g (false)))
def AW (b:Int) (c:Int):Nat → Aew → Int → Af Aew
 | 0,_,_=>none
 | m + 1,d,a=>(if (decide (a < b)) = true then Bn (AW b c m) a c FU (d) (a) else some d)
def Bj (b:Aew) (a:Int) (c:Int):Af Aew :=
 AW c a FU (b) ((Ae (a + 1)))
def Bw (e:Int) (d:Int) (c:Int):Nat → Aew → Int → Af Aew
 | 0,_,_=>none
 | m + 1,b,a=>(if (decide (a < e)) = true then Bk (fun (g:Aew)=>(Bw e d c m) (g) ((Ae (a + 1)))) (fun h=>(AK b (Ae (d + a))).bind fun f =>
 (AK b (Ae (c + a))).bind fun i =>
 (AK b (Ae (c + a))).bind fun j =>
 (AK (BC b (Ae (c + a)) f) (Ae (d + a))).bind fun k =>
 h ((BC (BC b (Ae (c + a)) f) (Ae (d + a)) i))) else some b)
def B8 (a:Aew) (b:Int) (c:Int) (d:Int):Af Aew :=
 Bw d c b FU (a) (0)
def B0 (b:Int):Nat → Aew → Int → Int → Af Aew
 | 0,_,_,_=>none
 | m + 1,d,a,c=>(if (a != c) = true then (if (decide (c < a)) = true then (B8 d (Ae (b - a)) b c).bind fun e =>
 (B0 b m) (e) ((Ae (a - c))) (c) else (B8 d (Ae (b - a)) (Ae ((Ae (b + c)) - a)) a).bind fun f =>
 (B0 b m) (f) (a) ((Ae (c - a)))) else (B8 d (Ae (b - a)) b a).bind fun g =>
 some g)
def BM (b:Aew) (c:Int) (a:Int) (d:Int):Af Aew :=
 B0 a FU (b) ((Ae (a - c))) ((Ae (d - a)))
def Bz (c:Int):Nat → Aew → Int → Af Aew
 | 0,_,_=>none
 | m + 1,b,a=>(if (decide (a < (Ae (c - 1)))) = true then Bk (fun (e:Aew)=>(Bz c m) (e) ((Ae (a + 1)))) (fun f=>(AK b (Ae (a + 1))).bind fun d =>
 (AK b a).bind fun g =>
 (AK b a).bind fun h =>
 (AK (BC b a d) (Ae (a + 1))).bind fun i =>
 f ((BC (BC b a d) (Ae (a + 1)) g))) else some b)
def AJ (b:Aew) (d:Int):Nat → Int → Int → Af Aew
 | 0,_,_=>none
 | m + 1,a,c=>(if (decide (a < c)) = true then (AK b (Ae (Br .u64 (Bh (Ae (a + c))) 1))).bind fun e =>
 (AK b d).bind fun f =>
 (Dr e f).bind fun g =>
 (if (decide (g < 0)) = true then (AJ b d m) ((Ae ((Ae (Br .u64 (Bh (Ae (a + c))) 1)) + 1))) (c) else (AJ b d m) (a) ((Ae (Br .u64 (Bh (Ae (a + c))) 1)))) else Bz a FU (b) (d))
def Bx (c:Int):Nat → Aew → Int → Af Aew
 | 0,_,_=>none
 | m + 1,b,a=>(if (decide (c < a)) = true then Bk (fun (e:Aew)=>(Bx c m) (e) ((Ae (a - 1)))) (fun f=>(AK b (Ae (a - 1))).bind fun d =>
 (AK b a).bind fun g =>
 (AK b a).bind fun h =>
 (AK (BC b a d) (Ae (a - 1))).bind fun i =>
 f ((BC (BC b a d) (Ae (a - 1)) g))) else some b)
def AH (b:Aew) (d:Int):Nat → Int → Int → Af Aew
 | 0,_,_=>none
 | m + 1,a,c=>(if (decide (a < c)) = true then (AK b d).bind fun e =>
 (AK b (Ae (Br .u64 (Bh (Ae (a + c))) 1))).bind fun f =>
 (Dr e f).bind fun g =>
 (if (!(decide (g < 0))) = true then (AH b d m) ((Ae ((Ae (Br .u64 (Bh (Ae (a + c))) 1)) + 1))) (c) else (AH b d m) (a) ((Ae (Br .u64 (Bh (Ae (a + c))) 1)))) else Bx a FU (b) (d))
def AG (e:Aew) (b:Int) (c:Int) (d:Int) (rec:(Aew → Int → Int → Int → Af Aew)):Nat → Int → Int → Af Aew
 | 0,_,_=>none
 | m + 1,a,f=>(if (decide (a < f)) = true then (AK e (Ae ((Ae ((Ae ((Ae (Br .u64 (Bh (Ae (b + c))) 1)) + d)) - 1)) - (Ae (Br .u64 (Bh (Ae (a + f))) 1))))).bind fun o =>
 (AK e (Ae (Br .u64 (Bh (Ae (a + f))) 1))).bind fun p =>
 (Dr o p).bind fun q =>
 (if (!(decide (q < 0))) = true then (AG e b c d rec m) ((Ae ((Ae (Br .u64 (Bh (Ae (a + f))) 1)) + 1))) (f) else (AG e b c d rec m) (a) ((Ae (Br .u64 (Bh (Ae (a + f))) 1)))) else Bk (fun (g:Aew)=>Bk (fun (h:Aew)=>Bk (fun (r:Bool)=>(if r = true then (rec h (Ae (Br .u64 (Bh (Ae (b + c))) 1)) (Ae ((Ae ((Ae (Br .u64 (Bh (Ae (b + c))) 1)) + d)) - a)) c).bind fun s =>
 some s else some h)) (fun i=>(if (decide ((Ae (Br .u64 (Bh (Ae (b + c))) 1)) < (Ae ((Ae ((Ae (Br .u64 (Bh (Ae (b + c))) 1)) + d)) - a)))) = true then i ((decide ((Ae ((Ae ((Ae (Br .u64 (Bh (Ae (b + c))) 1)) + d)) - a)) < c))) else i (false)))) (fun j=>Bk (fun (t:Bool)=>(if t = true then (rec g b a (Ae (Br .u64 (Bh (Ae (b + c))) 1))).bind fun u =>
 j (u) else j (g))) (fun k=>(if (decide (b < a)) = true then k ((decide (a < (Ae (Br .u64 (Bh (Ae (b + c))) 1))))) else k (false))))) (fun l=>Bk (fun (v:Bool)=>(if v = true then (BM e a d (Ae ((Ae ((Ae (Br .u64 (Bh (Ae (b + c))) 1)) + d)) - a))).bind fun w =>
 l (w) else l (e))) (fun n=>(if (decide (a < d)) = true then n ((decide (d < (Ae ((Ae ((Ae (Br .u64 (Bh (Ae (b + c))) 1)) + d)) - a))))) else n (false)))))
def BZ (rec:Aew → Int → Int → Int → Af Aew) (d:Aew) (b:Int) (a:Int) (c:Int):Af Aew :=
 (if ((Ae (a - b)) == 1) = true then AJ d b FU (a) (c) else (if ((Ae (c - a)) == 1) = true then AH d a FU (b) (a) else Gr (fun (f:Int) (g:Int)=>AG d b c a rec FU (f) (g)) (fun e=>(if (decide ((Ae (Br .u64 (Bh (Ae (b + c))) 1)) < a)) = true then e ((Ae ((Ae ((Ae (Br .u64 (Bh (Ae (b + c))) 1)) + a)) - c))) ((Ae (Br .u64 (Bh (Ae (b + c))) 1))) else e (b) (a)))))
def AO:Nat → Aew → Int → Int → Int → Af Aew
 | 0,_,_,_,_=>none
 | m + 1,a,b,c,d=>BZ (AO m) a b c d
def Cc (a:Aew) (b:Int) (c:Int) (d:Int):Af Aew :=
 AO FU a b c d
def Bo (c:Int) (a:Int) (f:(Aew → Int → Af Aew)):Nat → Aew → Int → Int → Af Aew
 | 0,_,_,_=>none
 | m + 1,e,b,d=>(if (decide (d ≤ c)) = true then (Cc e b (Ae (b + a)) d).bind fun h =>
 (Bo c a f m) (h) (d) ((Ae (d + (Ae (2 * a))))) else Bk (fun (i:Aew)=>f (i) ((Ae (a * 2)))) (fun g=>(if (decide ((Ae (b + a)) < c)) = true then (Cc e b (Ae (b + a)) c).bind fun j =>
 g (j) else g (e))))
def AE (a:Int):Nat → Aew → Int → Af Aew
 | 0,_,_=>none
 | m + 1,c,b=>(if (decide (b < a)) = true then Bo a b (AE a m) FU (c) (0) ((Ae (2 * b))) else some c)
def AM (a:Int):Nat → Aew → Int → Int → Af Aew
 | 0,_,_,_=>none
 | m + 1,c,d,b=>(if (decide (b ≤ a)) = true then (Bj c d b).bind fun e =>
 (AM a m) (e) (b) ((Ae (b + 20))) else (Bj c d a).bind fun f =>
 AE a FU (f) (20))
def C6 (a:Aew) (b:Int):Af Aew :=
 AM b FU (a) (0) (20)
def B7 (a:Aew):Af Aew :=
 (C6 a (a.length:Int)).bind fun b =>
 some b
def CG (a:(Aev × Aev × Int × Aev × Aew × Aey)) (f:(List Aj)) (b:(List Int)):Af ((List Aj) × (Aev × Aev × Int × Aev × Aew × Aey)) :=
 (if (f == [109,101,97,115,117,114,101]) = true then Gr (fun (c:(Aev × Aev × Int × Aev × Aew × Aey)) (g:Aev)=>(I6 g).bind fun j =>
 (if (!j) = true then some ([110,111],c) else some ([111,107],(c.1,c.2.1,c.2.2.1,g,c.2.2.2.2.1,c.2.2.2.2.2)))) (fun k=>(AK b 0).bind fun l =>
 (AK b 1).bind fun m =>
 (Cl [] a.2.2.2.1).bind fun n =>
 (Cl n [(l,m)]).bind fun o =>
 k (a) (o)) else (if (f == [99,97,114,114,121]) = true then Gr (fun (d:(Aev × Aev × Int × Aev × Aew × Aey)) (p:Aew)=>(B7 p).bind fun h =>
 (FY h).bind fun q =>
 (if (!q) = true then some ([110,111],d) else some ([111,107],(d.1,d.2.1,d.2.2.1,d.2.2.2.1,h,d.2.2.2.2.2)))) (fun r=>(AK b 0).bind fun s =>
 (AK b 1).bind fun t =>
 (AK b 2).bind fun u =>
 (AK b 3).bind fun v =>
 (Cl [] a.2.2.2.2.1).bind fun w =>
 (Cl w [(s,t,u,v)]).bind fun x =>
 r (a) (x)) else (AK b 0).bind fun y =>
 (AK b 1).bind fun z =>
 (AK b 2).bind fun aa =>
 (Ip a.2.2.2.2.2 (y,z,aa)).bind fun e =>
 Bk (fun (ab:(Aev × Aev × Int × Aev × Aew × Aey))=>(I4 e.2).bind fun ac =>
 some (ac,ab)) (fun i=>(if e.2 = true then i ((a.1,a.2.1,a.2.2.1,a.2.2.2.1,a.2.2.2.2.1,e.1)) else i (a)))))
def H7 (b:Aev) (c:Aev) (d:Int):Af Bool :=
 Bk (fun (e:Bool)=>some e) (fun a=>(Eb b).bind fun f =>
 (if f = true then (Eb c).bind fun g =>
 (if g = true then (if ((b.length:Int) == (c.length:Int)) = true then (Ca d 1 64).bind fun h =>
 a (h) else a (false)) else a (false)) else a (false)))
def Ef (a:(Int × Int)) (b:(Int × Int)):Af Int :=
 some (Ae ((Ae ((Ae (a.1 - b.1)) * (Ae (a.1 - b.1)))) + (Ae ((Ae (a.2 - b.2)) * (Ae (a.2 - b.2))))))
def Es (a:Aev) (c:(Int × Int)) (d:Ae0) (e:(Ae0 → Int → Af Ae0)) (f:Int):Nat → (List Int) → Int → Af Ae0
 | 0,_,_=>none
 | m + 1,g,b=>(if (decide (b < (a.length:Int))) = true then (AK a b).bind fun h =>
 (Ef c h).bind fun i =>
 (Cl g [i]).bind fun j =>
 (Es a c d e f m) (j) ((Ae (b + 1))) else (Cl d [g]).bind fun k =>
 e (k) ((Ae (f + 1))))
def DG (a:Aev) (c:Aev):Nat → Ae0 → Int → Af Ae0
 | 0,_,_=>none
 | m + 1,d,b=>(if (decide (b < (a.length:Int))) = true then (AK a b).bind fun e =>
 Es c e d (DG a c m) b FU ([]) (0) else some d)
def IG (a:Aev) (b:Aev):Af Ae0 :=
 DG a b FU ([]) (0)
def Le (a:Int):Af Int :=
 some (B3 .i64 (Ae (Bh ((Bh ((Bh ((B3 .u64 (Bh ((Br .u64 (Bh ((B3 .u64 (Br .u64 (Bh ((B3 .u64 (Br .u64 a 1) 6148914691236517205) + (B3 .u64 a 6148914691236517205))) 2) 3689348814741910323) + (B3 .u64 (Bh ((B3 .u64 (Br .u64 a 1) 6148914691236517205) + (B3 .u64 a 6148914691236517205))) 3689348814741910323))) 4) + (Bh ((B3 .u64 (Br .u64 (Bh ((B3 .u64 (Br .u64 a 1) 6148914691236517205) + (B3 .u64 a 6148914691236517205))) 2) 3689348814741910323) + (B3 .u64 (Bh ((B3 .u64 (Br .u64 a 1) 6148914691236517205) + (B3 .u64 a 6148914691236517205))) 3689348814741910323))))) 1085102592571150095) + (Br .u64 (B3 .u64 (Bh ((Br .u64 (Bh ((B3 .u64 (Br .u64 (Bh ((B3 .u64 (Br .u64 a 1) 6148914691236517205) + (B3 .u64 a 6148914691236517205))) 2) 3689348814741910323) + (B3 .u64 (Bh ((B3 .u64 (Br .u64 a 1) 6148914691236517205) + (B3 .u64 a 6148914691236517205))) 3689348814741910323))) 4) + (Bh ((B3 .u64 (Br .u64 (Bh ((B3 .u64 (Br .u64 a 1) 6148914691236517205) + (B3 .u64 a 6148914691236517205))) 2) 3689348814741910323) + (B3 .u64 (Bh ((B3 .u64 (Br .u64 a 1) 6148914691236517205) + (B3 .u64 a 6148914691236517205))) 3689348814741910323))))) 1085102592571150095) 8))) + (Br .u64 (Bh ((B3 .u64 (Bh ((Br .u64 (Bh ((B3 .u64 (Br .u64 (Bh ((B3 .u64 (Br .u64 a 1) 6148914691236517205) + (B3 .u64 a 6148914691236517205))) 2) 3689348814741910323) + (B3 .u64 (Bh ((B3 .u64 (Br .u64 a 1) 6148914691236517205) + (B3 .u64 a 6148914691236517205))) 3689348814741910323))) 4) + (Bh ((B3 .u64 (Br .u64 (Bh ((B3 .u64 (Br .u64 a 1) 6148914691236517205) + (B3 .u64 a 6148914691236517205))) 2) 3689348814741910323) + (B3 .u64 (Bh ((B3 .u64 (Br .u64 a 1) 6148914691236517205) + (B3 .u64 a 6148914691236517205))) 3689348814741910323))))) 1085102592571150095) + (Br .u64 (B3 .u64 (Bh ((Br .u64 (Bh ((B3 .u64 (Br .u64 (Bh ((B3 .u64 (Br .u64 a 1) 6148914691236517205) + (B3 .u64 a 6148914691236517205))) 2) 3689348814741910323) + (B3 .u64 (Bh ((B3 .u64 (Br .u64 a 1) 6148914691236517205) + (B3 .u64 a 6148914691236517205))) 3689348814741910323))) 4) + (Bh ((B3 .u64 (Br .u64 (Bh ((B3 .u64 (Br .u64 a 1) 6148914691236517205) + (B3 .u64 a 6148914691236517205))) 2) 3689348814741910323) + (B3 .u64 (Bh ((B3 .u64 (Br .u64 a 1) 6148914691236517205) + (B3 .u64 a 6148914691236517205))) 3689348814741910323))))) 1085102592571150095) 8))) 16))) + (Br .u64 (Bh ((Bh ((B3 .u64 (Bh ((Br .u64 (Bh ((B3 .u64 (Br .u64 (Bh ((B3 .u64 (Br .u64 a 1) 6148914691236517205) + (B3 .u64 a 6148914691236517205))) 2) 3689348814741910323) + (B3 .u64 (Bh ((B3 .u64 (Br .u64 a 1) 6148914691236517205) + (B3 .u64 a 6148914691236517205))) 3689348814741910323))) 4) + (Bh ((B3 .u64 (Br .u64 (Bh ((B3 .u64 (Br .u64 a 1) 6148914691236517205) + (B3 .u64 a 6148914691236517205))) 2) 3689348814741910323) + (B3 .u64 (Bh ((B3 .u64 (Br .u64 a 1) 6148914691236517205) + (B3 .u64 a 6148914691236517205))) 3689348814741910323))))) 1085102592571150095) + (Br .u64 (B3 .u64 (Bh ((Br .u64 (Bh ((B3 .u64 (Br .u64 (Bh ((B3 .u64 (Br .u64 a 1) 6148914691236517205) + (B3 .u64 a 6148914691236517205))) 2) 3689348814741910323) + (B3 .u64 (Bh ((B3 .u64 (Br .u64 a 1) 6148914691236517205) + (B3 .u64 a 6148914691236517205))) 3689348814741910323))) 4) + (Bh ((B3 .u64 (Br .u64 (Bh ((B3 .u64 (Br .u64 a 1) 6148914691236517205) + (B3 .u64 a 6148914691236517205))) 2) 3689348814741910323) + (B3 .u64 (Bh ((B3 .u64 (Br .u64 a 1) 6148914691236517205) + (B3 .u64 a 6148914691236517205))) 3689348814741910323))))) 1085102592571150095) 8))) + (Br .u64 (Bh ((B3 .u64 (Bh ((Br .u64 (Bh ((B3 .u64 (Br .u64 (Bh ((B3 .u64 (Br .u64 a 1) 6148914691236517205) + (B3 .u64 a 6148914691236517205))) 2) 3689348814741910323) + (B3 .u64 (Bh ((B3 .u64 (Br .u64 a 1) 6148914691236517205) + (B3 .u64 a 6148914691236517205))) 3689348814741910323))) 4) + (Bh ((B3 .u64 (Br .u64 (Bh ((B3 .u64 (Br .u64 a 1) 6148914691236517205) + (B3 .u64 a 6148914691236517205))) 2) 3689348814741910323) + (B3 .u64 (Bh ((B3 .u64 (Br .u64 a 1) 6148914691236517205) + (B3 .u64 a 6148914691236517205))) 3689348814741910323))))) 1085102592571150095) + (Br .u64 (B3 .u64 (Bh ((Br .u64 (Bh ((B3 .u64 (Br .u64 (Bh ((B3 .u64 (Br .u64 a 1) 6148914691236517205) + (B3 .u64 a 6148914691236517205))) 2) 3689348814741910323) + (B3 .u64 (Bh ((B3 .u64 (Br .u64 a 1) 6148914691236517205) + (B3 .u64 a 6148914691236517205))) 3689348814741910323))) 4) + (Bh ((B3 .u64 (Br .u64 (Bh ((B3 .u64 (Br .u64 a 1) 6148914691236517205) + (B3 .u64 a 6148914691236517205))) 2) 3689348814741910323) + (B3 .u64 (Bh ((B3 .u64 (Br .u64 a 1) 6148914691236517205) + (B3 .u64 a 6148914691236517205))) 3689348814741910323))))) 1085102592571150095) 8))) 16))) 32)))) 127)
def H9 (a:Int):Af Int :=
 (Le a).bind fun b =>
 some b
def DI (d:Ae0) (a:Int) (e:Int) (f:((List Int) → Int → Af (List Int))):Nat → (List Int) → Int → Af (List Int)
 | 0,_,_=>none
 | m + 1,b,c=>(if (decide (c < (d.length:Int))) = true then Bk (fun (h:(List Int))=>(DI d a e f m) (h) ((Ae (c + 1)))) (fun g=>(if (decide (0 ≤ c)) = true then (if ((B3 .i64 (Br .i64 a c) 1) == 0) = true then (AK b a).bind fun i =>
 (AK d e).bind fun j =>
 (AK j c).bind fun k =>
 (AK b (Tl .i64 a (KD .i64 1 c))).bind fun l =>
 (AK b a).bind fun n =>
 g ((BC b a (Fn i (Ae (k + l))))) else g (b)) else none)) else f (b) ((Ae (a - 1))))
def Ev (c:Ae0):Nat → (List Int) → Int → Af (List Int)
 | 0,_,_=>none
 | m + 1,b,a=>(if (decide (0 ≤ a)) = true then (H9 (Bh a)).bind fun d =>
 (AK b a).bind fun e =>
 DI c a d (Ev c m) FU ((BC b a 13194139533312)) (0) else some b)
def IJ (a:Ae0):Af (List Int) :=
 (if (decide (0 ≤ (a.length:Int))) = true then (RY (KD .i64 1 (a.length:Int)) 0).bind fun b =>
 Ev a FU (b) ((Ae ((KD .i64 1 (a.length:Int)) - 2))) else none)
def Dw (c:Ae0) (d:(List Int)) (e:(Int → (List Int) → Af (List Int))) (b:Int) (g:Int) (f:(List Int)):Nat → Int → Af (List Int)
 | 0,_=>none
 | m + 1,a=>(if (decide (a < (c.length:Int))) = true then Bk (fun (i:Bool)=>(if i = true then (Cl d [a]).bind fun j =>
 (if (decide (0 ≤ a)) = true then e ((Tl .i64 b (KD .i64 1 a))) (j) else none) else (Dw c d e b g f m) ((Ae (a + 1))))) (fun h=>(if (decide (0 ≤ a)) = true then (if ((B3 .i64 (Br .i64 b a) 1) == 0) = true then (AK c g).bind fun k =>
 (AK k a).bind fun l =>
 (AK f b).bind fun n =>
 (AK f (Tl .i64 b (KD .i64 1 a))).bind fun o =>
 h (((Ae (l + o)) == n)) else h (false)) else none)) else e (b) (d))
def Dx (a:Ae0) (c:(List Int)):Nat → Int → (List Int) → Int → Af (List Int)
 | 0,_,_,_=>none
 | m + 1,e,d,b=>(if (decide (b < (a.length:Int))) = true then Gr (fun (f:Int) (g:(List Int))=>(Dx a c m) (f) (g) ((Ae (b + 1)))) (fun h=>Dw a d h e b c FU (0)) else some d)
def GZ (a:Ae0):Af (List Int) :=
 (IJ a).bind fun b =>
 Dx a b FU (0) ([]) (0)
def Ft (a:(List Int)):Af (List Int) :=
 (Cl [] a).bind fun b =>
 some b
def EI (a:Aev) (b:Aev) (c:Int) (d:(List Int)):Af (Aev × Aev × Int × (List Int)) :=
 (Cl [] a).bind fun e =>
 (Cl [] b).bind fun f =>
 (Ft d).bind fun g =>
 some (e,f,c,g)
def Gw (a:Aev) (b:Aev) (c:Int):Af ((Aev × Aev × Int × (List Int)) × Bool) :=
 (H7 a b c).bind fun d =>
 (if (!d) = true then some (([],[],0,[]),false) else (IG a b).bind fun e =>
 (GZ e).bind fun f =>
 (EI a b c f).bind fun g =>
 some (g,true))
def Eh (b:(List Int)) (c:Int):Nat → Int → Int → Af Bool
 | 0,_,_=>none
 | m + 1,e,d=>(if (decide (d < (b.length:Int))) = true then (AK b d).bind fun a =>
 Bk (fun (g:Bool)=>(if g = true then some false else (if (decide (0 ≤ a)) = true then (Eh b c m) ((Tl .i64 e (KD .i64 1 a))) ((Ae (d + 1))) else none))) (fun f=>(Ca a 0 (Ae (c - 1))).bind fun h =>
 (if (!h) = true then f (true) else (if (decide (0 ≤ a)) = true then f (((B3 .i64 (Br .i64 e a) 1) == 1)) else none))) else some ((b.length:Int) == c))
def Im (a:(List Int)) (b:Int):Af Bool :=
 Eh a b FU (0) (0)
def Fp (a:(Aev × Aev × Int × (List Int))):Af Bool :=
 Bk (fun (c:Bool)=>some c) (fun b=>(Eb a.1).bind fun d =>
 (if d = true then (Eb a.2.1).bind fun e =>
 (if e = true then (if ((a.1.length:Int) == (a.2.1.length:Int)) = true then (Ca a.2.2.1 1 64).bind fun f =>
 (if f = true then (Im a.2.2.2 (a.1.length:Int)).bind fun g =>
 b (g) else b (false)) else b (false)) else b (false)) else b (false)))
def Et (a:(Aev × Aev × Int × (List Int))):Nat → Int → Int → Af Int
 | 0,_,_=>none
 | m + 1,c,b=>(if (decide (b < (a.2.2.2.length:Int))) = true then (AK a.2.2.2 b).bind fun d =>
 (AK a.1 b).bind fun e =>
 (AK a.2.1 d).bind fun f =>
 (Ef e f).bind fun g =>
 (Et a m) ((Ae (c + g))) ((Ae (b + 1))) else some c)
def IH (a:(Aev × Aev × Int × (List Int))):Af Int :=
 Et a FU (0) (0)
def H8 (a:(Aev × Aev × Int × (List Int))):Af (Int × Bool) :=
 (Fp a).bind fun b =>
 (if (!b) = true then some (0,false) else (IH a).bind fun c =>
 some (c,true))
def Fr (a:Int) (b:Bool):Af (List Aj) :=
 (if b = true then (CY a).bind fun c =>
 some c else some ([110,111]))
def Dg (a:Aev) (c:Aev) (d:Int):Nat → (List Int) → Int → Af ((Aev × Aev × Int × (List Int)) × Bool)
 | 0,_,_=>none
 | m + 1,e,b=>(if (decide (b < (a.length:Int))) = true then (Cl e [b]).bind fun f =>
 (Dg a c d m) (f) ((Ae (b + 1))) else (EI a c d e).bind fun g =>
 some (g,true))
def ER (a:Aev) (b:Aev) (c:Int):Af ((Aev × Aev × Int × (List Int)) × Bool) :=
 (H7 a b c).bind fun d =>
 (if (!d) = true then some (([],[],0,[]),false) else Dg a b c FU ([]) (0))
def I5 (a:Int):Af Bool :=
 (Ca a 0 80).bind fun b =>
 some b
def Fk (a:(Aev × Aev × Int × (List Int))):Nat → (List Aex) → Int → Af (List Aex)
 | 0,_,_=>none
 | m + 1,c,b=>(if (decide (b < (a.2.2.2.length:Int))) = true then (AK a.2.2.2 b).bind fun d =>
 (AK a.1 b).bind fun e =>
 (AK a.2.1 d).bind fun f =>
 (Cl c [(e,f,a.2.2.1)]).bind fun g =>
 (Fk a m) (g) ((Ae (b + 1))) else some c)
def H6 (a:(Aev × Aev × Int × (List Int))):Af (List Aex) :=
 Fk a FU ([]) (0)
def Lp (a:Aex) (b:Aex):Af ((Int × Int) × (Int × Int) × Int × Int) :=
 some (((Ae (a.1.1 - b.1.1)),(Ae (a.1.2 - b.1.2))),((Ae ((Ae (a.2.1.1 - b.2.1.1)) - (Ae (a.1.1 - b.1.1)))),(Ae ((Ae (a.2.1.2 - b.2.1.2)) - (Ae (a.1.2 - b.1.2))))),(Ae ((Ae ((Ae (a.1.1 - b.1.1)) * (Ae ((Ae (a.2.1.1 - b.2.1.1)) - (Ae (a.1.1 - b.1.1)))))) + (Ae ((Ae (a.1.2 - b.1.2)) * (Ae ((Ae (a.2.1.2 - b.2.1.2)) - (Ae (a.1.2 - b.1.2)))))))),(Ae ((Ae ((Ae ((Ae (a.2.1.1 - b.2.1.1)) - (Ae (a.1.1 - b.1.1)))) * (Ae ((Ae (a.2.1.1 - b.2.1.1)) - (Ae (a.1.1 - b.1.1)))))) + (Ae ((Ae ((Ae (a.2.1.2 - b.2.1.2)) - (Ae (a.1.2 - b.1.2)))) * (Ae ((Ae (a.2.1.2 - b.2.1.2)) - (Ae (a.1.2 - b.1.2)))))))))
def Ha  : Nat → Int → Int → Af Int
 | 0,_,_=>none
 | m + 1,b,a=>(if (a != 0) = true then (if a = 0 then none else (Ha m) (a) ((Int.tmod b a))) else some b)
def Mr (a:Int) (b:Int):Af Int :=
 Ha FU ((Fy a (Ae (0 - a)))) ((Fy b (Ae (0 - b))))
def FH (b:Int) (c:Int):Af (Int × Int) :=
 (Mr b c).bind fun a =>
 (if a = 0 then none else (if a = 0 then none else some ((Ae (Int.tdiv b a)),(Ae (Int.tdiv c a)))))
def Il (b:Aex) (c:Aex):Af (Int × Int) :=
 (Lp b c).bind fun a =>
 (if (decide (0 ≤ a.2.2.1)) = true then some ((Ae ((Ae (a.1.1 * a.1.1)) + (Ae (a.1.2 * a.1.2)))),1) else (if (decide (a.2.2.2 ≤ (Ae (0 - a.2.2.1)))) = true then (Ef b.2.1 c.2.1).bind fun d =>
 some (d,1) else (FH (Ae ((Ae ((Ae (a.1.1 * a.2.1.2)) - (Ae (a.1.2 * a.2.1.1)))) * (Ae ((Ae (a.1.1 * a.2.1.2)) - (Ae (a.1.2 * a.2.1.1)))))) a.2.2.2).bind fun e =>
 some e))
def IF (c:Aex) (d:Aex) (a:Int):Af Bool :=
 (Il c d).bind fun b =>
 some (decide ((Ae ((Ae (a * a)) * b.2)) ≤ b.1))
def Dy (u8:(List Aex)) (a:Int) (d:Int) (e:(Ae0 → Int → Af Ae0)):Nat → Ae0 → Int → Af Ae0
 | 0,_,_=>none
 | m + 1,c,b=>(if (decide (b < (u8.length:Int))) = true then Bk (fun (g:Ae0)=>(Dy u8 a d e m) (g) ((Ae (b + 1)))) (fun f=>(AK u8 a).bind fun h =>
 (AK u8 b).bind fun i =>
 (IF h i d).bind fun j =>
 (if (!j) = true then (Cl c [[a,b]]).bind fun k =>
 f (k) else f (c))) else e (c) ((Ae (a + 1))))
def Dz (u8:(List Aex)) (b:Int):Nat → Ae0 → Int → Af Ae0
 | 0,_,_=>none
 | m + 1,c,a=>(if (decide (a < (u8.length:Int))) = true then Dy u8 a b (Dz u8 b m) FU (c) ((Ae (a + 1))) else some c)
def Hc (a:(Aev × Aev × Int × (List Int))) (b:Int):Af Ae0 :=
 (H6 a).bind fun u8 =>
 Dz u8 b FU ([]) (0)
def Hd (a:(Aev × Aev × Int × (List Int))) (b:Int):Af (Ae0 × Bool) :=
 Bk (fun (d:Bool)=>(if d = true then some ([],false) else (Hc a b).bind fun e =>
 some (e,true))) (fun c=>(Fp a).bind fun f =>
 (if (!f) = true then c (true) else (I5 b).bind fun g =>
 c ((!g))))
def CD (a:(Ae0 × Bool)):Nat → (List (List Aj)) → Int → Af (List Aj)
 | 0,_,_=>none
 | m + 1,c,b=>(if (decide (b < (a.1.length:Int))) = true then Bk (fun (e:(List (List Aj)))=>(CD a m) (e) ((Ae (b + 1)))) (fun f=>(AK a.1 b).bind fun d =>
 (AK d 0).bind fun g =>
 (AK d 1).bind fun h =>
 (CY g).bind fun i =>
 (Cl i [45]).bind fun j =>
 (CY h).bind fun k =>
 (Cl j k).bind fun l =>
 (Cl c [l]).bind fun n =>
 f (n)) else (I0 c [32]).bind fun o =>
 some o)
def GN (b:(Aev × Aev × Int × Aev × Aew × Aey)) (d:Int):Af (List Aj) :=
 Wz (fun (e:Aev) (f:Aev) (g:Int) (h:(List Int))=>(Hd (e,f,g,h) d).bind fun c =>
 (if (!c.2) = true then some ([110,111]) else (if ((c.1.length:Int) == 0) = true then some ([110,111,110,101]) else CD c FU ([]) (0)))) (fun i=>(ER b.2.1 b.1 b.2.2.1).bind fun a =>
 i (a.1.1) (a.1.2.1) (a.1.2.2.1) (a.1.2.2.2))
def J9 (a:(Aev × Aev × Int × (List Int))):Af Bool :=
 Bk (fun (c:Bool)=>some c) (fun b=>(Fp a).bind fun d =>
 (if d = true then (if (decide (a.2.2.1 ≤ 16)) = true then b ((decide ((a.1.length:Int) ≤ 6))) else b (false)) else b (false)))
def FR (a:Aex) (b:Int):Af (Int × Int) :=
 some ((Ae ((Ae (a.1.1 * a.2.2)) + (Ae (b * (Ae (a.2.1.1 - a.1.1)))))),(Ae ((Ae (a.1.2 * a.2.2)) + (Ae (b * (Ae (a.2.1.2 - a.1.2)))))))
def Gj (a:Aex) (b:Int) (c:Int):Af (Int × Int) :=
 (FR a (Fn (Fy (Ae (c - b)) 0) a.2.2)).bind fun u8 =>
 some u8
def JW (a:Int) (b:Int):Af (Int × Int) :=
 some ((Bh ((Bh ((Bh ((Br .u64 a 32) * (Br .u64 b 32))) + (Br .u64 (Bh ((Bh ((Br .u64 a 32) * (B3 .u64 b 4294967295))) + (Br .u64 (Bh ((B3 .u64 a 4294967295) * (B3 .u64 b 4294967295))) 32))) 32))) + (Br .u64 (Bh ((B3 .u64 (Bh ((Bh ((Br .u64 a 32) * (B3 .u64 b 4294967295))) + (Br .u64 (Bh ((B3 .u64 a 4294967295) * (B3 .u64 b 4294967295))) 32))) 4294967295) + (Bh ((B3 .u64 a 4294967295) * (Br .u64 b 32))))) 32))),(Bh (a * b)))
def Fo (d:Int) (e:Int) (f:Int) (g:Int):Af Bool :=
 (JW (Bh d) (Bh g)).bind fun a =>
 (JW (Bh f) (Bh e)).bind fun b =>
 Bk (fun (h:Bool)=>some h) (fun c=>(if (decide (a.1 < b.1)) = true then c (true) else (if (a.1 == b.1) = true then c ((decide (a.2 < b.2))) else c (false))))
def C0 (e:Aex) (g:Int) (h:Int) (k:Aex):Nat → Int → Int → Int → Int → Int → Af (Int × Int)
 | 0,_,_,_,_,_=>none
 | m + 1,c,d,i,j,f=>(if (decide (f ≤ (Ae (e.2.2 + (Fy g h))))) = true then (Gj e g f).bind fun a =>
 (Gj k h f).bind fun b =>
 Gr (fun (l:Int) (n:Int)=>Gr (fun (s:Int) (t:Int)=>(C0 e g h k m) ((Ae (a.1 - b.1))) ((Ae (a.2 - b.2))) (s) (t) ((Ae (f + 1)))) (fun o=>(Fo l n i j).bind fun u =>
 (if u = true then o (l) (n) else o (i) (j)))) (fun p=>Bk (fun (v:Bool)=>(if v = true then p ((Ae ((Ae ((Ae (c * (Ae ((Ae (a.2 - b.2)) - d)))) - (Ae (d * (Ae ((Ae (a.1 - b.1)) - c)))))) * (Ae ((Ae (c * (Ae ((Ae (a.2 - b.2)) - d)))) - (Ae (d * (Ae ((Ae (a.1 - b.1)) - c))))))))) ((Ae ((Ae ((Ae ((Ae (a.1 - b.1)) - c)) * (Ae ((Ae (a.1 - b.1)) - c)))) + (Ae ((Ae ((Ae (a.2 - b.2)) - d)) * (Ae ((Ae (a.2 - b.2)) - d))))))) else p ((Ae ((Ae ((Ae (a.1 - b.1)) * (Ae (a.1 - b.1)))) + (Ae ((Ae (a.2 - b.2)) * (Ae (a.2 - b.2))))))) (1))) (fun q=>(if (decide ((Ae ((Ae (c * (Ae ((Ae (a.1 - b.1)) - c)))) + (Ae (d * (Ae ((Ae (a.2 - b.2)) - d)))))) < 0)) = true then q ((decide ((Ae (0 - (Ae ((Ae (c * (Ae ((Ae (a.1 - b.1)) - c)))) + (Ae (d * (Ae ((Ae (a.2 - b.2)) - d)))))))) < (Ae ((Ae ((Ae ((Ae (a.1 - b.1)) - c)) * (Ae ((Ae (a.1 - b.1)) - c)))) + (Ae ((Ae ((Ae (a.2 - b.2)) - d)) * (Ae ((Ae (a.2 - b.2)) - d))))))))) else q (false)))) else (FH i j).bind fun r =>
 (FH r.1 (Ae ((Ae (r.2 * e.2.2)) * e.2.2))).bind fun w =>
 some w)
def Gl (c:Aex) (d:Aex) (e:Int) (f:Int):Af (Int × Int) :=
 (FR c 0).bind fun a =>
 (FR d 0).bind fun b =>
 C0 c e f d FU ((Ae (a.1 - b.1))) ((Ae (a.2 - b.2))) ((Ae ((Ae ((Ae (a.1 - b.1)) * (Ae (a.1 - b.1)))) + (Ae ((Ae (a.2 - b.2)) * (Ae (a.2 - b.2))))))) (1) (1)
def Gm (c:Aex) (d:Aex) (e:Int) (f:Int) (a:Int):Af Bool :=
 (Gl c d e f).bind fun b =>
 some (decide (b.1 < (Ae ((Ae (a * a)) * b.2))))
def D8 (u8:(List Aex)) (a:Int) (c:(List Int)) (e:Int) (f:(Ae0 → Int → Af Ae0)):Nat → Ae0 → Int → Af Ae0
 | 0,_,_=>none
 | m + 1,d,b=>(if (decide (b < (u8.length:Int))) = true then Bk (fun (h:Ae0)=>(D8 u8 a c e f m) (h) ((Ae (b + 1)))) (fun g=>(AK u8 a).bind fun i =>
 (AK u8 b).bind fun j =>
 (AK c a).bind fun k =>
 (AK c b).bind fun l =>
 (Gm i j k l e).bind fun n =>
 (if n = true then (Cl d [[a,b]]).bind fun o =>
 g (o) else g (d))) else f (d) ((Ae (a + 1))))
def D9 (u8:(List Aex)) (b:(List Int)) (c:Int):Nat → Ae0 → Int → Af Ae0
 | 0,_,_=>none
 | m + 1,d,a=>(if (decide (a < (u8.length:Int))) = true then D8 u8 a b c (D9 u8 b c m) FU (d) ((Ae (a + 1))) else some d)
def Hy (a:(Aev × Aev × Int × (List Int))) (b:(List Int)) (c:Int):Af Ae0 :=
 (H6 a).bind fun u8 =>
 D9 u8 b c FU ([]) (0)
def Gk (a:(Aev × Aev × Int × (List Int))) (b:Int):Af Bool :=
 (RY (a.1.length:Int) 0).bind fun c =>
 (Hy a c b).bind fun d =>
 some ((d.length:Int) == 0)
def Ij (b:(Aev × Aev × Int × (List Int))) (c:Int) (d:Int):Af (Aev × Aev × Int × (List Int)) :=
 (EI b.1 b.2.1 b.2.2.1 b.2.2.2).bind fun a =>
 Bk (fun (f:(List Int))=>some (a.1,a.2.1,a.2.2.1,f)) (fun g=>(AK a.2.2.2 d).bind fun e =>
 (AK a.2.2.2 c).bind fun h =>
 (AK a.2.2.2 c).bind fun i =>
 (AK (BC a.2.2.2 c e) d).bind fun j =>
 g ((BC (BC a.2.2.2 c e) d h)))
def Eg (c:(Aev × Aev × Int × (List Int))) (a:Int) (d:Int) (e:(Int → Af (Int × Int × Bool))):Nat → Int → Af (Int × Int × Bool)
 | 0,_=>none
 | m + 1,b=>(if (decide (b < (c.1.length:Int))) = true then (Ij c a b).bind fun f =>
 (Gk f d).bind fun g =>
 (if g = true then some (a,b,true) else (Eg c a d e m) ((Ae (b + 1)))) else e ((Ae (a + 1))))
def Dm (a:(Aev × Aev × Int × (List Int))) (c:Int):Nat → Int → Af (Int × Int × Bool)
 | 0,_=>none
 | m + 1,b=>(if (decide (b < (a.1.length:Int))) = true then Eg a b c (Dm a c m) FU ((Ae (b + 1))) else some (0,0,false))
def Ik (a:(Aev × Aev × Int × (List Int))) (b:Int):Af (Int × Int × Bool) :=
 Dm a b FU (0)
def CI (a:(List Int)) (b:Int) (rec:(Aez → (List Int) → Int → Af Aez)) (g:Int) (e:(Aez → Af Aez)):Nat → Aez → Bool → Int → Af Aez
 | 0,_,_,_=>none
 | m + 1,d,h,c=>(if (decide (c < (a.length:Int))) = true then Gr (fun (j:Aez) (k:Bool)=>(CI a b rec g e m) (j) (k) ((Ae (c + 1)))) (fun i=>(AK a c).bind fun f =>
 (if h = true then (if (decide (0 ≤ c) && decide (c < 6)) = true then (if (decide (0 ≤ (a.length:Int)) && decide ((a.length:Int) < 6)) = true then (if (decide (0 ≤ f) && decide (f < 5)) = true then (if (decide (0 ≤ b) && decide (b < 5)) = true then (d.1[c.toNat * 150 + (a.length:Int).toNat * 25 + f.toNat * 5 + b.toNat * 1]?).bind fun l =>
 i (d) ((!l)) else none) else none) else none) else none) else i (d) (false))) else (if h = true then (Ft a).bind fun n =>
 (Cl n [b]).bind fun o =>
 (rec d o (Ae (g + b))).bind fun p =>
 e (p) else e (d)))
def Cu (b:(List Int)) (rec:(Aez → (List Int) → Int → Af Aez)) (c:Int):Nat → Aez → Int → Af Aez
 | 0,_,_=>none
 | m + 1,d,a=>(if (decide (a ≤ 4)) = true then Bk (fun (e:Aez)=>(Cu b rec c m) (e) ((Ae (a + 1)))) (fun f=>CI b a rec c f FU (d) (true) (0)) else some d)
def EL (rec:Aez → (List Int) → Int → Af Aez) (b:Aez) (c:(List Int)) (d:Int):Af Aez :=
 Gr (fun (a:Aez) (g:Bool)=>(if g = true then some a else (if ((c.length:Int) == a.2.1) = true then (Ft c).bind fun e =>
 (if (List.isEmpty e) = true then none else some (a.1,a.2.1,e,d)) else Cu c rec d FU (a) (0)))) (fun f=>(if (!(List.isEmpty b.2.2.1)) = true then f (b) ((decide (b.2.2.2 ≤ d))) else f (b) (false)))
def Ck:Nat → Aez → (List Int) → Int → Af Aez
 | 0,_,_,_=>none
 | m + 1,a,b,c=>EL (Ck m) a b c
def Hb (a:Aez) (b:(List Int)) (c:Int):Af Aez :=
 Ck FU a b c
def DN (u8:(List Aex)) (c:Int) (d:Int) (a:Int) (f:Int) (g:(Aez → Int → Af Ae1)):Nat → Aez → Int → Af Ae1
 | 0,_,_=>none
 | m + 1,e,b=>(if (decide (b ≤ 4)) = true then Bk (fun (h:Aez)=>(DN u8 c d a f g m) (h) ((Ae (b + 1)))) (fun i=>(AK u8 c).bind fun j =>
 (AK u8 d).bind fun k =>
 (if (decide (0 ≤ c) && decide (c < 6)) = true then (if (decide (0 ≤ d) && decide (d < 6)) = true then (if (decide (0 ≤ a) && decide (a < 5)) = true then (Gm j k a b f).bind fun l =>
 (if (decide (0 ≤ b) && decide (b < 5)) = true then (NR e.1 (c.toNat * 150 + d.toNat * 25 + a.toNat * 5 + b.toNat * 1) l).bind fun n =>
 i ((n,e.2.1,e.2.2.1,e.2.2.2)) else none) else none) else none) else none)) else g (e) ((Ae (a + 1))))
def DO (u8:(List Aex)) (b:Int) (a:Int) (c:Int) (d:(Aez → Int → Af Ae1)):Nat → Aez → Int → Af Ae1
 | 0,_,_=>none
 | m + 1,e,f=>(if (decide (f ≤ 4)) = true then DN u8 b a f c (DO u8 b a c d m) FU (e) (0) else d (e) ((Ae (a + 1))))
def DP (u8:(List Aex)) (a:Int) (b:Int) (c:(Aez → Int → Af Ae1)):Nat → Aez → Int → Af Ae1
 | 0,_,_=>none
 | m + 1,d,e=>(if (decide (e < (u8.length:Int))) = true then DO u8 a e b (DP u8 a b c m) FU (d) (0) else c (d) ((Ae (a + 1))))
def DQ (u8:(List Aex)) (b:Int):Nat → Aez → Int → Af Ae1
 | 0,_,_=>none
 | m + 1,c,a=>(if (decide (a < (u8.length:Int))) = true then DP u8 a b (DQ u8 b m) FU (c) ((Ae (a + 1))) else (Hb c [] 0).bind fun d =>
 some (d.2.2.1,d.2.2.2))
def HJ (a:(Aev × Aev × Int × (List Int))) (b:Int):Af Ae1 :=
 (H6 a).bind fun u8 =>
 DQ u8 b FU (((List.replicate 900 false),(u8.length:Int),[],0)) (0)
def Io (a:(Aev × Aev × Int × (List Int))) (b:Int):Af (Int × Bool) :=
 Bk (fun (d:Bool)=>(if d = true then some (0,false) else (Gk a b).bind fun e =>
 (if e = true then some (0,true) else (Ik a b).bind fun f =>
 (if f.2.2 = true then some (1,true) else (HJ a b).bind fun g =>
 (if (!(List.isEmpty g.1)) = true then some (2,true) else some (3,true)))))) (fun c=>(J9 a).bind fun h =>
 (if (!h) = true then c (true) else (I5 b).bind fun i =>
 c ((!i))))
def Ds (a:Aev) (b:Int) (f:(Int → Int → Int → Af (Int × Int))):Nat → Int → Int → Int → Af (Int × Int)
 | 0,_,_,_=>none
 | m + 1,d,e,c=>(if (decide (c < (a.length:Int))) = true then Gr (fun (h:Int) (i:Int)=>(Ds a b f m) (h) (i) ((Ae (c + 1)))) (fun g=>(AK a b).bind fun j =>
 (AK a c).bind fun k =>
 (AK a d).bind fun l =>
 (AK a e).bind fun n =>
 (Ef j k).bind fun o =>
 (Ef l n).bind fun p =>
 (if (decide (o < p)) = true then g (b) (c) else g (d) (e))) else f (d) (e) ((Ae (b + 1))))
def DS (a:Aev):Nat → Int → Int → Int → Af (Int × Int)
 | 0,_,_,_=>none
 | m + 1,c,d,b=>(if (decide (b < (a.length:Int))) = true then Ds a b (DS a m) FU (c) (d) ((Ae (b + 1))) else some (c,d))
def HL (a:Aev):Af (Int × Int) :=
 DS a FU (0) (1) (0)
def EC (a:Aev):Af (Int × Bool) :=
 Bk (fun (d:Bool)=>(if d = true then some (0,false) else (HL a).bind fun b =>
 (AK a b.1).bind fun e =>
 (AK a b.2).bind fun f =>
 (Ef e f).bind fun g =>
 some (g,true))) (fun c=>(Eb a).bind fun h =>
 (if (!h) = true then c (true) else c ((decide ((a.length:Int) < 2)))))
def H5 (a:Int):Af (List Aj) :=
 (CY (Ae (Int.tdiv a 8))).bind fun b =>
 Bk (fun (d:(List Aj))=>some d) (fun c=>(if (decide (0 < (Int.tmod a 8))) = true then (CY (Int.tmod a 8)).bind fun e =>
 (Cl [43] e).bind fun f =>
 (Cl b f).bind fun g =>
 c (g) else c (b)))
def J1 (a:(Int × Int)):Af ((List Aj) × Bool) :=
 (Gy a).bind fun b =>
 (if (!b) = true then some ([],false) else (H5 a.1).bind fun c =>
 (Cl c [44]).bind fun d =>
 (H5 a.2).bind fun e =>
 (Cl d e).bind fun f =>
 some (f,true))
def DH (b:Int):Nat → Int → Af Int
 | 0,_=>none
 | m + 1,a=>(if (decide ((Ae ((Ae ((Ae (4800 * a)) * 4800)) * a)) < (Ae (1000000 * b)))) = true then (DH b m) ((Ae (a + 1))) else some a)
def Ke (a:(Int × Int)) (b:(Int × Int)):Af Int :=
 (Ef a b).bind fun c =>
 DH c FU (0)
def G7 (a:(Int × Int)) (b:(Int × Int)):Af (Int × Bool) :=
 Bk (fun (d:Bool)=>(if d = true then some (0,false) else (Ke a b).bind fun e =>
 some (e,true))) (fun c=>(Gy a).bind fun f =>
 (if (!f) = true then c (true) else (Gy b).bind fun g =>
 c ((!g))))
def EB (a:Aev):Nat → Int → Int → Af Int
 | 0,_,_=>none
 | m + 1,c,b=>(if (decide (b < (a.length:Int))) = true then (AK a b).bind fun d =>
 (EB a m) ((Ae (c + d.1))) ((Ae (b + 1))) else some c)
def J0 (a:Aev):Af Int :=
 EB a FU (0) (0)
def G6 (b:Aev):Nat → Int → Int → Int → Af Int
 | 0,_,_,_=>none
 | m + 1,c,d,e=>(if (decide (e < (b.length:Int))) = true then (AK b e).bind fun a =>
 (if (decide (c < a.1)) = true then (if a.2 = 0 then none else some (Ae (d + (Ae (Int.tdiv (Ae (60000 * c)) a.2))))) else (if a.2 = 0 then none else (G6 b m) ((Ae (c - a.1))) ((Ae (d + (Ae (Int.tdiv (Ae (60000 * a.1)) a.2))))) ((Ae (e + 1))))) else some d)
def Jl (a:Aev) (b:Int):Af Int :=
 G6 a FU (b) (0) (0)
def Ku (a:Aev) (b:Int):Af (Int × Bool) :=
 Bk (fun (d:Bool)=>(if d = true then some (0,false) else (Jl a b).bind fun e =>
 some (e,true))) (fun c=>(I6 a).bind fun f =>
 (if (!f) = true then c (true) else (J0 a).bind fun g =>
 (Ca b 0 g).bind fun h =>
 c ((!h))))
def Ew (b:Aew) (f:Int) (c:Int):Nat → Int → Af (Int × Bool)
 | 0,_=>none
 | m + 1,d=>(if (decide (d < (b.length:Int))) = true then (AK b d).bind fun a =>
 Bk (fun (g:Bool)=>(if g = true then some (a.1,true) else (Ew b f c m) ((Ae (d + 1))))) (fun e=>(if (a.2.1 == f) = true then (if (decide (a.2.2.1 ≤ c)) = true then e ((decide (c < a.2.2.2))) else e (false)) else e (false))) else some (0,false))
def IK (b:Aew) (c:Int) (d:Int):Af (Int × Bool) :=
 Bk (fun (e:Bool)=>(if e = true then some (0,false) else Ew b c d FU (0))) (fun a=>(FY b).bind fun f =>
 (if (!f) = true then a (true) else (Ca c 1 9).bind fun g =>
 (if (!g) = true then a (true) else (Ca d 0 999).bind fun u64 =>
 a ((!u64)))))
def DR (a:(List Int)) (b:Aey):Nat → Int → Af Bool
 | 0,_=>none
 | m + 1,c=>(if (decide (c < (a.length:Int))) = true then (AK a c).bind fun d =>
 (Ca d 0 (Ae ((b.length:Int) - 1))).bind fun e =>
 (if (!e) = true then some false else (DR a b m) ((Ae (c + 1)))) else (FI b).bind fun f =>
 some f)
def HK (a:Aey) (b:(List Int)):Af Bool :=
 DR b a FU (0)
def CS  : Nat → (List Int) → Int → Int → Af (List Int)
 | 0,_,_,_=>none
 | m + 1,a,b,c=>(if (decide (b < c)) = true then Bk (fun (e:(List Int))=>(CS m) (e) ((Ae (b + 1))) ((Ae (c - 1)))) (fun f=>(AK a c).bind fun d =>
 (AK a b).bind fun g =>
 (AK a b).bind fun h =>
 (AK (BC a b d) c).bind fun i =>
 f ((BC (BC a b d) c g))) else some a)
def Eo (a:(List Int)):Af (List Int) :=
 CS FU (a) (0) ((Ae ((a.length:Int) - 1)))
def E6 (b:Aey):Nat → Int → (List Int) → Af (List Int)
 | 0,_,_=>none
 | m + 1,a,c=>(if (decide (0 ≤ a)) = true then (Cl c [a]).bind fun d =>
 (AK b a).bind fun e =>
 (E6 b m) (e.1) (d) else (Eo c).bind fun f =>
 some f)
def Ld (a:Aey) (b:Int):Af (List Int) :=
 E6 a FU (b) ([])
def Dl (a:(List Int)) (b:Aey):Nat → (List Int) → Int → Af (List Int)
 | 0,_,_=>none
 | m + 1,c,d=>(if (decide (d < (a.length:Int))) = true then (AK a d).bind fun e =>
 (AK b e).bind fun f =>
 (AK b e).bind fun g =>
 (AK c f.2.1).bind fun h =>
 (Dl a b m) ((BC c f.2.1 g.2.2)) ((Ae (d + 1))) else some c)
def Fi (a:Aey) (b:Int):Nat → (List Int) → Int → Af (List Int)
 | 0,_,_=>none
 | m + 1,c,d=>(if (decide (d < 8)) = true then (Cl c [(-1)]).bind fun e =>
 (Fi a b m) (e) ((Ae (d + 1))) else (Ld a b).bind fun f =>
 Dl f a FU (c) (0))
def JR (a:Aey) (b:Int):Af (List Int) :=
 Fi a b FU ([]) (0)
def JV (a:Aey) (b:Int):Af ((List Int) × Bool) :=
 (HK a [b]).bind fun c =>
 (if (!c) = true then some ([],false) else (JR a b).bind fun d =>
 some (d,true))
def Cw (a:((List Int) × Bool)):Nat → (List (List Aj)) → Int → Af (List Aj)
 | 0,_,_=>none
 | m + 1,b,c=>(if (decide (c < (a.1.length:Int))) = true then Bk (fun (f:(List (List Aj)))=>(Cw a m) (f) ((Ae (c + 1)))) (fun d=>(AK a.1 c).bind fun e =>
 (if (decide (e < 0)) = true then (Cl b [[45]]).bind fun g =>
 d (g) else (CY e).bind fun h =>
 (Cl b [h]).bind fun i =>
 d (i))) else (I0 b [32]).bind fun j =>
 some j)
def Fx (b:(Aev × Aev × Int × Aev × Aew × Aey)) (c:Int):Af (List Aj) :=
 (JV b.2.2.2.2.2 c).bind fun a =>
 (if (!a.2) = true then some ([110,111]) else Cw a FU ([]) (0))
def Cb (a:(Aev × Aev × Int × Aev × Aew × Aey)) (c:(List Aj)) (b:(List Int)):Af (List Aj) :=
 (if (c == [115,117,109]) = true then Wz (fun (l:Aev) (m:Aev) (n:Int) (o:(List Int))=>(H8 (l,m,n,o)).bind fun f =>
 (Fr f.1 f.2).bind fun p =>
 some p) (fun q=>(Gw a.2.1 a.1 a.2.2.1).bind fun d =>
 q (d.1.1) (d.1.2.1) (d.1.2.2.1) (d.1.2.2.2)) else (if (c == [99,108,111,115,101]) = true then (AK b 0).bind fun r =>
 (GN a r).bind fun s =>
 some s else (if (c == [107,105,110,100]) = true then Wz (fun (t:Aev) (u:Aev) (v:Int) (w:(List Int))=>(AK b 0).bind fun x =>
 (Io (t,u,v,w) x).bind fun g =>
 (Fr g.1 g.2).bind fun y =>
 some y) (fun z=>(ER a.2.1 a.1 a.2.2.1).bind fun e =>
 z (e.1.1) (e.1.2.1) (e.1.2.2.1) (e.1.2.2.2)) else (if (c == [108,101,97,115,116]) = true then (EC a.1).bind fun h =>
 (Fr h.1 h.2).bind fun aa =>
 some aa else (if (c == [116,101,120,116]) = true then (AK b 0).bind fun ab =>
 (if (decide ((a.1.length:Int) ≤ ab)) = true then some ([110,111]) else (AK b 0).bind fun ac =>
 (AK a.1 ac).bind fun ad =>
 (J1 ad).bind fun ae =>
 some ae.1) else (if (c == [115,111,117,110,100]) = true then (AK b 0).bind fun af =>
 (AK b 1).bind fun ag =>
 (if (decide ((a.1.length:Int) ≤ (Fy af ag))) = true then some ([110,111]) else (AK b 0).bind fun ah =>
 (AK a.1 ah).bind fun ai =>
 (AK b 1).bind fun aj =>
 (AK a.1 aj).bind fun ak =>
 (G7 ai ak).bind fun i =>
 (Fr i.1 i.2).bind fun al =>
 some al) else (if (c == [116,105,109,101]) = true then (AK b 0).bind fun am =>
 (Ku a.2.2.2.1 am).bind fun j =>
 (Fr j.1 j.2).bind fun an =>
 some an else (if (c == [119,104,111]) = true then (AK b 0).bind fun ao =>
 (AK b 1).bind fun ap =>
 (IK a.2.2.2.2.1 ao ap).bind fun k =>
 (if (!k.2) = true then some ([110,111,110,101]) else (CY k.1).bind fun aq =>
 some aq) else (AK b 0).bind fun ar =>
 (Fx a ar).bind fun au =>
 some au))))))))
def BU (e:(List (List Aj))) (b:(Aev × Aev × Int × Aev × Aew × Aey)) (a:(List Aj)):Nat → (List Int) → Int → Af ((List Aj) × (Aev × Aev × Int × Aev × Aew × Aey))
 | 0,_,_=>none
 | m + 1,c,f=>(if (decide (f < (e.length:Int))) = true then (AK e f).bind fun l =>
 (JS l).bind fun g =>
 Bk (fun (n:Bool)=>(if n = true then some ([119,104,97,116],b) else (Cl c [g.1]).bind fun o =>
 (BU e b a m) (o) ((Ae (f + 1))))) (fun i=>(if (!g.2) = true then i (true) else i ((decide (99999 < g.1))))) else (Jz a).bind fun p =>
 (if ((c.length:Int) != p) = true then some ([119,104,97,116],b) else Bk (fun (q:Bool)=>(if q = true then (BK b a c).bind fun j =>
 some (j.1,j.2) else Bk (fun (r:Bool)=>(if r = true then (CG b a c).bind fun k =>
 some (k.1,k.2) else (Cb b a c).bind fun s =>
 some (s,b))) (fun h=>(if (a == [109,101,97,115,117,114,101]) = true then h ((a == [109,101,97,115,117,114,101])) else (if (a == [99,97,114,114,121]) = true then h ((a == [99,97,114,114,121])) else h ((a == [118,101,114,115,105,111,110]))))))) (fun d=>(if (a == [115,112,111,116]) = true then d ((a == [115,112,111,116])) else (if (a == [112,108,97,99,101]) = true then d ((a == [112,108,97,99,101])) else (if (a == [109,105,114,114,111,114]) = true then d ((a == [109,105,114,114,111,114])) else (if (a == [107,101,101,112]) = true then d ((a == [107,101,101,112])) else d ((a == [99,111,117,110,116,115])))))))))
def Dv (b:(Aev × Aev × Int × Aev × Aew × Aey)) (c:(List Aj)):Af ((List Aj) × (Aev × Aev × Int × Aev × Aew × Aey)) :=
 (Gd c [32]).bind fun a =>
 (AK a 0).bind fun d =>
 (sl a 1 (a.length:Int)).bind fun e =>
 BU e b d FU ([]) (0)
def Eu (a:((List (List Aj)) × Bool)):Nat → (Aev × Aev × Int × Aev × Aew × Aey) → (List (List Aj)) → Int → Af ((Bool × (Aev × Aev × Int × Aev × Aew × Aey)) × (List (List Aj)) × Bool)
 | 0,_,_,_=>none
 | m + 1,c,d,b=>(if (decide (b < (a.1.length:Int))) = true then (AK a.1 b).bind fun f =>
 (Dv c f).bind fun e =>
 (Cl d [e.1]).bind fun g =>
 (Eu a m) (e.2) (g) ((Ae (b + 1))) else some ((true,c),d,true))
def II (b:(List Aj)):Af ((Bool × (Aev × Aev × Int × Aev × Aew × Aey)) × (List (List Aj)) × Bool) :=
 (HI b).bind fun a =>
 (if (!a.2) = true then some ((false,([],[],0,[],[],[])),[],false) else (KM ).bind fun c =>
 Eu a FU (c) ([]) (0))
def GX (b:(List Aj)):Af (Aey × Bool) :=
 (Lb b).bind fun a =>
 (if (!a.2.2) = true then some ([],false) else some (a.1.2.2.2.2.2.1,true))
def FSx (b:(List Aj)):Af (Aey × Bool) :=
 (II b).bind fun a =>
 (if a.1.1 = true then (if (!a.2.2) = true then some ([],false) else some (a.1.2.2.2.2.2.2,true)) else (if (!a.2.2) = true then some ([],false) else none))
def IE (a:(Int × Int × Int)) (b:(Int × Int × Int)):Af Bool :=
 (if (a.1 != b.1) = true then some false else (if (a.2.1 != b.2.1) = true then some false else (if (a.2.2 != b.2.2) = true then some false else some true)))
def FQ (b:Aey) (c:Aey):Nat → Int → Af Bool
 | 0,_=>none
 | m + 1,a=>(if (decide (a < (b.length:Int))) = true then (AK b a).bind fun d =>
 (AK c a).bind fun e =>
 (IE d e).bind fun f =>
 (if (!f) = true then some false else (FQ b c m) ((Ae (a + 1)))) else some true)
def Ii (a:Aey) (b:Aey):Af Bool :=
 (if ((a.length:Int) != (b.length:Int)) = true then some false else FQ a b FU (0))
def D6  : Nat → Aey → Int → Int → Af (Int × Aey)
 | 0,_,_,_=>none
 | m + 1,c,b,a=>(if (decide (a < (c.length:Int))) = true then (AK c a).bind fun d =>
 (AK (BC c a (b,d.2.1,d.2.2)) a).bind fun e =>
 (AK (BC (BC c a (b,d.2.1,d.2.2)) a (e.1,(Ae (b + 1)),e.2.2)) a).bind fun f =>
 (D6 m) ((BC (BC (BC c a (b,d.2.1,d.2.2)) a (e.1,(Ae (b + 1)),e.2.2)) a (f.1,f.2.1,(Ae ((Ae (b + 1)) + 1))))) ((Ae ((Ae ((Ae (b + 1)) + 1)) + 1))) ((Ae (a + 1))) else some (b,c))
def IR (a:Aey) (b:Int):Af (Int × Aey) :=
 D6 FU (a) (b) (0)
def D7 (a:Aey):Nat → Int → Int → Af Int
 | 0,_,_=>none
 | m + 1,b,c=>(if (decide (c < (a.length:Int))) = true then (AK a c).bind fun d =>
 (if (d.1 != b) = true then some (-1) else (AK a c).bind fun e =>
 (if (e.2.1 != (Ae (b + 1))) = true then some (-1) else (AK a c).bind fun f =>
 (if (f.2.2 != (Ae ((Ae (b + 1)) + 1))) = true then some (-1) else (D7 a m) ((Ae ((Ae ((Ae (b + 1)) + 1)) + 1))) ((Ae (c + 1)))))) else some b)
def Hx (a:Aey) (b:Int):Af Int :=
 D7 a FU (b) (0)
def Gh (a:(List Aj)):Af Bool :=
 (if (decide (1048576 < (a.length:Int))) = true then some true else (GX a).bind fun b =>
 (FSx a).bind fun d =>
 Bk (fun (j:Bool)=>(if j = true then some false else (IR d.1 1).bind fun c =>
 (Hx c.2 1).bind fun e =>
 (if (decide (e < 0)) = true then some false else (if (e != c.1) = true then some false else (FSx a).bind fun f =>
 Bk (fun (k:Bool)=>(if k = true then some false else (Hx c.2 1).bind fun g =>
 (if (decide (g < 0)) = true then some false else (if (g != c.1) = true then some false else some true)))) (fun h=>(Ii f.1 b.1).bind fun l =>
 (if (!l) = true then h (true) else h ((f.2 != b.2)))))))) (fun i=>(Ii d.1 b.1).bind fun m =>
 (if (!m) = true then i (true) else i ((d.2 != b.2)))))
end Go.Proofs.YtellehgihceicaaGreatDoor
