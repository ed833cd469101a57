/-
 THE FUNCTIONS of this seat as plain functions, by program (gen.py).
-/
import Derived.Test.YtellehgihceicaaGreatDoorCore20
import Derived.Test.YtellehgihceicaaGreatDoorLibF
set_option linter.unusedVariables false
set_option linter.unusedSimpArgs false
set_option maxRecDepth 100000
set_option maxHeartbeats 1600000
namespace Go.Proofs.YtellehgihceicaaGreatDoor
open Go
def MG (x y:(Int × Int)):Bool:=(x.1 == y.1) && (x.2 == y.2)
def Lp  : Af (Ae4 × Ae4 × Int × Ae4 × Ae5 × Ae7 × (List Int) × (List Int) × Int) :=
 some ([(0,0)],[(0,0)],8,[(4,120)],[],[((-1),0,0)],[],[],0)
def Fg (a:(List Aj)) (e:Int):Nat → (List (List Aj)) → Int → Int → Af (List (List Aj))
 | 0,_,_,_=>none
 | m + 1,c,d,b=>(if (decide (b < (a.length:Int))) = true then FT (fun (g:(List (List Aj))) (h:Int)=>(Fg a e m) (g) (h) ((Ag (b + 1)))) (fun f=>(AL a b).bind fun i =>
 (if ((UInt8.toNat i:Int) == e) = true then (sl a d b).bind fun j =>
 (Cg c [j]).bind fun k =>
 f (k) ((Ag (b + 1))) else f (c) (d))) else (sl a d (a.length:Int)).bind fun l =>
 (Cg c [l]).bind fun n =>
 some n)
def FQ (a:(List Aj)) (b:Int):Af (List (List Aj)) :=
 Fg a b FU ([]) (0) (0)
def JM (a:(List Aj)):Af ((List (List Aj)) × Bool) :=
 Bj (fun (e:Bool)=>(if e = true then some ([],false) else (FQ a 10).bind fun c =>
 (sl c 0 (Ag ((c.length:Int) - 1))).bind fun d =>
 (if (decide (40 < (d.length:Int))) = true then some ([],false) else some (d,true)))) (fun b=>(if (decide (2000 < (a.length:Int))) = true then b (true) else (if (a != []) = true then (AL a (Ag ((a.length:Int) - 1))).bind fun f =>
 b (((UInt8.toNat f:Int) != 10)) else b (false))))
def GC (a:(List Aj)):Af Int :=
 Bj (fun (f:Bool)=>(if f = true then some 0 else Bj (fun (g:Bool)=>(if g = true then some 1 else Bj (fun (h:Bool)=>(if h = true then some 2 else Bj (fun (i:Bool)=>(if i = true then some 3 else (if (a == [99,97,114,114,121]) = true then some 4 else some (-1)))) (fun e=>(if (a == [112,108,97,99,101]) = true then e ((a == [112,108,97,99,101])) else e ((a == [118,101,114,115,105,111,110])))))) (fun c=>(if (a == [115,112,111,116]) = true then c ((a == [115,112,111,116])) else (if (a == [115,111,117,110,100]) = true then c ((a == [115,111,117,110,100])) else (if (a == [109,101,97,115,117,114,101]) = true then c ((a == [109,101,97,115,117,114,101])) else c ((a == [119,104,111])))))))) (fun b=>(if (a == [99,111,117,110,116,115]) = true then b ((a == [99,111,117,110,116,115])) else (if (a == [99,108,111,115,101]) = true then b ((a == [99,108,111,115,101])) else (if (a == [107,105,110,100]) = true then b ((a == [107,105,110,100])) else (if (a == [116,101,120,116]) = true then b ((a == [116,101,120,116])) else (if (a == [116,105,109,101]) = true then b ((a == [116,105,109,101])) else b ((a == [115,116,97,116,101])))))))))) (fun d=>(if (a == [109,105,114,114,111,114]) = true then d ((a == [109,105,114,114,111,114])) else (if (a == [107,101,101,112]) = true then d ((a == [107,101,101,112])) else (if (a == [115,117,109]) = true then d ((a == [115,117,109])) else d ((a == [108,101,97,115,116]))))))
def BR (a:Int) (c:Int) (d:Int):Af Bool :=
 Bj (fun (e:Bool)=>some e) (fun b=>(if (decide (c ≤ a)) = true then b ((decide (a ≤ d))) else b (false)))
def FH (a:(List Aj)):Nat → Int → Int → Af Int
 | 0,_,_=>none
 | m + 1,c,b=>(if (decide (b < (a.length:Int))) = true then Bj (fun (e:Bool)=>(if e = true then some (-1) else (AL a b).bind fun f =>
 (FH a m) ((Ag ((Ag (10 * c)) + (Ag (M1 ((UInt8.toNat f:Int) - 48)))))) ((Ag (b + 1))))) (fun d=>(AL a b).bind fun g =>
 (if (decide ((UInt8.toNat g:Int) < 48)) = true then d (true) else (AL a b).bind fun h =>
 d ((decide (57 < (UInt8.toNat h:Int)))))) else some c)
def Kq (a:(List Aj)):Af Int :=
 Bj (fun (c:Bool)=>(if c = true then some (-1) else FH a FU (0) (0))) (fun b=>(BR (a.length:Int) 1 6).bind fun d =>
 (if (!d) = true then b (true) else (AL a 0).bind fun e =>
 (if ((UInt8.toNat e:Int) == 48) = true then b ((decide (1 < (a.length:Int)))) else b (false))))
def Gr (a:Ae4):Af Ae4 :=
 (Cg [] a).bind fun b =>
 some b
def Ia (a:(Int × Int)):Af Bool :=
 Bj (fun (c:Bool)=>some c) (fun b=>(BR a.1 0 1280).bind fun d =>
 (if d = true then (BR a.2 0 672).bind fun e =>
 b (e) else b (false)))
def FI (a:Ae4) (c:(Int × Int)) (d:(Int → Af Bool)) (e:Int):Nat → Int → Af Bool
 | 0,_=>none
 | m + 1,b=>(if (decide (b < (a.length:Int))) = true then (AL a b).bind fun f =>
 (if (MG c f) = true then some false else (FI a c d e m) ((Ag (b + 1)))) else d ((Ag (e + 1))))
def Em (a:Ae4):Nat → Int → Af Bool
 | 0,_=>none
 | m + 1,b=>(if (decide (b < (a.length:Int))) = true then (AL a b).bind fun c =>
 (Ia c).bind fun d =>
 (if (!d) = true then some false else (sl a 0 b).bind fun e =>
 FI e c (Em a m) b FU (0)) else (BR (a.length:Int) 1 12).bind fun f =>
 some f)
def FN (a:Ae4):Af Bool :=
 Em a FU (0)
def EK (a:(Ae4 × Ae4 × Int × Ae4 × Ae5 × Ae7 × (List Int) × (List Int) × Int)) (d:Ae4) (b:Bool):Af (Bool × (Ae4 × Ae4 × Int × Ae4 × Ae5 × Ae7 × (List Int) × (List Int) × Int)) :=
 Bj (fun (e:(Ae4 × Ae4 × Int × Ae4 × Ae5 × Ae7 × (List Int) × (List Int) × Int))=>some (b,e)) (fun c=>(if b = true then c ((d,a.2.1,a.2.2.1,a.2.2.2.1,a.2.2.2.2.1,a.2.2.2.2.2.1,a.2.2.2.2.2.2.1,a.2.2.2.2.2.2.2.1,a.2.2.2.2.2.2.2.2)) else c (a)))
def Mv (a:Ae4) (c:Int):Af Bool :=
 Bj (fun (d:Bool)=>some d) (fun b=>(FN a).bind fun e =>
 (if e = true then (BR c 0 (Ag ((a.length:Int) - 1))).bind fun f =>
 b (f) else b (false)))
def Hj (a:Ae4):Af (Ae4 × Bool) :=
 (FN a).bind fun b =>
 (if (!b) = true then some ([],false) else some (a,true))
def GF (b:Ae4) (a:Int) (d:(Int × Int)):Af (Ae4 × Bool) :=
 (Mv b a).bind fun e =>
 (if (!e) = true then some ([],false) else (Gr b).bind fun c =>
 (AL c a).bind fun g =>
 (Hj (BE c a d)).bind fun f =>
 some f)
def KJ (a:(Int × Int)):Af (Int × Int) :=
 some ((Ag (1280 - a.1)),a.2)
def DM (a:Ae4):Nat → Ae4 → Int → Af (Ae4 × Bool)
 | 0,_,_=>none
 | m + 1,c,b=>(if (decide (b < (a.length:Int))) = true then (AL a b).bind fun d =>
 (KJ d).bind fun e =>
 (Cg c [e]).bind fun f =>
 (DM a m) (f) ((Ag (b + 1))) else some (c,true))
def HH (a:Ae4):Af (Ae4 × Bool) :=
 (FN a).bind fun b =>
 (if (!b) = true then some ([],false) else DM a FU ([]) (0))
def ID (a:(Int × Int)):Af Bool :=
 Bj (fun (c:Bool)=>some c) (fun b=>(BR a.1 1 12).bind fun d =>
 (if d = true then (BR a.2 40 220).bind fun e =>
 b (e) else b (false)))
def FG (a:Ae4):Nat → Int → Af Bool
 | 0,_=>none
 | m + 1,b=>(if (decide (b < (a.length:Int))) = true then (AL a b).bind fun c =>
 (ID c).bind fun d =>
 (if (!d) = true then some false else (FG a m) ((Ag (b + 1)))) else (BR (a.length:Int) 1 40).bind fun e =>
 some e)
def Jg (a:Ae4):Af Bool :=
 FG a FU (0)
def HV (a:(Int × Int × Int × Int)) (b:(Int × Int × Int × Int)):Af Bool :=
 Bj (fun (d:Bool)=>some d) (fun c=>(if (decide (a.2.2.1 < b.2.2.1)) = true then c (true) else (if (a.2.2.1 == b.2.2.1) = true then c ((decide (a.2.1 < b.2.1))) else c (false))))
def J0 (a:Int):Af Bool :=
 (BR a 1 12).bind fun b =>
 some b
def Jk (a:Int):Af Bool :=
 (BR a 1 9).bind fun b =>
 some b
def EM (c:Ae5) (a:(Int × Int × Int × Int)) (f:(Int → Af Bool)) (g:Int):Nat → Int → Af Bool
 | 0,_=>none
 | m + 1,d=>(if (decide (d < (c.length:Int))) = true then (AL c d).bind fun b =>
 Bj (fun (h:Bool)=>(if h = true then some false else (EM c a f g m) ((Ag (d + 1))))) (fun e=>(if (b.2.1 == a.2.1) = true then e ((decide (a.2.2.1 < b.2.2.2))) else (if (b.1 == a.1) = true then e ((decide (a.2.2.1 < b.2.2.2))) else e (false)))) else f ((Ag (g + 1))))
def Dv (b:Ae5):Nat → Int → Af Bool
 | 0,_=>none
 | m + 1,c=>(if (decide (c < (b.length:Int))) = true then (AL b c).bind fun a =>
 Bj (fun (e:Bool)=>(if e = true then some false else (sl b 0 c).bind fun f =>
 EM f a (Dv b m) c FU (0))) (fun d=>(J0 a.1).bind fun g =>
 (if (!g) = true then d (true) else (Jk a.2.1).bind fun h =>
 (if (!h) = true then d (true) else (BR a.2.2.1 0 999).bind fun i =>
 (if (!i) = true then d (true) else (BR a.2.2.2 (Ag (a.2.2.1 + 1)) 1000).bind fun j =>
 (if (!j) = true then d (true) else (if (decide (0 < c)) = true then (AL b (Ag (c - 1))).bind fun k =>
 (HV k a).bind fun l =>
 d ((!l)) else d (false))))))) else some (decide ((b.length:Int) ≤ 40)))
def Jl (a:Ae5):Af Bool :=
 Dv a FU (0)
def FJ (a:Ae5) (c:(Int × Int × Int × Int)) (d:(Ae5 → Af (Ae5 × Bool))):Nat → Int → Af (Ae5 × Bool)
 | 0,_=>none
 | m + 1,b=>Bj (fun (f:Bool)=>(if f = true then (FJ a c d m) ((Ag (b - 1))) else (sl a 0 b).bind fun u64 =>
 (sl a b (a.length:Int)).bind fun g =>
 (Cg [] u64).bind fun h =>
 (Cg h [c]).bind fun i =>
 (Cg i g).bind fun j =>
 d (j))) (fun e=>(if (decide (0 < b)) = true then (AL a (Ag (b - 1))).bind fun k =>
 (HV c k).bind fun l =>
 e (l) else e (false)))
def EL (b:Ae5):Nat → Ae5 → Int → Af (Ae5 × Bool)
 | 0,_,_=>none
 | m + 1,a,c=>(if (decide (c < (b.length:Int))) = true then Bj (fun (d:Ae5)=>(EL b m) (d) ((Ag (c + 1)))) (fun e=>(AL b c).bind fun f =>
 FJ a f e FU ((a.length:Int))) else (Jl a).bind fun g =>
 (if (!g) = true then some ([],false) else some (a,true)))
def Jj (a:Ae5):Af (Ae5 × Bool) :=
 EL a FU ([]) (0)
def FE (d:Ae7):Nat → Int → Af Bool
 | 0,_=>none
 | m + 1,c=>(if (decide (c < (d.length:Int))) = true then (AL d c).bind fun a =>
 Bj (fun (e:Bool)=>(if e = true then some false else (FE d m) ((Ag (c + 1))))) (fun b=>(BR a.1 0 (Ag (c - 1))).bind fun f =>
 (if (!f) = true then (if (decide (0 < c)) = true then b (true) else (if (a.1 != (-1)) = true then b (true) else (BR a.2.1 0 7).bind fun g =>
 (if (!g) = true then b (true) else (BR a.2.2 0 999).bind fun h =>
 b ((!h))))) else (BR a.2.1 0 7).bind fun i =>
 (if (!i) = true then b (true) else (BR a.2.2 0 999).bind fun j =>
 b ((!j))))) else (BR (d.length:Int) 1 60).bind fun k =>
 some k)
def HZ (a:Ae7):Af Bool :=
 FE a FU (0)
def Ih (a:Ae7) (d:(Int × Int × Int)):Af (Ae7 × Bool) :=
 Bj (fun (b:Ae7)=>Bj (fun (e:Bool)=>(if e = true then some ([],false) else some (b,true))) (fun c=>(HZ a).bind fun f =>
 (if (!f) = true then c (true) else (HZ b).bind fun g =>
 c ((!g))))) (fun h=>(Cg [] a).bind fun i =>
 (Cg i [d]).bind fun j =>
 h (j))
def C0 (a:(Ae4 × Ae4 × Int × Ae4 × Ae5 × Ae7 × (List Int) × (List Int) × Int)) (f:(List Aj)) (b:(List Int)):Af (Bool × (Ae4 × Ae4 × Int × Ae4 × Ae5 × Ae7 × (List Int) × (List Int) × Int)) :=
 FT (fun (s:(Ae4 × Ae4 × Int × Ae4 × Ae5 × Ae7 × (List Int) × (List Int) × Int)) (t:Bool)=>some (t,s)) (fun c=>(if (f == [115,112,111,116]) = true then (AL b 0).bind fun u =>
 (AL b 1).bind fun v =>
 (Gr a.1).bind fun w =>
 (Cg w [(u,v)]).bind fun x =>
 (Hj x).bind fun k =>
 (EK a k.1 k.2).bind fun l =>
 c (l.2) (l.1) else (if (f == [112,108,97,99,101]) = true then (AL b 0).bind fun y =>
 (AL b 1).bind fun z =>
 (AL b 2).bind fun aa =>
 (GF a.1 y (z,aa)).bind fun m =>
 (EK a m.1 m.2).bind fun n =>
 c (n.2) (n.1) else (if (f == [109,105,114,114,111,114]) = true then (HH a.1).bind fun o =>
 (EK a o.1 o.2).bind fun p =>
 c (p.2) (p.1) else (if (f == [107,101,101,112]) = true then (Gr a.1).bind fun ab =>
 c ((a.1,ab,a.2.2.1,a.2.2.2.1,a.2.2.2.2.1,a.2.2.2.2.2.1,a.2.2.2.2.2.2.1,a.2.2.2.2.2.2.2.1,a.2.2.2.2.2.2.2.2)) (true) else (if (f == [99,111,117,110,116,115]) = true then (AL b 0).bind fun ac =>
 (BR ac 1 64).bind fun h =>
 (if h = true then (AL b 0).bind fun ad =>
 c ((a.1,a.2.1,ad,a.2.2.2.1,a.2.2.2.2.1,a.2.2.2.2.2.1,a.2.2.2.2.2.2.1,a.2.2.2.2.2.2.2.1,a.2.2.2.2.2.2.2.2)) (h) else c (a) (h)) else (if (f == [109,101,97,115,117,114,101]) = true then FT (fun (d:(Ae4 × Ae4 × Int × Ae4 × Ae5 × Ae7 × (List Int) × (List Int) × Int)) (q:Ae4)=>(Jg q).bind fun i =>
 (if i = true then c ((d.1,d.2.1,d.2.2.1,q,d.2.2.2.2.1,d.2.2.2.2.2.1,d.2.2.2.2.2.2.1,d.2.2.2.2.2.2.2.1,d.2.2.2.2.2.2.2.2)) (i) else c (d) (i))) (fun ae=>(AL b 0).bind fun af =>
 (AL b 1).bind fun ag =>
 (Cg [] a.2.2.2.1).bind fun ah =>
 (Cg ah [(af,ag)]).bind fun ai =>
 ae (a) (ai)) else (if (f == [99,97,114,114,121]) = true then WB (fun (e:(Ae4 × Ae4 × Int × Ae4 × Ae5 × Ae7 × (List Int) × (List Int) × Int)) (aj:Ae5) (j:Bool)=>(if j = true then c ((e.1,e.2.1,e.2.2.1,e.2.2.2.1,aj,e.2.2.2.2.2.1,e.2.2.2.2.2.2.1,e.2.2.2.2.2.2.2.1,e.2.2.2.2.2.2.2.2)) (j) else c (e) (j))) (fun ak=>(AL b 0).bind fun al =>
 (AL b 1).bind fun am =>
 (AL b 2).bind fun an =>
 (AL b 3).bind fun ao =>
 (Cg [] a.2.2.2.2.1).bind fun ap =>
 (Cg ap [(al,am,an,ao)]).bind fun aq =>
 (Jj aq).bind fun r =>
 ak (a) (r.1) (r.2)) else (if (f == [118,101,114,115,105,111,110]) = true then (AL b 0).bind fun ar =>
 (AL b 1).bind fun au =>
 (AL b 2).bind fun av =>
 (Ih a.2.2.2.2.2.1 (ar,au,av)).bind fun g =>
 (if g.2 = true then c ((a.1,a.2.1,a.2.2.1,a.2.2.2.1,a.2.2.2.2.1,g.1,a.2.2.2.2.2.2.1,a.2.2.2.2.2.2.2.1,a.2.2.2.2.2.2.2.2)) (g.2) else c (a) (g.2)) else c (a) (true))))))))))
def Jh (a:Bool):Af (List Aj) :=
 (if (!a) = true then some ([110,111]) else some ([111,107]))
def Ji (b:Ae4) (c:Ae4):Af Bool :=
 Bj (fun (d:Bool)=>some d) (fun a=>(FN b).bind fun e =>
 (if e = true then (FN c).bind fun f =>
 (if f = true then a (((b.length:Int) == (c.length:Int))) else a (false)) else a (false)))
def I3 (b:Ae4) (c:Ae4) (d:Int):Af Bool :=
 Bj (fun (e:Bool)=>some e) (fun a=>(Ji b c).bind fun f =>
 (if f = true then (BR d 1 64).bind fun g =>
 a (g) else a (false)))
def GX (a:(Int × Int)) (b:(Int × Int)):Af Int :=
 some (Ag ((Ag ((Ag (a.1 - b.1)) * (Ag (a.1 - b.1)))) + (Ag ((Ag (a.2 - b.2)) * (Ag (a.2 - b.2))))))
def Fl (a:Ae4) (c:(Int × Int)) (d:Ae9) (e:(Ae9 → Int → Af Ae9)) (f:Int):Nat → (List Int) → Int → Af Ae9
 | 0,_,_=>none
 | m + 1,g,b=>(if (decide (b < (a.length:Int))) = true then (AL a b).bind fun h =>
 (GX c h).bind fun u64 =>
 (Cg g [u64]).bind fun i =>
 (Fl a c d e f m) (i) ((Ag (b + 1))) else (Cg d [g]).bind fun j =>
 e (j) ((Ag (f + 1))))
def E0 (a:Ae4) (c:Ae4):Nat → Ae9 → Int → Af Ae9
 | 0,_,_=>none
 | m + 1,d,b=>(if (decide (b < (a.length:Int))) = true then (AL a b).bind fun e =>
 Fl c e d (E0 a c m) b FU ([]) (0) else some d)
def JP (a:Ae4) (b:Ae4):Af Ae9 :=
 E0 a b FU ([]) (0)
def EU (a:Int) (b:Int):Af Int :=
 (if (decide (a < b)) = true then some a else some b)
def D2 (d:(List Int)) (a:Int) (e:((List Int) → Int → Af (List Int))):Nat → (List Int) → Int → Af (List Int)
 | 0,_,_=>none
 | m + 1,b,c=>(if (decide (c < (d.length:Int))) = true then Bj (fun (g:(List Int))=>(D2 d a e m) (g) ((Ag (c + 1)))) (fun f=>(AL d c).bind fun h =>
 (if (decide (0 ≤ (Bh c))) = true then (if ((B3 .i64 (Br .i64 a (Bh c)) 1) == 1) = true then (AL b a).bind fun i =>
 (AL b (Sq .i64 a (KD .i64 1 (Bh c)))).bind fun j =>
 (EU i (Ag (h + j))).bind fun k =>
 (AL b a).bind fun l =>
 f ((BE b a k)) else f (b)) else none)) else e (b) ((Ag (a + 1))))
def Ez (b:Ae9) (a:Int) (d:(List Int)) (e:((List Int) → Int → Af (List Int))):Nat → Int → Int → Af (List Int)
 | 0,_,_=>none
 | m + 1,f,c=>(if (decide (c < (b.length:Int))) = true then (if (decide (0 ≤ (Bh c))) = true then (Ez b a d e m) ((Ag (f + (B3 .i64 (Br .i64 a (Bh c)) 1)))) ((Ag (c + 1))) else none) else (AL d a).bind fun h =>
 (AL b (Ag ((b.length:Int) - f))).bind fun g =>
 D2 g a e FU ((BE d a 1000000000)) (0))
def Fe (a:Ae9):Nat → (List Int) → Int → Af (List Int)
 | 0,_,_=>none
 | m + 1,b,c=>(if (decide (c < (KD .i64 1 (Bh (a.length:Int))))) = true then Ez a c b (Fe a m) FU (0) (0) else some b)
def JJ (a:Ae9):Af (List Int) :=
 (if (decide (0 ≤ (Bh (a.length:Int)))) = true then (Sf (KD .i64 1 (Bh (a.length:Int))) 0).bind fun b =>
 Fe a FU (b) (1) else none)
def Ff (d:(List Int)) (b:Int) (e:(List Int)) (g:(List Int)) (h:(Int → (List Int) → Int → Af Afa)) (i:Int):Nat → Int → Int → Af Afa
 | 0,_,_=>none
 | m + 1,c,a=>(if (decide (a < (d.length:Int))) = true then Bj (fun (k:Int)=>(Ff d b e g h i m) (k) ((Ag (a + 1)))) (fun j=>(AL d a).bind fun l =>
 Bj (fun (n:Bool)=>(if n = true then j (a) else j (c))) (fun f=>(if (decide (c < 0)) = true then (if (decide (0 ≤ (Bh a))) = true then (if ((B3 .i64 (Br .i64 b (Bh a)) 1) == 1) = true then (AL e b).bind fun o =>
 (AL e (Sq .i64 b (KD .i64 1 (Bh a)))).bind fun p =>
 f (((Ag (l + p)) == o)) else f (false)) else none) else f (false)))) else (Cg g [c]).bind fun q =>
 (if (decide (0 ≤ (Bh c))) = true then h ((Sq .i64 b (KD .i64 1 (Bh c)))) (q) ((Ag (i + 1))) else none))
def DW (b:Ae9) (a:(List Int)):Nat → Int → (List Int) → Int → Af Afa
 | 0,_,_,_=>none
 | m + 1,e,d,c=>(if (decide (c < (b.length:Int))) = true then (AL b c).bind fun f =>
 Ff f e a d (DW b a m) c FU ((-1)) (0) else (AL a (Ag ((a.length:Int) - 1))).bind fun g =>
 some (d,g))
def JK (a:Ae9):Af Afa :=
 (JJ a).bind fun b =>
 DW a b FU ((Ag ((b.length:Int) - 1))) ([]) (0)
def IE (a:(List Int)):Af (List Int) :=
 (Cg [] a).bind fun b =>
 some b
def Ib (a:Ae4) (b:Ae4) (c:Int) (d:(List Int)):Af (Ae4 × Ae4 × Int × (List Int)) :=
 (Gr a).bind fun u8 =>
 (Gr b).bind fun e =>
 (IE d).bind fun f =>
 some (u8,e,c,f)
def Gu (a:Ae4) (b:Ae4) (c:Int):Af ((Ae4 × Ae4 × Int × (List Int)) × Bool) :=
 (I3 a b c).bind fun d =>
 (if (!d) = true then some (([],[],0,[]),false) else (JP a b).bind fun e =>
 (JK e).bind fun f =>
 (Ib a b c f.1).bind fun g =>
 some (g,true))
def Gf (a:(List Int)) (c:Int):Nat → Int → Af Bool
 | 0,_=>none
 | m + 1,b=>(if (decide (b < (a.length:Int))) = true then (AL a b).bind fun d =>
 (if (d == c) = true then some true else (Gf a c m) ((Ag (b + 1)))) else some false)
def Lc (a:(List Int)) (b:Int):Af Bool :=
 Gf a b FU (0)
def EC (a:(List Int)) (c:Int):Nat → Int → Af Bool
 | 0,_=>none
 | m + 1,b=>(if (decide (b < (a.length:Int))) = true then (AL a b).bind fun d =>
 Bj (fun (f:Bool)=>(if f = true then some false else (EC a c m) ((Ag (b + 1))))) (fun e=>(BR d 0 (Ag (c - 1))).bind fun g =>
 (if (!g) = true then e (true) else (sl a 0 b).bind fun h =>
 (Lc h d).bind fun i =>
 e (i))) else some ((a.length:Int) == c))
def Jy (a:(List Int)) (b:Int):Af Bool :=
 EC a b FU (0)
def Ic (a:(Ae4 × Ae4 × Int × (List Int))):Af Bool :=
 Bj (fun (c:Bool)=>some c) (fun b=>(Ji a.1 a.2.1).bind fun d =>
 (if d = true then (BR a.2.2.1 1 64).bind fun e =>
 (if e = true then (Jy a.2.2.2 (a.1.length:Int)).bind fun f =>
 b (f) else b (false)) else b (false)))
def Fk (a:(Ae4 × Ae4 × Int × (List Int))):Nat → (List Ae6) → Int → Af (List Ae6)
 | 0,_,_=>none
 | m + 1,c,b=>(if (decide (b < (a.2.2.2.length:Int))) = true then (AL a.2.2.2 b).bind fun d =>
 (AL a.1 b).bind fun e =>
 (AL a.2.1 d).bind fun f =>
 (Cg c [(e,f,a.2.2.1)]).bind fun g =>
 (Fk a m) (g) ((Ag (b + 1))) else some c)
def GE (a:(Ae4 × Ae4 × Int × (List Int))):Af (List Ae6) :=
 Fk a FU ([]) (0)
def Gh (a:(List Ae6)):Nat → Int → Int → Af Int
 | 0,_,_=>none
 | m + 1,c,b=>(if (decide (b < (a.length:Int))) = true then (AL a b).bind fun d =>
 (GX d.1 d.2.1).bind fun e =>
 (Gh a m) ((Ag (c + e))) ((Ag (b + 1))) else some c)
def Le (a:(Ae4 × Ae4 × Int × (List Int))):Af Int :=
 (GE a).bind fun b =>
 Gh b FU (0) (0)
def H2 (a:(Ae4 × Ae4 × Int × (List Int))):Af (Int × Bool) :=
 (Ic a).bind fun b =>
 (if (!b) = true then some (0,false) else (Le a).bind fun c =>
 some (c,true))
def FR:Nat → Int → Af (List Aj)
 | 0,_=>none
 | m + 1,a=>(if (decide (a < 10)) = true then some (KB [(M1 (Ag (48 + a)))]) else Bj (fun (b:(List Aj))=>some b) (fun c=>(FR m (Ag (Int.tdiv a 10))).bind fun d =>
 (Cg d (KB [(M1 (Ag (48 + (Int.tmod a 10))))])).bind fun e =>
 c (e)))
def Dd (a:Int):Af (List Aj) :=
 FR FU a
def Mt (a:Int):Af (List Aj) :=
 (if (decide (a < 0)) = true then (Dd (Ag (0 - a))).bind fun b =>
 (Cg [45] b).bind fun c =>
 some c else (Dd a).bind fun d =>
 some d)
def Fv (a:Int) (b:Bool):Af (List Aj) :=
 (if (!b) = true then some ([110,111]) else (Mt a).bind fun c =>
 some c)
def Df (a:Ae4) (c:Ae4) (d:Int):Nat → (List Int) → Int → Af ((Ae4 × Ae4 × Int × (List Int)) × Bool)
 | 0,_,_=>none
 | m + 1,e,b=>(if (decide (b < (a.length:Int))) = true then (Cg e [b]).bind fun f =>
 (Df a c d m) (f) ((Ag (b + 1))) else (Ib a c d e).bind fun g =>
 some (g,true))
def Gt (a:Ae4) (b:Ae4) (c:Int):Af ((Ae4 × Ae4 × Int × (List Int)) × Bool) :=
 (I3 a b c).bind fun d =>
 (if (!d) = true then some (([],[],0,[]),false) else Df a b c FU ([]) (0))
def EH (a:(Ae4 × Ae4 × Int × Ae4 × Ae5 × Ae7 × (List Int) × (List Int) × Int)):Af ((Ae4 × Ae4 × Int × (List Int)) × Bool) :=
 (Gt a.2.1 a.1 a.2.2.1).bind fun b =>
 some b
def Hk (a:Int):Af Bool :=
 (BR a 0 80).bind fun b =>
 some b
def Lq (b:(Ae4 × Ae4 × Int × (List Int))) (c:Int):Af Bool :=
 Bj (fun (d:Bool)=>some d) (fun a=>(Ic b).bind fun e =>
 (if e = true then (Hk c).bind fun f =>
 a (f) else a (false)))
def Ku (a:Ae6) (b:Ae6):Af (Int × Int × Int × Int) :=
 some ((Ag (a.1.1 - b.1.1)),(Ag (a.1.2 - b.1.2)),(Ag (a.2.1.1 - b.2.1.1)),(Ag (a.2.1.2 - b.2.1.2)))
def Ls (c:Ae6) (d:Ae6):Af (Int × Int) :=
 (Ku c d).bind fun a =>
 Bj (fun (e:Bool)=>(if e = true then some (0,0) else some ((Ag (0 - (Ag ((Ag (a.1 * (Ag (a.2.2.1 - a.1)))) + (Ag (a.2.1 * (Ag (a.2.2.2 - a.2.1)))))))),(Ag ((Ag ((Ag (a.2.2.1 - a.1)) * (Ag (a.2.2.1 - a.1)))) + (Ag ((Ag (a.2.2.2 - a.2.1)) * (Ag (a.2.2.2 - a.2.1))))))))) (fun b=>(if (decide ((Ag (0 - (Ag ((Ag (a.1 * (Ag (a.2.2.1 - a.1)))) + (Ag (a.2.1 * (Ag (a.2.2.2 - a.2.1)))))))) ≤ 0)) = true then b (true) else b ((decide ((Ag ((Ag ((Ag (a.2.2.1 - a.1)) * (Ag (a.2.2.1 - a.1)))) + (Ag ((Ag (a.2.2.2 - a.2.1)) * (Ag (a.2.2.2 - a.2.1)))))) ≤ (Ag (0 - (Ag ((Ag (a.1 * (Ag (a.2.2.1 - a.1)))) + (Ag (a.2.1 * (Ag (a.2.2.2 - a.2.1)))))))))))))
def Hq (a:Int) (b:Int):Af Int :=
 (if (decide (b < a)) = true then some a else some b)
def Mu (a:Int):Af Int :=
 (Hq a (Ag (0 - a))).bind fun b =>
 some b
def G4 (c:Int) (d:Int):Nat → Int → Int → Af (Int × Int)
 | 0,_,_=>none
 | m + 1,a,b=>(if (decide (0 < b)) = true then (if b = 0 then none else (G4 c d m) (b) ((Int.tmod a b))) else (if a = 0 then none else (if a = 0 then none else some ((Ag (Int.tdiv c a)),(Ag (Int.tdiv d a))))))
def Jf (a:Int) (b:Int):Af (Int × Int) :=
 (Mu a).bind fun c =>
 G4 a b FU (c) (b)
def JQ (b:Ae6) (c:Ae6):Af (Int × Int) :=
 (Ku b c).bind fun a =>
 (Ls b c).bind fun d =>
 (if (decide (0 < d.2)) = true then (Jf (Ag ((Ag ((Ag (a.1 * a.2.2.2)) - (Ag (a.2.1 * a.2.2.1)))) * (Ag ((Ag (a.1 * a.2.2.2)) - (Ag (a.2.1 * a.2.2.1)))))) d.2).bind fun e =>
 some e else (EU (Ag ((Ag (a.1 * a.1)) + (Ag (a.2.1 * a.2.1)))) (Ag ((Ag (a.2.2.1 * a.2.2.1)) + (Ag (a.2.2.2 * a.2.2.2))))).bind fun f =>
 some (f,1))
def Ks (c:Ae6) (d:Ae6) (a:Int):Af Bool :=
 (JQ c d).bind fun b =>
 some (decide ((Ag ((Ag (a * a)) * b.2)) ≤ b.1))
def Fi (u8:(List Ae6)) (d:Ae6) (e:Int) (b:Int) (f:(Ae9 → Int → Af Ae9)):Nat → Ae9 → Int → Af Ae9
 | 0,_,_=>none
 | m + 1,c,a=>(if (decide (a < (u8.length:Int))) = true then Bj (fun (h:Ae9)=>(Fi u8 d e b f m) (h) ((Ag (a + 1)))) (fun g=>(AL u8 a).bind fun i =>
 (Ks d i e).bind fun j =>
 (if (!j) = true then (Cg c [[b,a]]).bind fun k =>
 g (k) else g (c))) else f (c) ((Ag (b + 1))))
def Fj (u8:(List Ae6)) (b:Int):Nat → Ae9 → Int → Af Ae9
 | 0,_,_=>none
 | m + 1,c,a=>(if (decide (a < (u8.length:Int))) = true then (AL u8 a).bind fun d =>
 Fi u8 d b a (Fj u8 b m) FU (c) ((Ag (a + 1))) else some c)
def JO (a:(Ae4 × Ae4 × Int × (List Int))) (b:Int):Af Ae9 :=
 (GE a).bind fun u8 =>
 Fj u8 b FU ([]) (0)
def GY (a:(Ae4 × Ae4 × Int × (List Int))) (b:Int):Af (Ae9 × Bool) :=
 (Lq a b).bind fun c =>
 (if (!c) = true then some ([],false) else (JO a b).bind fun d =>
 some (d,true))
def CR (c:(Ae9 × Bool)):Nat → (List Aj) → Int → Af (List Aj)
 | 0,_,_=>none
 | m + 1,a,b=>(if (decide (b < (c.1.length:Int))) = true then (AL c.1 b).bind fun d =>
 Bj (fun (f:(List Aj))=>(AL d 0).bind fun g =>
 (AL d 1).bind fun h =>
 (Dd g).bind fun i =>
 (Cg i [45]).bind fun j =>
 (Dd h).bind fun k =>
 (Cg j k).bind fun l =>
 (Cg f l).bind fun n =>
 (CR c m) (n) ((Ag (b + 1)))) (fun e=>(if (decide (0 < b)) = true then (Cg a [32]).bind fun o =>
 e (o) else e (a))) else (if (a == []) = true then some ([110,111,110,101]) else some a))
def Ht (d:(Ae4 × Ae4 × Int × Ae4 × Ae5 × Ae7 × (List Int) × (List Int) × Int)) (e:Int):Af (List Aj) :=
 (EH d).bind fun a =>
 (GY a.1 e).bind fun b =>
 Bj (fun (f:Bool)=>(if f = true then some ([110,111]) else CR b FU ([]) (0))) (fun c=>(if (!a.2) = true then c (true) else c ((!b.2))))
def LF (a:(Ae4 × Ae4 × Int × (List Int))):Af Bool :=
 Bj (fun (c:Bool)=>some c) (fun b=>(Ic a).bind fun d =>
 (if d = true then (if (decide (a.2.2.1 ≤ 16)) = true then b ((decide ((a.1.length:Int) ≤ 6))) else b (false)) else b (false)))
def L9 (a:Ae6) (b:Int):Af (Int × Int) :=
 some ((Ag ((Ag (a.1.1 * a.2.2)) + (Ag ((Ag (a.2.1.1 - a.1.1)) * b)))),(Ag ((Ag (a.1.2 * a.2.2)) + (Ag ((Ag (a.2.1.2 - a.1.2)) * b)))))
def Iu (a:Ae6) (b:Int) (c:Int):Af (Int × Int) :=
 (EU a.2.2 (Ag (c - b))).bind fun d =>
 (Hq 0 d).bind fun e =>
 (L9 a e).bind fun f =>
 some f
def Kp (a:Int) (b:Int) (c:Int) (d:Int):Af (Int × Int) :=
 Bj (fun (f:Bool)=>(if f = true then some ((Ag ((Ag ((Ag (a * d)) - (Ag (b * c)))) * (Ag ((Ag (a * d)) - (Ag (b * c)))))),(Ag ((Ag ((Ag (c - a)) * (Ag (c - a)))) + (Ag ((Ag (d - b)) * (Ag (d - b))))))) else (EU (Ag ((Ag (a * a)) + (Ag (b * b)))) (Ag ((Ag (c * c)) + (Ag (d * d))))).bind fun g =>
 some (g,1))) (fun e=>(if (decide (0 < (Ag (0 - (Ag ((Ag (a * (Ag (c - a)))) + (Ag (b * (Ag (d - b)))))))))) = true then e ((decide ((Ag (0 - (Ag ((Ag (a * (Ag (c - a)))) + (Ag (b * (Ag (d - b)))))))) < (Ag ((Ag ((Ag (c - a)) * (Ag (c - a)))) + (Ag ((Ag (d - b)) * (Ag (d - b))))))))) else e (false)))
def Kt (c:Int) (a:Int) (d:Int) (b:Int):Af Bool :=
 (if a = 0 then none else (if b = 0 then none else (if ((Ag (Int.tdiv c a)) != (Ag (Int.tdiv d b))) = true then (if a = 0 then none else (if b = 0 then none else some (decide ((Ag (Int.tdiv c a)) < (Ag (Int.tdiv d b)))))) else (if a = 0 then none else (if b = 0 then none else some (decide ((Ag ((Int.tmod c a) * b)) < (Ag ((Int.tmod d b) * a)))))))))
def EZ (c:Int) (d:Int) (a:Ae6) (g:Ae6):Nat → Int → Int → Int → Af (Int × Int)
 | 0,_,_,_=>none
 | m + 1,e,h,b=>(Hq c d).bind fun p =>
 (if (decide (b < (Ag (a.2.2 + p)))) = true then FT (fun (q:Int) (r:Int)=>(EZ c d a g m) (q) (r) ((Ag (b + 1)))) (fun i=>(Iu a c b).bind fun j =>
 (Iu g d b).bind fun k =>
 (Iu a c (Ag (b + 1))).bind fun l =>
 (Iu g d (Ag (b + 1))).bind fun n =>
 (Kp (Ag (j.1 - k.1)) (Ag (j.2 - k.2)) (Ag (l.1 - n.1)) (Ag (l.2 - n.2))).bind fun f =>
 Bj (fun (s:Bool)=>(if s = true then i (f.1) (f.2) else i (e) (h))) (fun o=>(if (decide (e < 0)) = true then o (true) else (Kt f.1 f.2 e h).bind fun t =>
 o (t)))) else (Jf e (Ag ((Ag (h * a.2.2)) * a.2.2))).bind fun u =>
 some u)
def I1 (a:Ae6) (b:Ae6) (c:Int) (d:Int):Af (Int × Int) :=
 EZ c d a b FU ((-1)) (1) (0)
def Je (c:Ae6) (d:Ae6) (e:Int) (f:Int) (b:Int):Af Bool :=
 (I1 c d e f).bind fun a =>
 (if a.2 = 0 then none else some (decide ((Ag (b * b)) ≤ (Ag (Int.tdiv a.1 a.2)))))
def Fc (u8:(List Ae6)) (c:(List Int)) (b:Int) (e:Ae6) (f:Int) (g:(Ae9 → Int → Af Ae9)):Nat → Ae9 → Int → Af Ae9
 | 0,_,_=>none
 | m + 1,d,a=>(if (decide (a < (u8.length:Int))) = true then Bj (fun (i:Ae9)=>(Fc u8 c b e f g m) (i) ((Ag (a + 1)))) (fun h=>(AL u8 a).bind fun j =>
 (AL c b).bind fun k =>
 (AL c a).bind fun l =>
 (Je e j k l f).bind fun n =>
 (if (!n) = true then (Cg d [[b,a]]).bind fun o =>
 h (o) else h (d))) else g (d) ((Ag (b + 1))))
def Fd (u8:(List Ae6)) (b:(List Int)) (c:Int):Nat → Ae9 → Int → Af Ae9
 | 0,_,_=>none
 | m + 1,d,a=>(if (decide (a < (u8.length:Int))) = true then (AL u8 a).bind fun e =>
 Fc u8 b a e c (Fd u8 b c m) FU (d) ((Ag (a + 1))) else some d)
def I2 (a:(Ae4 × Ae4 × Int × (List Int))) (b:(List Int)) (c:Int):Af Ae9 :=
 (GE a).bind fun u8 =>
 Fd u8 b c FU ([]) (0)
def Kr (a:(Ae4 × Ae4 × Int × (List Int))) (c:Int) (d:Int):Af (Ae4 × Ae4 × Int × (List Int)) :=
 (Ib a.1 a.2.1 a.2.2.1 a.2.2.2).bind fun b =>
 (AL a.2.2.2 d).bind fun e =>
 (AL b.2.2.2 c).bind fun g =>
 (AL a.2.2.2 c).bind fun f =>
 (AL (BE b.2.2.2 c e) d).bind fun h =>
 some (b.1,b.2.1,b.2.2.1,(BE (BE b.2.2.2 c e) d f))
def FF (c:(Ae4 × Ae4 × Int × (List Int))) (a:Int) (u8:(List Int)) (d:Int) (e:(Int → Af (Int × Int))):Nat → Int → Af (Int × Int)
 | 0,_=>none
 | m + 1,b=>(if (decide (b < (c.1.length:Int))) = true then (Kr c a b).bind fun f =>
 (I2 f u8 d).bind fun g =>
 (if ((g.length:Int) == 0) = true then some (a,b) else (FF c a u8 d e m) ((Ag (b + 1)))) else e ((Ag (a + 1))))
def El (a:(Ae4 × Ae4 × Int × (List Int))) (u8:(List Int)) (c:Int):Nat → Int → Af (Int × Int)
 | 0,_=>none
 | m + 1,b=>(if (decide (b < (a.1.length:Int))) = true then FF a b u8 c (El a u8 c m) FU ((Ag (b + 1))) else some ((-1),(-1)))
def Ko (a:(Ae4 × Ae4 × Int × (List Int))) (b:Int):Af (Int × Int) :=
 (Sf (a.1.length:Int) 0).bind fun u8 =>
 El a u8 b FU (0)
def GB (e:((List Ae6) × Int × (List Int))) (a:Int) (b:Int) (c:Int) (d:Int):Af (Bool × ((List Ae6) × Int × (List Int))) :=
 Bj (fun (g:((List Ae6) × Int × (List Int)))=>(if (decide (0 ≤ a) && decide (a < 6)) = true then (if (decide (0 ≤ b) && decide (b < 6)) = true then (if (decide (0 ≤ c) && decide (c < 5)) = true then (if (decide (0 ≤ d) && decide (d < 5)) = true then (g.2.2[a.toNat * 150 + b.toNat * 25 + c.toNat * 5 + d.toNat * 1]?).bind fun j =>
 some ((j == 1),g) else none) else none) else none) else none)) (fun h=>(if (decide (0 ≤ a) && decide (a < 6)) = true then (if (decide (0 ≤ b) && decide (b < 6)) = true then (if (decide (0 ≤ c) && decide (c < 5)) = true then (if (decide (0 ≤ d) && decide (d < 5)) = true then (e.2.2[a.toNat * 150 + b.toNat * 25 + c.toNat * 5 + d.toNat * 1]?).bind fun k =>
 (if (k == 0) = true then FT (fun (f:((List Ae6) × Int × (List Int))) (l:Int)=>(NV f.2.2 (a.toNat * 150 + b.toNat * 25 + c.toNat * 5 + d.toNat * 1) l).bind fun m =>
 h ((f.1,f.2.1,m))) (fun i=>(AL e.1 a).bind fun n =>
 (AL e.1 b).bind fun o =>
 (Je n o c d e.2.1).bind fun p =>
 (if p = true then i (e) (1) else i (e) (2))) else h (e)) else none) else none) else none) else none))
def CP (a:(List Int)) (b:Int) (f:(((List Ae6) × Int × (List Int)) → Af ((List Int) × ((List Ae6) × Int × (List Int))))) (rec:(((List Ae6) × Int × (List Int)) → (List Int) → Int → Af ((List Int) × ((List Ae6) × Int × (List Int))))) (g:Int):Nat → ((List Ae6) × Int × (List Int)) → Bool → Int → Af ((List Int) × ((List Ae6) × Int × (List Int)))
 | 0,_,_,_=>none
 | m + 1,c,h,d=>(if (decide (d < (a.length:Int))) = true then FT (fun (k:((List Ae6) × Int × (List Int))) (l:Bool)=>(CP a b f rec g m) (k) (l) ((Ag (d + 1)))) (fun i=>(AL a d).bind fun n =>
 (if h = true then (GB c d (a.length:Int) n b).bind fun j =>
 i (j.2) (j.1) else i (c) (false))) else (if (!h) = true then f (c) else (IE a).bind fun o =>
 (Cg o [b]).bind fun p =>
 (rec c p (Ag (g - b))).bind fun e =>
 (if (decide (0 < (e.1.length:Int))) = true then some (e.1,e.2) else f (e.2))))
def CQ (a:Int) (c:(List Int)) (rec:(((List Ae6) × Int × (List Int)) → (List Int) → Int → Af ((List Int) × ((List Ae6) × Int × (List Int))))):Nat → ((List Ae6) × Int × (List Int)) → Int → Af ((List Int) × ((List Ae6) × Int × (List Int)))
 | 0,_,_=>none
 | m + 1,d,b=>(EU a 4).bind fun e =>
 (if (decide (b ≤ e)) = true then Bj (fun (f:((List Ae6) × Int × (List Int)))=>(CQ a c rec m) (f) ((Ag (b + 1)))) (fun g=>CP c b g rec a FU (d) (true) (0)) else some ([],d))
def FY (rec:((List Ae6) × Int × (List Int)) → (List Int) → Int → Af ((List Int) × ((List Ae6) × Int × (List Int)))) (a:((List Ae6) × Int × (List Int))) (b:(List Int)) (c:Int):Af ((List Int) × ((List Ae6) × Int × (List Int))) :=
 (if ((b.length:Int) == (a.1.length:Int)) = true then (if (decide (0 < c)) = true then some ([],a) else some (b,a)) else CQ c b rec FU (a) (0))
def Db:Nat → ((List Ae6) × Int × (List Int)) → (List Int) → Int → Af ((List Int) × ((List Ae6) × Int × (List Int)))
 | 0,_,_,_=>none
 | m + 1,a,b,c=>FY (Db m) a b c
def HU (a:((List Ae6) × Int × (List Int))) (b:(List Int)) (c:Int):Af ((List Int) × ((List Ae6) × Int × (List Int))) :=
 Db FU a b c
def Ed (c:(Ae4 × Ae4 × Int × (List Int))):Nat → ((List Ae6) × Int × (List Int)) → Int → Af Afa
 | 0,_,_=>none
 | m + 1,d,a=>(if (decide (a ≤ (Ag (4 * (c.1.length:Int))))) = true then (HU d [] a).bind fun b =>
 (if (decide (0 < (b.1.length:Int))) = true then some (b.1,a) else (Ed c m) (b.2) ((Ag (a + 1)))) else some ([],0))
def Jw (a:(Ae4 × Ae4 × Int × (List Int))) (b:Int):Af Afa :=
 (GE a).bind fun u8 =>
 Ed a FU ((u8,b,(List.replicate 900 0))) (0)
def Ig (a:(Ae4 × Ae4 × Int × (List Int))) (b:Int):Af (Int × Bool) :=
 Bj (fun (d:Bool)=>(if d = true then some (0,false) else (Sf (a.1.length:Int) 0).bind fun e =>
 (I2 a e b).bind fun f =>
 (if ((f.length:Int) == 0) = true then some (0,true) else (Ko a b).bind fun g =>
 (if (decide (0 ≤ g.1)) = true then some (1,true) else (Jw a b).bind fun h =>
 (if (decide (0 < (h.1.length:Int))) = true then some (2,true) else some (3,true)))))) (fun c=>(LF a).bind fun i =>
 (if (!i) = true then c (true) else (Hk b).bind fun j =>
 c ((!j))))
def D4 (c:Ae4) (e:(Int × Int)) (d:Int) (f:(Int → Int → Int → Int → Af (Int × Int × Int))):Nat → Int → Int → Int → Int → Af (Int × Int × Int)
 | 0,_,_,_,_=>none
 | m + 1,g,h,a,b=>(if (decide (b < (c.length:Int))) = true then WB (fun (k:Int) (l:Int) (n:Int)=>(D4 c e d f m) (k) (l) (n) ((Ag (b + 1)))) (fun i=>(AL c b).bind fun o =>
 (GX e o).bind fun u64 =>
 Bj (fun (p:Bool)=>(if p = true then i (d) (b) (u64) else i (g) (h) (a))) (fun j=>(if (decide (a < 0)) = true then j (true) else j ((decide (u64 < a)))))) else f (g) (h) (a) ((Ag (d + 1))))
def Fh (a:Ae4):Nat → Int → Int → Int → Int → Af (Int × Int × Int)
 | 0,_,_,_,_=>none
 | m + 1,c,d,e,b=>(if (decide (b < (a.length:Int))) = true then (AL a b).bind fun f =>
 D4 a f b (Fh a m) FU (c) (d) (e) ((Ag (b + 1))) else some (c,d,e))
def JN (a:Ae4):Af (Int × Int × Int) :=
 Fh a FU (0) (0) ((-1)) (0)
def Ef (a:Ae4):Af (Int × Bool) :=
 Bj (fun (c:Bool)=>(if c = true then some (0,false) else (JN a).bind fun d =>
 some (d.2.2,true))) (fun b=>(FN a).bind fun e =>
 (if (!e) = true then b (true) else b ((decide ((a.length:Int) < 2)))))
def EB (a:Ae4):Nat → Int → Int → Af Int
 | 0,_,_=>none
 | m + 1,c,b=>(if (decide (b < (a.length:Int))) = true then (AL a b).bind fun d =>
 (EB a m) ((Ag (c + d.1))) ((Ag (b + 1))) else some c)
def Jx (a:Ae4):Af Int :=
 EB a FU (0) (0)
def LG (a:Ae4) (c:Int):Af Bool :=
 Bj (fun (d:Bool)=>some d) (fun b=>(Jg a).bind fun e =>
 (if e = true then (Jx a).bind fun f =>
 (BR c 0 f).bind fun g =>
 b (g) else b (false)))
def H1 (b:Int) (a:Int):Af Int :=
 (if a = 0 then none else some (Ag (Int.tdiv (Ag (60000 * b)) a)))
def Di (b:Ae4):Nat → Int → Int → Int → Af Int
 | 0,_,_,_=>none
 | m + 1,c,d,e=>(if (decide (e < (b.length:Int))) = true then (AL b e).bind fun a =>
 (if (decide (c < a.1)) = true then (H1 c a.2).bind fun f =>
 some (Ag (d + f)) else (H1 a.1 a.2).bind fun g =>
 (Di b m) ((Ag (c - a.1))) ((Ag (d + g))) ((Ag (e + 1)))) else some d)
def FM (a:Ae4) (b:Int):Af Int :=
 Di a FU (b) (0) (0)
def Kv (a:Ae4) (b:Int):Af (Int × Bool) :=
 (LG a b).bind fun c =>
 (if (!c) = true then some (0,false) else (FM a b).bind fun d =>
 some (d,true))
def Lr (a:Int):Af Bool :=
 (BR a 0 999).bind fun b =>
 some b
def GD (f:Ae5) (g:Int) (c:Int) (d:Int):Nat → Int → Af Int
 | 0,_=>none
 | m + 1,e=>(if (decide (e < (f.length:Int))) = true then (AL f e).bind fun a =>
 Bj (fun (h:Bool)=>(if h = true then some e else (GD f g c d m) ((Ag (e + 1))))) (fun b=>(if (g == 0) = true then (if (c == 0) = true then (BR d a.2.2.1 (Ag (a.2.2.2 - 1))).bind fun i =>
 b (i) else (if (a.1 == c) = true then (BR d a.2.2.1 (Ag (a.2.2.2 - 1))).bind fun j =>
 b (j) else b (false))) else (if (a.2.1 == g) = true then (if (c == 0) = true then (BR d a.2.2.1 (Ag (a.2.2.2 - 1))).bind fun k =>
 b (k) else (if (a.1 == c) = true then (BR d a.2.2.1 (Ag (a.2.2.2 - 1))).bind fun l =>
 b (l) else b (false))) else b (false)))) else some (-1))
def KC (a:Ae5) (b:Int) (c:Int) (d:Int):Af Int :=
 GD a b c d FU (0)
def IF (a:Ae5) (c:Int) (d:Int):Af (Int × Bool) :=
 Bj (fun (e:Bool)=>(if e = true then some (0,false) else (KC a c 0 d).bind fun f =>
 (AL a f).bind fun g =>
 some (g.1,true))) (fun b=>(Jl a).bind fun h =>
 (if (!h) = true then b (true) else (Jk c).bind fun i =>
 (if (!i) = true then b (true) else (Lr d).bind fun j =>
 (if (!j) = true then b (true) else (KC a c 0 d).bind fun k =>
 b ((decide (k < 0)))))))
def Mr (a:Ae7) (c:Int):Af Bool :=
 Bj (fun (d:Bool)=>some d) (fun b=>(HZ a).bind fun e =>
 (if e = true then (BR c 0 (Ag ((a.length:Int) - 1))).bind fun f =>
 b (f) else b (false)))
def E6 (b:Ae7):Nat → Int → (List Int) → Af (List Int)
 | 0,_,_=>none
 | m + 1,a,c=>(if (decide (0 ≤ a)) = true then (Cg [a] c).bind fun d =>
 (AL b a).bind fun e =>
 (E6 b m) (e.1) (d) else some c)
def Lb (a:Ae7) (b:Int):Af (List Int) :=
 E6 a FU (b) ([])
def EX (a:(List Int)) (b:Ae7):Nat → (List Int) → Int → Af (List Int)
 | 0,_,_=>none
 | m + 1,c,d=>(if (decide (d < (a.length:Int))) = true then (AL a d).bind fun e =>
 (AL b e).bind fun u64 =>
 (AL b e).bind fun f =>
 (AL c u64.2.1).bind fun g =>
 (EX a b m) ((BE c u64.2.1 f.2.2)) ((Ag (d + 1))) else some c)
def EY (a:Ae7) (c:Int):Nat → (List Int) → Af (List Int)
 | 0,_=>none
 | m + 1,b=>(if (decide ((b.length:Int) < 8)) = true then (Cg b [(-1)]).bind fun d =>
 (EY a c m) (d) else (Lb a c).bind fun e =>
 EX e a FU (b) (0))
def JI (a:Ae7) (b:Int):Af (List Int) :=
 EY a b FU ([])
def JR (a:Ae7) (b:Int):Af ((List Int) × Bool) :=
 (Mr a b).bind fun c =>
 (if (!c) = true then some ([],false) else (JI a b).bind fun d =>
 some (d,true))
def D3 (b:(List Int)):Nat → (List Aj) → Int → Af (List Aj)
 | 0,_,_=>none
 | m + 1,c,a=>(if (decide (a < (b.length:Int))) = true then Bj (fun (h:(List Aj))=>(D3 b m) (h) ((Ag (a + 1)))) (fun d=>(AL b a).bind fun e =>
 Bj (fun (f:(List Aj))=>(if (decide (e < 0)) = true then (Cg f [45]).bind fun i =>
 d (i) else (Dd e).bind fun j =>
 (Cg f j).bind fun k =>
 d (k))) (fun g=>(if (decide (0 < a)) = true then (Cg c [32]).bind fun l =>
 g (l) else g (c)))) else some c)
def JL (a:(List Int)):Af (List Aj) :=
 D3 a FU ([]) (0)
def Jd (a:Int):Af (List Aj) :=
 (if ((Int.tmod a 8) == 0) = true then (Dd (Ag (Int.tdiv a 8))).bind fun b =>
 some b else (Dd (Ag (Int.tdiv a 8))).bind fun c =>
 (Cg c [43]).bind fun d =>
 (Dd (Int.tmod a 8)).bind fun e =>
 (Cg d e).bind fun f =>
 some f)
def Km (a:(Int × Int)):Af (List Aj) :=
 (Jd a.1).bind fun b =>
 (Cg b [44]).bind fun c =>
 (Jd a.2).bind fun d =>
 (Cg c d).bind fun e =>
 some e
def Ms (b:(Int × Int)) (c:(Int × Int)):Af Bool :=
 Bj (fun (d:Bool)=>some d) (fun a=>(Ia b).bind fun e =>
 (if e = true then (Ia c).bind fun f =>
 a (f) else a (false)))
def EJ (c:Int):Nat → Int → Int → Af Int
 | 0,_,_=>none
 | m + 1,a,b=>(if (decide (a < b)) = true then (if (decide ((Ag (1000000 * c)) ≤ (Ag ((Ag ((Ag (4800 * (Ag (Int.tdiv (Ag (a + b)) 2)))) * 4800)) * (Ag (Int.tdiv (Ag (a + b)) 2)))))) = true then (EJ c m) (a) ((Ag (Int.tdiv (Ag (a + b)) 2))) else (EJ c m) ((Ag ((Ag (Int.tdiv (Ag (a + b)) 2)) + 1))) (b)) else some a)
def Kn (a:Int):Af Int :=
 EJ a FU (0) (1000)
def Lo (a:(Int × Int)) (b:(Int × Int)):Af Int :=
 (GX a b).bind fun c =>
 (Kn c).bind fun d =>
 some d
def H3 (a:(Int × Int)) (b:(Int × Int)):Af (Int × Bool) :=
 (Ms a b).bind fun c =>
 (if (!c) = true then some (0,false) else (Lo a b).bind fun d =>
 some (d,true))
def CA (a:(List Int)) (b:(Ae4 × Ae4 × Int × Ae4 × Ae5 × Ae7 × (List Int) × (List Int) × Int)) (d:(List Aj)):Nat → Int → Af (List Aj)
 | 0,_=>none
 | m + 1,c=>(if (decide (c < (a.length:Int))) = true then (AL a c).bind fun f =>
 (if (decide ((b.1.length:Int) ≤ f)) = true then some ([110,111]) else (CA a b d m) ((Ag (c + 1)))) else (if (d == [116,101,120,116]) = true then (AL a 0).bind fun g =>
 (AL b.1 g).bind fun h =>
 (Km h).bind fun i =>
 some i else (AL a 0).bind fun j =>
 (AL b.1 j).bind fun k =>
 (AL a 1).bind fun l =>
 (AL b.1 l).bind fun n =>
 (H3 k n).bind fun e =>
 (Fv e.1 e.2).bind fun o =>
 some o))
def C4 (a:(Ae4 × Ae4 × Int × Ae4 × Ae5 × Ae7 × (List Int) × (List Int) × Int)) (b:(List Aj)) (c:(List Int)):Af (List Aj) :=
 (if (b == [115,117,109]) = true then jK5 (fun (l:Ae4) (m:Ae4) (n:Int) (o:(List Int)) (p:Bool)=>(if (!p) = true then some ([110,111]) else (H2 (l,m,n,o)).bind fun e =>
 (Fv e.1 e.2).bind fun q =>
 some q)) (fun r=>(Gu a.2.1 a.1 a.2.2.1).bind fun d =>
 r (d.1.1) (d.1.2.1) (d.1.2.2.1) (d.1.2.2.2) (d.2)) else (if (b == [99,108,111,115,101]) = true then (AL c 0).bind fun s =>
 (Ht a s).bind fun t =>
 some t else (if (b == [107,105,110,100]) = true then (EH a).bind fun f =>
 (if (!f.2) = true then some ([110,111]) else (AL c 0).bind fun u =>
 (Ig f.1 u).bind fun g =>
 (Fv g.1 g.2).bind fun v =>
 some v) else (if (b == [108,101,97,115,116]) = true then (Ef a.1).bind fun h =>
 (Fv h.1 h.2).bind fun w =>
 some w else (if (b == [116,105,109,101]) = true then (AL c 0).bind fun x =>
 (Kv a.2.2.2.1 x).bind fun i =>
 (Fv i.1 i.2).bind fun y =>
 some y else (if (b == [119,104,111]) = true then (AL c 0).bind fun z =>
 (AL c 1).bind fun aa =>
 (IF a.2.2.2.2.1 z aa).bind fun j =>
 (if (!j.2) = true then some ([110,111,110,101]) else (Dd j.1).bind fun ab =>
 some ab) else (if (b == [115,116,97,116,101]) = true then (AL c 0).bind fun ac =>
 (JR a.2.2.2.2.2.1 ac).bind fun k =>
 (if (!k.2) = true then some ([110,111]) else (JL k.1).bind fun ad =>
 some ad) else CA c a b FU (0))))))))
def BT (e:(List (List Aj))) (c:(Ae4 × Ae4 × Int × Ae4 × Ae5 × Ae7 × (List Int) × (List Int) × Int)) (d:(List (List Aj))):Nat → (List Int) → Int → Af ((List Aj) × (Ae4 × Ae4 × Int × Ae4 × Ae5 × Ae7 × (List Int) × (List Int) × Int))
 | 0,_,_=>none
 | m + 1,f,g=>(if (decide (g < (e.length:Int))) = true then (AL e g).bind fun j =>
 (Kq j).bind fun h =>
 (BR h 0 99999).bind fun k =>
 (if (!k) = true then some ([119,104,97,116],c) else (Cg f [h]).bind fun l =>
 (BT e c d m) (l) ((Ag (g + 1)))) else (AL d 0).bind fun a =>
 Bj (fun (n:Bool)=>(if n = true then (AL d 0).bind fun o =>
 (C0 c o f).bind fun i =>
 (Jh i.1).bind fun p =>
 some (p,i.2) else (AL d 0).bind fun q =>
 (C4 c q f).bind fun r =>
 some (r,c))) (fun b=>(if (a == [115,112,111,116]) = true then b ((a == [115,112,111,116])) else (if (a == [112,108,97,99,101]) = true then b ((a == [112,108,97,99,101])) else (if (a == [109,105,114,114,111,114]) = true then b ((a == [109,105,114,114,111,114])) else (if (a == [107,101,101,112]) = true then b ((a == [107,101,101,112])) else (if (a == [99,111,117,110,116,115]) = true then b ((a == [99,111,117,110,116,115])) else (if (a == [109,101,97,115,117,114,101]) = true then b ((a == [109,101,97,115,117,114,101])) else (if (a == [99,97,114,114,121]) = true then b ((a == [99,97,114,114,121])) else b ((a == [118,101,114,115,105,111,110])))))))))))
def Ee (b:(Ae4 × Ae4 × Int × Ae4 × Ae5 × Ae7 × (List Int) × (List Int) × Int)) (c:(List Aj)):Af ((List Aj) × (Ae4 × Ae4 × Int × Ae4 × Ae5 × Ae7 × (List Int) × (List Int) × Int)) :=
 (FQ c 32).bind fun a =>
 (AL a 0).bind fun d =>
 (GC d).bind fun e =>
 (if ((Ag ((a.length:Int) - 1)) != e) = true then some ([119,104,97,116],b) else (sl a 1 (a.length:Int)).bind fun f =>
 BT f b a FU ([]) (0))
def Gg (d:((List (List Aj)) × Bool)):Nat → (Ae4 × Ae4 × Int × Ae4 × Ae5 × Ae7 × (List Int) × (List Int) × Int) → (List Aj) → Int → Af ((Ae4 × Ae4 × Int × Ae4 × Ae5 × Ae7 × (List Int) × (List Int) × Int) × (List Aj) × Bool)
 | 0,_,_,_=>none
 | m + 1,b,f,c=>(if (decide (c < (d.1.length:Int))) = true then (AL d.1 c).bind fun g =>
 (Ee b g).bind fun a =>
 Bj (fun (h:(Ae4 × Ae4 × Int × Ae4 × Ae5 × Ae7 × (List Int) × (List Int) × Int))=>(Cg a.1 [10]).bind fun i =>
 (Cg f i).bind fun j =>
 (Gg d m) (h) (j) ((Ag (c + 1)))) (fun e=>(if (a.1 == [110,111]) = true then (Cg a.2.2.2.2.2.2.2.1 [(Ag (c + 1))]).bind fun k =>
 e ((a.2.1,a.2.2.1,a.2.2.2.1,a.2.2.2.2.1,a.2.2.2.2.2.1,a.2.2.2.2.2.2.1,k,a.2.2.2.2.2.2.2.2.1,a.2.2.2.2.2.2.2.2.2)) else (if (a.1 == [119,104,97,116]) = true then (Cg a.2.2.2.2.2.2.2.2.1 [(Ag (c + 1))]).bind fun l =>
 e ((a.2.1,a.2.2.1,a.2.2.2.1,a.2.2.2.2.1,a.2.2.2.2.2.1,a.2.2.2.2.2.2.1,a.2.2.2.2.2.2.2.1,l,a.2.2.2.2.2.2.2.2.2)) else e (a.2)))) else some ((b.1,b.2.1,b.2.2.1,b.2.2.2.1,b.2.2.2.2.1,b.2.2.2.2.2.1,b.2.2.2.2.2.2.1,b.2.2.2.2.2.2.2.1,(d.1.length:Int)),f,true))
def Ld (c:(List Aj)):Af ((Ae4 × Ae4 × Int × Ae4 × Ae5 × Ae7 × (List Int) × (List Int) × Int) × (List Aj) × Bool) :=
 (Lp ).bind fun a =>
 (JM c).bind fun b =>
 (if (!b.2) = true then some (a,[],false) else Gg b FU (a) ([]) (0))
def Hs (a:(List Aj)) (b:Int):Af Int :=
 some (Qb a b)
def IR (b:(List Aj)) (a:(List Aj)):Af Int :=
 Bj (fun (d:Bool)=>(if d = true then some 0 else (if ((a.length:Int) == 1) = true then (AL a 0).bind fun e =>
 (Hs b (UInt8.toNat e:Int)).bind fun f =>
 some f else (if (decide ((b.length:Int) ≤ (a.length:Int))) = true then some (-1) else none)))) (fun c=>(if ((a.length:Int) == 0) = true then c (true) else c ((a == b))))
def HT (a:(List Aj)) (b:(List Aj)):Af Int :=
 (IR a b).bind fun c =>
 some c
def HG (a:(List Aj)):Nat → (List Aj) → Int → Af Int
 | 0,_,_=>none
 | m + 1,b,c=>(HT b a).bind fun d =>
 (if (d == (-1)) = true then some c else (sl b (Ag (d + (a.length:Int))) (b.length:Int)).bind fun e =>
 (HG a m) (e) ((Ag (c + 1))))
def Jv (b:(List Aj)) (a:(List Aj)):Af Int :=
 (if ((a.length:Int) == 0) = true then none else (if ((a.length:Int) == 1) = true then (AL a 0).bind fun c =>
 some (Yt b (UInt8.toNat c:Int)) else HG a FU (b) (0)))
def DK (g:Int) (h:(List Aj)) (d:(List Aj)) (e:((List Aj) → (List (List Aj)) → Int → Af (List (List Aj)))) (i:Int):Nat → (List Aj) → (List (List Aj)) → Int → Af (List (List Aj))
 | 0,_,_,_=>none
 | m + 1,a,c,b=>(if (decide (b < (Ag ((Fr g (Ag ((h.length:Int) + 1))) - 1)))) = true then (HT a d).bind fun f =>
 (if (decide (f < 0)) = true then e (a) (c) (b) else (sl a 0 (Ag (f + i))).bind fun j =>
 (AL c b).bind fun l =>
 (sl a (Ag (f + (d.length:Int))) (a.length:Int)).bind fun k =>
 (DK g h d e i m) (k) ((BE c b j)) ((Ag (b + 1)))) else e (a) (c) (b))
def Ju (a:(List Aj)) (b:(List Aj)) (h:Int) (c:Int):Af (List (List Aj)) :=
 (if (c == 0) = true then some [] else (if (b == []) = true then none else Bj (fun (e:Int)=>(Sf (Fr e (Ag ((a.length:Int) + 1))) []).bind fun i =>
 WB (fun (j:(List Aj)) (f:(List (List Aj))) (d:Int)=>(AL f d).bind fun n =>
 (sl (BE f d j) 0 (Ag (d + 1))).bind fun k =>
 some k) (fun l=>DK e a b l h FU (a) (i) (0))) (fun g=>(if (decide (c < 0)) = true then (Jv a b).bind fun m =>
 g ((Ag (m + 1))) else g (c)))))
def Ge (a:(List Aj)) (b:(List Aj)):Af (List (List Aj)) :=
 (Ju a b 0 (-1)).bind fun c =>
 some c
def JU (a:(List Aj)):Af ((List (List Aj)) × Bool) :=
 (if (a == []) = true then some ([],true) else (AL a (Ag ((a.length:Int) - 1))).bind fun b =>
 (if ((UInt8.toNat b:Int) != 10) = true then some ([],false) else (sl a 0 (Ag ((a.length:Int) - 1))).bind fun c =>
 (Ge c [10]).bind fun d =>
 some (d,true)))
def HJ (c:(List Aj)):Af ((List (List Aj)) × Bool) :=
 (JU c).bind fun a =>
 Bj (fun (d:Bool)=>(if d = true then some ([],false) else some (a.1,true))) (fun b=>(if (!a.2) = true then b (true) else (if (decide (2000 < (c.length:Int))) = true then b (true) else b ((decide (40 < (a.1.length:Int)))))))
def KM  : Af (Ae4 × Ae4 × Int × Ae4 × Ae5 × Ae7) :=
 some ([(0,0)],[(0,0)],8,[(4,120)],[],[((-1),0,0)])
def Fn (a:(List Aj)):Nat → Int → Int → Af (Int × Bool)
 | 0,_,_=>none
 | m + 1,c,b=>(if (decide (b < (a.length:Int))) = true then Bj (fun (e:Bool)=>(if e = true then some (0,false) else (AL a b).bind fun f =>
 (Fn a m) ((Ag ((Ag (10 * c)) + (Ag (M1 ((UInt8.toNat f:Int) - 48)))))) ((Ag (b + 1))))) (fun d=>(AL a b).bind fun g =>
 (if (decide ((UInt8.toNat g:Int) < 48)) = true then d (true) else (AL a b).bind fun h =>
 d ((decide (57 < (UInt8.toNat h:Int)))))) else some (c,true))
def JT (a:(List Aj)):Af (Int × Bool) :=
 Bj (fun (c:Bool)=>(if c = true then some (0,false) else Fn a FU (0) (0))) (fun b=>(if (a == []) = true then b (true) else (if (decide (9 < (a.length:Int))) = true then b (true) else (if (decide (1 < (a.length:Int))) = true then (AL a 0).bind fun d =>
 b (((UInt8.toNat d:Int) == 48)) else b (false)))))
def J2 (a:(List Aj)):Af Int :=
 Bj (fun (f:Bool)=>(if f = true then some 0 else Bj (fun (g:Bool)=>(if g = true then some 1 else Bj (fun (h:Bool)=>(if h = true then some 2 else Bj (fun (i:Bool)=>(if i = true then some 3 else (if (a == [99,97,114,114,121]) = true then some 4 else some (-1)))) (fun e=>(if (a == [112,108,97,99,101]) = true then e ((a == [112,108,97,99,101])) else e ((a == [118,101,114,115,105,111,110])))))) (fun c=>(if (a == [115,112,111,116]) = true then c ((a == [115,112,111,116])) else (if (a == [115,111,117,110,100]) = true then c ((a == [115,111,117,110,100])) else (if (a == [109,101,97,115,117,114,101]) = true then c ((a == [109,101,97,115,117,114,101])) else c ((a == [119,104,111])))))))) (fun b=>(if (a == [99,111,117,110,116,115]) = true then b ((a == [99,111,117,110,116,115])) else (if (a == [99,108,111,115,101]) = true then b ((a == [99,108,111,115,101])) else (if (a == [107,105,110,100]) = true then b ((a == [107,105,110,100])) else (if (a == [116,101,120,116]) = true then b ((a == [116,101,120,116])) else (if (a == [116,105,109,101]) = true then b ((a == [116,105,109,101])) else b ((a == [115,116,97,116,101])))))))))) (fun d=>(if (a == [109,105,114,114,111,114]) = true then d ((a == [109,105,114,114,111,114])) else (if (a == [107,101,101,112]) = true then d ((a == [107,101,101,112])) else (if (a == [115,117,109]) = true then d ((a == [115,117,109])) else d ((a == [108,101,97,115,116]))))))
def BZ (a:Int) (c:Int) (d:Int):Af Bool :=
 Bj (fun (e:Bool)=>some e) (fun b=>(if (decide (c ≤ a)) = true then b ((decide (a ≤ d))) else b (false)))
def Gx (a:(Int × Int)):Af Bool :=
 Bj (fun (c:Bool)=>some c) (fun b=>(BZ a.1 0 1280).bind fun d =>
 (if d = true then (BZ a.2 0 672).bind fun e =>
 b (e) else b (false)))
def Cq (b:Ae4) (c:(Int × Int)):Nat → Int → Af Int
 | 0,_=>none
 | m + 1,a=>(if (decide (a < (b.length:Int))) = true then (AL b a).bind fun d =>
 (if (MG c d) = true then some a else (Cq b c m) ((Ag (a + 1)))) else some (-1))
def E1 (a:Ae4) (b:(Int × Int)):Af Int :=
 Cq a b FU (0)
def Dk (a:Ae4) (b:(Int × Int)):Af Bool :=
 (E1 a b).bind fun u8 =>
 some (decide (0 ≤ u8))
def Fq (a:Ae4):Nat → Int → Af Bool
 | 0,_=>none
 | m + 1,b=>(if (decide (b < (a.length:Int))) = true then (AL a b).bind fun c =>
 Bj (fun (e:Bool)=>(if e = true then some false else (Fq a m) ((Ag (b + 1))))) (fun d=>(Gx c).bind fun f =>
 (if (!f) = true then d (true) else (sl a 0 b).bind fun g =>
 (Dk g c).bind fun u64 =>
 d (u64))) else some true)
def Ec (a:Ae4):Af Bool :=
 (BZ (a.length:Int) 1 12).bind fun b =>
 (if (!b) = true then some false else Fq a FU (0))
def I4 (a:Bool):Af (List Aj) :=
 (if a = true then some ([111,107]) else some ([110,111]))
def Dj (a:(Ae4 × Ae4 × Int × Ae4 × Ae5 × Ae7)) (d:Ae4) (b:Bool):Af ((List Aj) × (Ae4 × Ae4 × Int × Ae4 × Ae5 × Ae7)) :=
 Bj (fun (e:(Ae4 × Ae4 × Int × Ae4 × Ae5 × Ae7))=>(I4 b).bind fun f =>
 some (f,e)) (fun c=>(if b = true then c ((d,a.2.1,a.2.2.1,a.2.2.2.1,a.2.2.2.2.1,a.2.2.2.2.2)) else c (a)))
def Gn (a:Ae4):Af (Ae4 × Bool) :=
 (Ec a).bind fun b =>
 (if (!b) = true then some ([],false) else some (a,true))
def GG (a:Ae4) (b:Int) (d:(Int × Int)):Af (Ae4 × Bool) :=
 Bj (fun (f:Bool)=>(if f = true then some ([],false) else (Cg [] a).bind fun e =>
 (AL e b).bind fun j =>
 (Gn (BE e b d)).bind fun g =>
 some g)) (fun c=>(Ec a).bind fun h =>
 (if (!h) = true then c (true) else (BZ b 0 (Ag ((a.length:Int) - 1))).bind fun i =>
 (if (!i) = true then c (true) else (Gx d).bind fun u64 =>
 c ((!u64)))))
def DU (a:Ae4):Nat → Ae4 → Int → Af (Ae4 × Bool)
 | 0,_,_=>none
 | m + 1,c,b=>(if (decide (b < (a.length:Int))) = true then (AL a b).bind fun d =>
 (Cg c [((Ag (1280 - d.1)),d.2)]).bind fun e =>
 (DU a m) (e) ((Ag (b + 1))) else some (c,true))
def HN (a:Ae4):Af (Ae4 × Bool) :=
 (Ec a).bind fun b =>
 (if (!b) = true then some ([],false) else DU a FU ([]) (0))
def BH (a:(Ae4 × Ae4 × Int × Ae4 × Ae5 × Ae7)) (c:(List Aj)) (b:(List Int)):Af ((List Aj) × (Ae4 × Ae4 × Int × Ae4 × Ae5 × Ae7)) :=
 (if (c == [115,112,111,116]) = true then FT (fun (j:(Ae4 × Ae4 × Int × Ae4 × Ae5 × Ae7)) (k:(List Aj))=>some (k,j)) (fun l=>(AL b 0).bind fun m =>
 (AL b 1).bind fun n =>
 (Cg [] a.1).bind fun o =>
 (Cg o [(m,n)]).bind fun p =>
 (Gn p).bind fun d =>
 (Dj a d.1 d.2).bind fun e =>
 l (e.2) (e.1)) else (if (c == [112,108,97,99,101]) = true then (AL b 0).bind fun q =>
 (AL b 1).bind fun r =>
 (AL b 2).bind fun s =>
 (GG a.1 q (r,s)).bind fun f =>
 (Dj a f.1 f.2).bind fun g =>
 some (g.1,g.2) else (if (c == [109,105,114,114,111,114]) = true then (HN a.1).bind fun h =>
 (Dj a h.1 h.2).bind fun i =>
 some (i.1,i.2) else (if (c == [107,101,101,112]) = true then (Cg [] a.1).bind fun t =>
 some ([111,107],(a.1,t,a.2.2.1,a.2.2.2.1,a.2.2.2.2.1,a.2.2.2.2.2)) else (AL b 0).bind fun u =>
 (BZ u 1 64).bind fun v =>
 (if (!v) = true then some ([110,111],a) else (AL b 0).bind fun w =>
 some ([111,107],(a.1,a.2.1,w,a.2.2.2.1,a.2.2.2.2.1,a.2.2.2.2.2)))))))
def Fp (a:Ae4):Nat → Int → Af Bool
 | 0,_=>none
 | m + 1,b=>(if (decide (b < (a.length:Int))) = true then (AL a b).bind fun c =>
 Bj (fun (e:Bool)=>(if e = true then some false else (Fp a m) ((Ag (b + 1))))) (fun d=>(BZ c.1 1 12).bind fun f =>
 (if (!f) = true then d (true) else (BZ c.2 40 220).bind fun g =>
 d ((!g)))) else (BZ (a.length:Int) 1 40).bind fun h =>
 some h)
def I6 (a:Ae4):Af Bool :=
 Fp a FU (0)
def Dr (a:(Int × Int × Int × Int)) (b:(Int × Int × Int × Int)):Af Int :=
 (if (a.2.2.1 != b.2.2.1) = true then some (Ag (a.2.2.1 - b.2.2.1)) else some (Ag (a.2.1 - b.2.1)))
def JV (a:(Int × Int × Int × Int)):Af Bool :=
 Bj (fun (c:Bool)=>some c) (fun b=>(BZ a.1 1 12).bind fun d =>
 (if d = true then (BZ a.2.1 1 9).bind fun e =>
 (if e = true then (if (decide (0 ≤ a.2.2.1)) = true then (if (decide (a.2.2.1 < a.2.2.2)) = true then b ((decide (a.2.2.2 ≤ 1000))) else b (false)) else b (false)) else b (false)) else b (false)))
def D6 (c:Ae5) (a:(Int × Int × Int × Int)) (f:(Int → Af Bool)) (g:Int):Nat → Int → Af Bool
 | 0,_=>none
 | m + 1,d=>(if (decide (d < (c.length:Int))) = true then (AL c d).bind fun b =>
 Bj (fun (h:Bool)=>(if h = true then some false else (D6 c a f g m) ((Ag (d + 1))))) (fun e=>(if (a.2.1 == b.2.1) = true then e ((decide ((FB a.2.2.1 b.2.2.1) < (Fr a.2.2.2 b.2.2.2)))) else (if (a.1 == b.1) = true then e ((decide ((FB a.2.2.1 b.2.2.1) < (Fr a.2.2.2 b.2.2.2)))) else e (false)))) else f ((Ag (g + 1))))
def CE (b:Ae5):Nat → Int → Af Bool
 | 0,_=>none
 | m + 1,a=>(if (decide (a < (b.length:Int))) = true then (AL b a).bind fun c =>
 Bj (fun (e:Bool)=>(if e = true then some false else (sl b 0 a).bind fun f =>
 D6 f c (CE b m) a FU (0))) (fun d=>(if (decide (0 < a)) = true then (AL b (Ag (a - 1))).bind fun g =>
 (Dr g c).bind fun h =>
 d ((decide (0 ≤ h))) else d (false))) else some true)
def Ej (a:Ae5):Nat → Int → Af Bool
 | 0,_=>none
 | m + 1,b=>(if (decide (b < (a.length:Int))) = true then (AL a b).bind fun c =>
 (JV c).bind fun d =>
 (if (!d) = true then some false else (Ej a m) ((Ag (b + 1)))) else CE a FU (0))
def FZ (a:Ae5):Af Bool :=
 (if (decide (40 < (a.length:Int))) = true then some false else Ej a FU (0))
def DV (d:Ae7):Nat → Int → Af Bool
 | 0,_=>none
 | m + 1,a=>(if (decide (a < (d.length:Int))) = true then (AL d a).bind fun b =>
 Bj (fun (e:Bool)=>(if e = true then some false else (DV d m) ((Ag (a + 1))))) (fun c=>(if (decide (0 < a)) = true then (BZ b.1 0 (Ag (a - 1))).bind fun f =>
 (if (!f) = true then c (true) else (BZ b.2.1 0 7).bind fun g =>
 (if (!g) = true then c (true) else (BZ b.2.2 0 999).bind fun h =>
 c ((!h)))) else (BZ b.2.1 0 7).bind fun i =>
 (if (!i) = true then c (true) else (BZ b.2.2 0 999).bind fun j =>
 c ((!j))))) else some true)
def FL (a:Ae7):Af Bool :=
 Bj (fun (c:Bool)=>(if c = true then some false else DV a FU (0))) (fun b=>(BZ (a.length:Int) 1 60).bind fun d =>
 (if (!d) = true then b (true) else (AL a 0).bind fun e =>
 b ((e.1 != (-1)))))
def Io (a:Ae7) (c:(Int × Int × Int)):Af (Ae7 × Bool) :=
 (FL a).bind fun d =>
 (if (!d) = true then some ([],false) else Bj (fun (b:Ae7)=>(FL b).bind fun e =>
 (if (!e) = true then some ([],false) else some (b,true))) (fun f=>(Cg [] a).bind fun g =>
 (Cg g [c]).bind fun h =>
 f (h)))
def Bn (c:(Ae5 → Int → Af Ae5)) (d:Int) (e:Int):Nat → Ae5 → Int → Af Ae5
 | 0,_,_=>none
 | m + 1,b,a=>Bj (fun (h:Bool)=>(if h = true then Bj (fun (i:Ae5)=>(Bn c d e m) (i) ((Ag (a - 1)))) (fun j=>(AL b (Ag (a - 1))).bind fun f =>
 (AL b a).bind fun k =>
 (AL b a).bind fun p =>
 (AL (BE b a f) (Ag (a - 1))).bind fun q =>
 j ((BE (BE b a f) (Ag (a - 1)) k))) else c (b) ((Ag (d + 1))))) (fun g=>(if (decide (e < a)) = true then (AL b a).bind fun l =>
 (AL b (Ag (a - 1))).bind fun n =>
 (Dr l n).bind fun o =>
 g ((decide (o < 0))) else g (false)))
def AY (b:Int) (c:Int):Nat → Ae5 → Int → Af Ae5
 | 0,_,_=>none
 | m + 1,d,a=>(if (decide (a < b)) = true then Bn (AY b c m) a c FU (d) (a) else some d)
def Bk (b:Ae5) (a:Int) (c:Int):Af Ae5 :=
 AY c a FU (b) ((Ag (a + 1)))
def Bw (e:Int) (d:Int) (c:Int):Nat → Ae5 → Int → Af Ae5
 | 0,_,_=>none
 | m + 1,b,a=>(if (decide (a < e)) = true then Bj (fun (g:Ae5)=>(Bw e d c m) (g) ((Ag (a + 1)))) (fun h=>(AL b (Ag (d + a))).bind fun f =>
 (AL b (Ag (c + a))).bind fun i =>
 (AL b (Ag (c + a))).bind fun j =>
 (AL (BE b (Ag (c + a)) f) (Ag (d + a))).bind fun k =>
 h ((BE (BE b (Ag (c + a)) f) (Ag (d + a)) i))) else some b)
def B8 (a:Ae5) (b:Int) (c:Int) (d:Int):Af Ae5 :=
 Bw d c b FU (a) (0)
def B0 (b:Int):Nat → Ae5 → Int → Int → Af Ae5
 | 0,_,_,_=>none
 | m + 1,d,a,c=>(if (a != c) = true then (if (decide (c < a)) = true then (B8 d (Ag (b - a)) b c).bind fun e =>
 (B0 b m) (e) ((Ag (a - c))) (c) else (B8 d (Ag (b - a)) (Ag ((Ag (b + c)) - a)) a).bind fun f =>
 (B0 b m) (f) (a) ((Ag (c - a)))) else (B8 d (Ag (b - a)) b a).bind fun g =>
 some g)
def BI (b:Ae5) (c:Int) (a:Int) (d:Int):Af Ae5 :=
 B0 a FU (b) ((Ag (a - c))) ((Ag (d - a)))
def Bz (c:Int):Nat → Ae5 → Int → Af Ae5
 | 0,_,_=>none
 | m + 1,b,a=>(if (decide (a < (Ag (c - 1)))) = true then Bj (fun (e:Ae5)=>(Bz c m) (e) ((Ag (a + 1)))) (fun f=>(AL b (Ag (a + 1))).bind fun d =>
 (AL b a).bind fun g =>
 (AL b a).bind fun h =>
 (AL (BE b a d) (Ag (a + 1))).bind fun i =>
 f ((BE (BE b a d) (Ag (a + 1)) g))) else some b)
def AJ (b:Ae5) (d:Int):Nat → Int → Int → Af Ae5
 | 0,_,_=>none
 | m + 1,a,c=>(if (decide (a < c)) = true then (AL b (Ag (Br .u64 (Bh (Ag (a + c))) 1))).bind fun e =>
 (AL b d).bind fun f =>
 (Dr e f).bind fun g =>
 (if (decide (g < 0)) = true then (AJ b d m) ((Ag ((Ag (Br .u64 (Bh (Ag (a + c))) 1)) + 1))) (c) else (AJ b d m) (a) ((Ag (Br .u64 (Bh (Ag (a + c))) 1)))) else Bz a FU (b) (d))
def Bx (c:Int):Nat → Ae5 → Int → Af Ae5
 | 0,_,_=>none
 | m + 1,b,a=>(if (decide (c < a)) = true then Bj (fun (e:Ae5)=>(Bx c m) (e) ((Ag (a - 1)))) (fun f=>(AL b (Ag (a - 1))).bind fun d =>
 (AL b a).bind fun g =>
 (AL b a).bind fun h =>
 (AL (BE b a d) (Ag (a - 1))).bind fun i =>
 f ((BE (BE b a d) (Ag (a - 1)) g))) else some b)
def AH (b:Ae5) (d:Int):Nat → Int → Int → Af Ae5
 | 0,_,_=>none
 | m + 1,a,c=>(if (decide (a < c)) = true then (AL b d).bind fun e =>
 (AL b (Ag (Br .u64 (Bh (Ag (a + c))) 1))).bind fun f =>
 (Dr e f).bind fun g =>
 (if (!(decide (g < 0))) = true then (AH b d m) ((Ag ((Ag (Br .u64 (Bh (Ag (a + c))) 1)) + 1))) (c) else (AH b d m) (a) ((Ag (Br .u64 (Bh (Ag (a + c))) 1)))) else Bx a FU (b) (d))
def AG (e:Ae5) (b:Int) (c:Int) (d:Int) (rec:(Ae5 → Int → Int → Int → Af Ae5)):Nat → Int → Int → Af Ae5
 | 0,_,_=>none
 | m + 1,a,f=>(if (decide (a < f)) = true then (AL e (Ag ((Ag ((Ag ((Ag (Br .u64 (Bh (Ag (b + c))) 1)) + d)) - 1)) - (Ag (Br .u64 (Bh (Ag (a + f))) 1))))).bind fun o =>
 (AL e (Ag (Br .u64 (Bh (Ag (a + f))) 1))).bind fun p =>
 (Dr o p).bind fun q =>
 (if (!(decide (q < 0))) = true then (AG e b c d rec m) ((Ag ((Ag (Br .u64 (Bh (Ag (a + f))) 1)) + 1))) (f) else (AG e b c d rec m) (a) ((Ag (Br .u64 (Bh (Ag (a + f))) 1)))) else Bj (fun (g:Ae5)=>Bj (fun (h:Ae5)=>Bj (fun (r:Bool)=>(if r = true then (rec h (Ag (Br .u64 (Bh (Ag (b + c))) 1)) (Ag ((Ag ((Ag (Br .u64 (Bh (Ag (b + c))) 1)) + d)) - a)) c).bind fun s =>
 some s else some h)) (fun i=>(if (decide ((Ag (Br .u64 (Bh (Ag (b + c))) 1)) < (Ag ((Ag ((Ag (Br .u64 (Bh (Ag (b + c))) 1)) + d)) - a)))) = true then i ((decide ((Ag ((Ag ((Ag (Br .u64 (Bh (Ag (b + c))) 1)) + d)) - a)) < c))) else i (false)))) (fun j=>Bj (fun (t:Bool)=>(if t = true then (rec g b a (Ag (Br .u64 (Bh (Ag (b + c))) 1))).bind fun u =>
 j (u) else j (g))) (fun k=>(if (decide (b < a)) = true then k ((decide (a < (Ag (Br .u64 (Bh (Ag (b + c))) 1))))) else k (false))))) (fun l=>Bj (fun (v:Bool)=>(if v = true then (BI e a d (Ag ((Ag ((Ag (Br .u64 (Bh (Ag (b + c))) 1)) + d)) - a))).bind fun w =>
 l (w) else l (e))) (fun n=>(if (decide (a < d)) = true then n ((decide (d < (Ag ((Ag ((Ag (Br .u64 (Bh (Ag (b + c))) 1)) + d)) - a))))) else n (false)))))
def BX (rec:Ae5 → Int → Int → Int → Af Ae5) (d:Ae5) (b:Int) (a:Int) (c:Int):Af Ae5 :=
 (if ((Ag (a - b)) == 1) = true then AJ d b FU (a) (c) else (if ((Ag (c - a)) == 1) = true then AH d a FU (b) (a) else FT (fun (f:Int) (g:Int)=>AG d b c a rec FU (f) (g)) (fun e=>(if (decide ((Ag (Br .u64 (Bh (Ag (b + c))) 1)) < a)) = true then e ((Ag ((Ag ((Ag (Br .u64 (Bh (Ag (b + c))) 1)) + a)) - c))) ((Ag (Br .u64 (Bh (Ag (b + c))) 1))) else e (b) (a)))))
def AO:Nat → Ae5 → Int → Int → Int → Af Ae5
 | 0,_,_,_,_=>none
 | m + 1,a,b,c,d=>BX (AO m) a b c d
def Cd (a:Ae5) (b:Int) (c:Int) (d:Int):Af Ae5 :=
 AO FU a b c d
def Bo (c:Int) (a:Int) (f:(Ae5 → Int → Af Ae5)):Nat → Ae5 → Int → Int → Af Ae5
 | 0,_,_,_=>none
 | m + 1,e,b,d=>(if (decide (d ≤ c)) = true then (Cd e b (Ag (b + a)) d).bind fun h =>
 (Bo c a f m) (h) (d) ((Ag (d + (Ag (2 * a))))) else Bj (fun (i:Ae5)=>f (i) ((Ag (a * 2)))) (fun g=>(if (decide ((Ag (b + a)) < c)) = true then (Cd e b (Ag (b + a)) c).bind fun j =>
 g (j) else g (e))))
def AF (a:Int):Nat → Ae5 → Int → Af Ae5
 | 0,_,_=>none
 | m + 1,c,b=>(if (decide (b < a)) = true then Bo a b (AF a m) FU (c) (0) ((Ag (2 * b))) else some c)
def AM (a:Int):Nat → Ae5 → Int → Int → Af Ae5
 | 0,_,_,_=>none
 | m + 1,c,d,b=>(if (decide (b ≤ a)) = true then (Bk c d b).bind fun e =>
 (AM a m) (e) (b) ((Ag (b + 20))) else (Bk c d a).bind fun f =>
 AF a FU (f) (20))
def C7 (a:Ae5) (b:Int):Af Ae5 :=
 AM b FU (a) (0) (20)
def B7 (a:Ae5):Af Ae5 :=
 (C7 a (a.length:Int)).bind fun b =>
 some b
def CG (a:(Ae4 × Ae4 × Int × Ae4 × Ae5 × Ae7)) (f:(List Aj)) (b:(List Int)):Af ((List Aj) × (Ae4 × Ae4 × Int × Ae4 × Ae5 × Ae7)) :=
 (if (f == [109,101,97,115,117,114,101]) = true then FT (fun (c:(Ae4 × Ae4 × Int × Ae4 × Ae5 × Ae7)) (g:Ae4)=>(I6 g).bind fun j =>
 (if (!j) = true then some ([110,111],c) else some ([111,107],(c.1,c.2.1,c.2.2.1,g,c.2.2.2.2.1,c.2.2.2.2.2)))) (fun k=>(AL b 0).bind fun l =>
 (AL b 1).bind fun m =>
 (Cg [] a.2.2.2.1).bind fun n =>
 (Cg n [(l,m)]).bind fun o =>
 k (a) (o)) else (if (f == [99,97,114,114,121]) = true then FT (fun (d:(Ae4 × Ae4 × Int × Ae4 × Ae5 × Ae7)) (p:Ae5)=>(B7 p).bind fun h =>
 (FZ h).bind fun q =>
 (if (!q) = true then some ([110,111],d) else some ([111,107],(d.1,d.2.1,d.2.2.1,d.2.2.2.1,h,d.2.2.2.2.2)))) (fun r=>(AL b 0).bind fun s =>
 (AL b 1).bind fun t =>
 (AL b 2).bind fun u =>
 (AL b 3).bind fun v =>
 (Cg [] a.2.2.2.2.1).bind fun w =>
 (Cg w [(s,t,u,v)]).bind fun x =>
 r (a) (x)) else (AL b 0).bind fun y =>
 (AL b 1).bind fun z =>
 (AL b 2).bind fun aa =>
 (Io a.2.2.2.2.2 (y,z,aa)).bind fun e =>
 Bj (fun (ab:(Ae4 × Ae4 × Int × Ae4 × Ae5 × Ae7))=>(I4 e.2).bind fun ac =>
 some (ac,ab)) (fun i=>(if e.2 = true then i ((a.1,a.2.1,a.2.2.1,a.2.2.2.1,a.2.2.2.2.1,e.1)) else i (a)))))
def H7 (b:Ae4) (c:Ae4) (d:Int):Af Bool :=
 Bj (fun (e:Bool)=>some e) (fun a=>(Ec b).bind fun f =>
 (if f = true then (Ec c).bind fun g =>
 (if g = true then (if ((b.length:Int) == (c.length:Int)) = true then (BZ d 1 64).bind fun h =>
 a (h) else a (false)) else a (false)) else a (false)))
def Eg (a:(Int × Int)) (b:(Int × Int)):Af Int :=
 some (Ag ((Ag ((Ag (a.1 - b.1)) * (Ag (a.1 - b.1)))) + (Ag ((Ag (a.2 - b.2)) * (Ag (a.2 - b.2))))))
def Eu (a:Ae4) (c:(Int × Int)) (d:Ae9) (e:(Ae9 → Int → Af Ae9)) (f:Int):Nat → (List Int) → Int → Af Ae9
 | 0,_,_=>none
 | m + 1,g,b=>(if (decide (b < (a.length:Int))) = true then (AL a b).bind fun h =>
 (Eg c h).bind fun i =>
 (Cg g [i]).bind fun j =>
 (Eu a c d e f m) (j) ((Ag (b + 1))) else (Cg d [g]).bind fun k =>
 e (k) ((Ag (f + 1))))
def DF (a:Ae4) (c:Ae4):Nat → Ae9 → Int → Af Ae9
 | 0,_,_=>none
 | m + 1,d,b=>(if (decide (b < (a.length:Int))) = true then (AL a b).bind fun e =>
 Eu c e d (DF a c m) b FU ([]) (0) else some d)
def IH (a:Ae4) (b:Ae4):Af Ae9 :=
 DF a b FU ([]) (0)
def Lg (a:Int):Af Int :=
 some (B3 .i64 (Ag (Bh ((Bh ((Bh ((B3 .u64 (Bh ((Br .u64 (Bh ((B3 .u64 (Br .u64 (Bh ((B3 .u64 (Br .u64 a 1) 6148914691236517205) + (B3 .u64 a 6148914691236517205))) 2) 3689348814741910323) + (B3 .u64 (Bh ((B3 .u64 (Br .u64 a 1) 6148914691236517205) + (B3 .u64 a 6148914691236517205))) 3689348814741910323))) 4) + (Bh ((B3 .u64 (Br .u64 (Bh ((B3 .u64 (Br .u64 a 1) 6148914691236517205) + (B3 .u64 a 6148914691236517205))) 2) 3689348814741910323) + (B3 .u64 (Bh ((B3 .u64 (Br .u64 a 1) 6148914691236517205) + (B3 .u64 a 6148914691236517205))) 3689348814741910323))))) 1085102592571150095) + (Br .u64 (B3 .u64 (Bh ((Br .u64 (Bh ((B3 .u64 (Br .u64 (Bh ((B3 .u64 (Br .u64 a 1) 6148914691236517205) + (B3 .u64 a 6148914691236517205))) 2) 3689348814741910323) + (B3 .u64 (Bh ((B3 .u64 (Br .u64 a 1) 6148914691236517205) + (B3 .u64 a 6148914691236517205))) 3689348814741910323))) 4) + (Bh ((B3 .u64 (Br .u64 (Bh ((B3 .u64 (Br .u64 a 1) 6148914691236517205) + (B3 .u64 a 6148914691236517205))) 2) 3689348814741910323) + (B3 .u64 (Bh ((B3 .u64 (Br .u64 a 1) 6148914691236517205) + (B3 .u64 a 6148914691236517205))) 3689348814741910323))))) 1085102592571150095) 8))) + (Br .u64 (Bh ((B3 .u64 (Bh ((Br .u64 (Bh ((B3 .u64 (Br .u64 (Bh ((B3 .u64 (Br .u64 a 1) 6148914691236517205) + (B3 .u64 a 6148914691236517205))) 2) 3689348814741910323) + (B3 .u64 (Bh ((B3 .u64 (Br .u64 a 1) 6148914691236517205) + (B3 .u64 a 6148914691236517205))) 3689348814741910323))) 4) + (Bh ((B3 .u64 (Br .u64 (Bh ((B3 .u64 (Br .u64 a 1) 6148914691236517205) + (B3 .u64 a 6148914691236517205))) 2) 3689348814741910323) + (B3 .u64 (Bh ((B3 .u64 (Br .u64 a 1) 6148914691236517205) + (B3 .u64 a 6148914691236517205))) 3689348814741910323))))) 1085102592571150095) + (Br .u64 (B3 .u64 (Bh ((Br .u64 (Bh ((B3 .u64 (Br .u64 (Bh ((B3 .u64 (Br .u64 a 1) 6148914691236517205) + (B3 .u64 a 6148914691236517205))) 2) 3689348814741910323) + (B3 .u64 (Bh ((B3 .u64 (Br .u64 a 1) 6148914691236517205) + (B3 .u64 a 6148914691236517205))) 3689348814741910323))) 4) + (Bh ((B3 .u64 (Br .u64 (Bh ((B3 .u64 (Br .u64 a 1) 6148914691236517205) + (B3 .u64 a 6148914691236517205))) 2) 3689348814741910323) + (B3 .u64 (Bh ((B3 .u64 (Br .u64 a 1) 6148914691236517205) + (B3 .u64 a 6148914691236517205))) 3689348814741910323))))) 1085102592571150095) 8))) 16))) + (Br .u64 (Bh ((Bh ((B3 .u64 (Bh ((Br .u64 (Bh ((B3 .u64 (Br .u64 (Bh ((B3 .u64 (Br .u64 a 1) 6148914691236517205) + (B3 .u64 a 6148914691236517205))) 2) 3689348814741910323) + (B3 .u64 (Bh ((B3 .u64 (Br .u64 a 1) 6148914691236517205) + (B3 .u64 a 6148914691236517205))) 3689348814741910323))) 4) + (Bh ((B3 .u64 (Br .u64 (Bh ((B3 .u64 (Br .u64 a 1) 6148914691236517205) + (B3 .u64 a 6148914691236517205))) 2) 3689348814741910323) + (B3 .u64 (Bh ((B3 .u64 (Br .u64 a 1) 6148914691236517205) + (B3 .u64 a 6148914691236517205))) 3689348814741910323))))) 1085102592571150095) + (Br .u64 (B3 .u64 (Bh ((Br .u64 (Bh ((B3 .u64 (Br .u64 (Bh ((B3 .u64 (Br .u64 a 1) 6148914691236517205) + (B3 .u64 a 6148914691236517205))) 2) 3689348814741910323) + (B3 .u64 (Bh ((B3 .u64 (Br .u64 a 1) 6148914691236517205) + (B3 .u64 a 6148914691236517205))) 3689348814741910323))) 4) + (Bh ((B3 .u64 (Br .u64 (Bh ((B3 .u64 (Br .u64 a 1) 6148914691236517205) + (B3 .u64 a 6148914691236517205))) 2) 3689348814741910323) + (B3 .u64 (Bh ((B3 .u64 (Br .u64 a 1) 6148914691236517205) + (B3 .u64 a 6148914691236517205))) 3689348814741910323))))) 1085102592571150095) 8))) + (Br .u64 (Bh ((B3 .u64 (Bh ((Br .u64 (Bh ((B3 .u64 (Br .u64 (Bh ((B3 .u64 (Br .u64 a 1) 6148914691236517205) + (B3 .u64 a 6148914691236517205))) 2) 3689348814741910323) + (B3 .u64 (Bh ((B3 .u64 (Br .u64 a 1) 6148914691236517205) + (B3 .u64 a 6148914691236517205))) 3689348814741910323))) 4) + (Bh ((B3 .u64 (Br .u64 (Bh ((B3 .u64 (Br .u64 a 1) 6148914691236517205) + (B3 .u64 a 6148914691236517205))) 2) 3689348814741910323) + (B3 .u64 (Bh ((B3 .u64 (Br .u64 a 1) 6148914691236517205) + (B3 .u64 a 6148914691236517205))) 3689348814741910323))))) 1085102592571150095) + (Br .u64 (B3 .u64 (Bh ((Br .u64 (Bh ((B3 .u64 (Br .u64 (Bh ((B3 .u64 (Br .u64 a 1) 6148914691236517205) + (B3 .u64 a 6148914691236517205))) 2) 3689348814741910323) + (B3 .u64 (Bh ((B3 .u64 (Br .u64 a 1) 6148914691236517205) + (B3 .u64 a 6148914691236517205))) 3689348814741910323))) 4) + (Bh ((B3 .u64 (Br .u64 (Bh ((B3 .u64 (Br .u64 a 1) 6148914691236517205) + (B3 .u64 a 6148914691236517205))) 2) 3689348814741910323) + (B3 .u64 (Bh ((B3 .u64 (Br .u64 a 1) 6148914691236517205) + (B3 .u64 a 6148914691236517205))) 3689348814741910323))))) 1085102592571150095) 8))) 16))) 32)))) 127)
def H9 (a:Int):Af Int :=
 (Lg a).bind fun b =>
 some b
def DH (d:Ae9) (a:Int) (e:Int) (f:((List Int) → Int → Af (List Int))):Nat → (List Int) → Int → Af (List Int)
 | 0,_,_=>none
 | m + 1,b,c=>(if (decide (c < (d.length:Int))) = true then Bj (fun (h:(List Int))=>(DH d a e f m) (h) ((Ag (c + 1)))) (fun g=>(if (decide (0 ≤ c)) = true then (if ((B3 .i64 (Br .i64 a c) 1) == 0) = true then (AL b a).bind fun i =>
 (AL d e).bind fun j =>
 (AL j c).bind fun k =>
 (AL b (Tr .i64 a (KD .i64 1 c))).bind fun l =>
 (AL b a).bind fun n =>
 g ((BE b a (Fr i (Ag (k + l))))) else g (b)) else none)) else f (b) ((Ag (a - 1))))
def Ex (c:Ae9):Nat → (List Int) → Int → Af (List Int)
 | 0,_,_=>none
 | m + 1,b,a=>(if (decide (0 ≤ a)) = true then (H9 (Bh a)).bind fun d =>
 (AL b a).bind fun e =>
 DH c a d (Ex c m) FU ((BE b a 13194139533312)) (0) else some b)
def IK (a:Ae9):Af (List Int) :=
 (if (decide (0 ≤ (a.length:Int))) = true then (Sf (KD .i64 1 (a.length:Int)) 0).bind fun b =>
 Ex a FU (b) ((Ag ((KD .i64 1 (a.length:Int)) - 2))) else none)
def Dx (c:Ae9) (d:(List Int)) (e:(Int → (List Int) → Af (List Int))) (b:Int) (g:Int) (f:(List Int)):Nat → Int → Af (List Int)
 | 0,_=>none
 | m + 1,a=>(if (decide (a < (c.length:Int))) = true then Bj (fun (i:Bool)=>(if i = true then (Cg d [a]).bind fun j =>
 (if (decide (0 ≤ a)) = true then e ((Tr .i64 b (KD .i64 1 a))) (j) else none) else (Dx c d e b g f m) ((Ag (a + 1))))) (fun h=>(if (decide (0 ≤ a)) = true then (if ((B3 .i64 (Br .i64 b a) 1) == 0) = true then (AL c g).bind fun k =>
 (AL k a).bind fun l =>
 (AL f b).bind fun n =>
 (AL f (Tr .i64 b (KD .i64 1 a))).bind fun o =>
 h (((Ag (l + o)) == n)) else h (false)) else none)) else e (b) (d))
def Dy (a:Ae9) (c:(List Int)):Nat → Int → (List Int) → Int → Af (List Int)
 | 0,_,_,_=>none
 | m + 1,e,d,b=>(if (decide (b < (a.length:Int))) = true then FT (fun (f:Int) (g:(List Int))=>(Dy a c m) (f) (g) ((Ag (b + 1)))) (fun h=>Dx a d h e b c FU (0)) else some d)
def GZ (a:Ae9):Af (List Int) :=
 (IK a).bind fun b =>
 Dy a b FU (0) ([]) (0)
def Fx (a:(List Int)):Af (List Int) :=
 (Cg [] a).bind fun b =>
 some b
def EN (a:Ae4) (b:Ae4) (c:Int) (d:(List Int)):Af (Ae4 × Ae4 × Int × (List Int)) :=
 (Cg [] a).bind fun e =>
 (Cg [] b).bind fun f =>
 (Fx d).bind fun g =>
 some (e,f,c,g)
def Gv (a:Ae4) (b:Ae4) (c:Int):Af ((Ae4 × Ae4 × Int × (List Int)) × Bool) :=
 (H7 a b c).bind fun d =>
 (if (!d) = true then some (([],[],0,[]),false) else (IH a b).bind fun e =>
 (GZ e).bind fun f =>
 (EN a b c f).bind fun g =>
 some (g,true))
def Ei (b:(List Int)) (c:Int):Nat → Int → Int → Af Bool
 | 0,_,_=>none
 | m + 1,e,d=>(if (decide (d < (b.length:Int))) = true then (AL b d).bind fun a =>
 Bj (fun (g:Bool)=>(if g = true then some false else (if (decide (0 ≤ a)) = true then (Ei b c m) ((Tr .i64 e (KD .i64 1 a))) ((Ag (d + 1))) else none))) (fun f=>(BZ a 0 (Ag (c - 1))).bind fun h =>
 (if (!h) = true then f (true) else (if (decide (0 ≤ a)) = true then f (((B3 .i64 (Br .i64 e a) 1) == 1)) else none))) else some ((b.length:Int) == c))
def Il (a:(List Int)) (b:Int):Af Bool :=
 Ei a b FU (0) (0)
def Fu (a:(Ae4 × Ae4 × Int × (List Int))):Af Bool :=
 Bj (fun (c:Bool)=>some c) (fun b=>(Ec a.1).bind fun d =>
 (if d = true then (Ec a.2.1).bind fun e =>
 (if e = true then (if ((a.1.length:Int) == (a.2.1.length:Int)) = true then (BZ a.2.2.1 1 64).bind fun f =>
 (if f = true then (Il a.2.2.2 (a.1.length:Int)).bind fun g =>
 b (g) else b (false)) else b (false)) else b (false)) else b (false)))
def Ev (a:(Ae4 × Ae4 × Int × (List Int))):Nat → Int → Int → Af Int
 | 0,_,_=>none
 | m + 1,c,b=>(if (decide (b < (a.2.2.2.length:Int))) = true then (AL a.2.2.2 b).bind fun d =>
 (AL a.1 b).bind fun e =>
 (AL a.2.1 d).bind fun f =>
 (Eg e f).bind fun g =>
 (Ev a m) ((Ag (c + g))) ((Ag (b + 1))) else some c)
def II (a:(Ae4 × Ae4 × Int × (List Int))):Af Int :=
 Ev a FU (0) (0)
def H8 (a:(Ae4 × Ae4 × Int × (List Int))):Af (Int × Bool) :=
 (Fu a).bind fun b =>
 (if (!b) = true then some (0,false) else (II a).bind fun c =>
 some (c,true))
def Fw (a:Int) (b:Bool):Af (List Aj) :=
 (if b = true then (CY a).bind fun c =>
 some c else some ([110,111]))
def Dg (a:Ae4) (c:Ae4) (d:Int):Nat → (List Int) → Int → Af ((Ae4 × Ae4 × Int × (List Int)) × Bool)
 | 0,_,_=>none
 | m + 1,e,b=>(if (decide (b < (a.length:Int))) = true then (Cg e [b]).bind fun f =>
 (Dg a c d m) (f) ((Ag (b + 1))) else (EN a c d e).bind fun g =>
 some (g,true))
def EV (a:Ae4) (b:Ae4) (c:Int):Af ((Ae4 × Ae4 × Int × (List Int)) × Bool) :=
 (H7 a b c).bind fun d =>
 (if (!d) = true then some (([],[],0,[]),false) else Dg a b c FU ([]) (0))
def I5 (a:Int):Af Bool :=
 (BZ a 0 80).bind fun b =>
 some b
def Fo (a:(Ae4 × Ae4 × Int × (List Int))):Nat → (List Ae6) → Int → Af (List Ae6)
 | 0,_,_=>none
 | m + 1,c,b=>(if (decide (b < (a.2.2.2.length:Int))) = true then (AL a.2.2.2 b).bind fun d =>
 (AL a.1 b).bind fun e =>
 (AL a.2.1 d).bind fun f =>
 (Cg c [(e,f,a.2.2.1)]).bind fun g =>
 (Fo a m) (g) ((Ag (b + 1))) else some c)
def H6 (a:(Ae4 × Ae4 × Int × (List Int))):Af (List Ae6) :=
 Fo a FU ([]) (0)
def Lt (a:Ae6) (b:Ae6):Af ((Int × Int) × (Int × Int) × Int × Int) :=
 some (((Ag (a.1.1 - b.1.1)),(Ag (a.1.2 - b.1.2))),((Ag ((Ag (a.2.1.1 - b.2.1.1)) - (Ag (a.1.1 - b.1.1)))),(Ag ((Ag (a.2.1.2 - b.2.1.2)) - (Ag (a.1.2 - b.1.2))))),(Ag ((Ag ((Ag (a.1.1 - b.1.1)) * (Ag ((Ag (a.2.1.1 - b.2.1.1)) - (Ag (a.1.1 - b.1.1)))))) + (Ag ((Ag (a.1.2 - b.1.2)) * (Ag ((Ag (a.2.1.2 - b.2.1.2)) - (Ag (a.1.2 - b.1.2)))))))),(Ag ((Ag ((Ag ((Ag (a.2.1.1 - b.2.1.1)) - (Ag (a.1.1 - b.1.1)))) * (Ag ((Ag (a.2.1.1 - b.2.1.1)) - (Ag (a.1.1 - b.1.1)))))) + (Ag ((Ag ((Ag (a.2.1.2 - b.2.1.2)) - (Ag (a.1.2 - b.1.2)))) * (Ag ((Ag (a.2.1.2 - b.2.1.2)) - (Ag (a.1.2 - b.1.2)))))))))
def Ha  : Nat → Int → Int → Af Int
 | 0,_,_=>none
 | m + 1,b,a=>(if (a != 0) = true then (if a = 0 then none else (Ha m) (a) ((Int.tmod b a))) else some b)
def Mw (a:Int) (b:Int):Af Int :=
 Ha FU ((FB a (Ag (0 - a)))) ((FB b (Ag (0 - b))))
def FK (b:Int) (c:Int):Af (Int × Int) :=
 (Mw b c).bind fun a =>
 (if a = 0 then none else (if a = 0 then none else some ((Ag (Int.tdiv b a)),(Ag (Int.tdiv c a)))))
def Ik (b:Ae6) (c:Ae6):Af (Int × Int) :=
 (Lt b c).bind fun a =>
 (if (decide (0 ≤ a.2.2.1)) = true then some ((Ag ((Ag (a.1.1 * a.1.1)) + (Ag (a.1.2 * a.1.2)))),1) else (if (decide (a.2.2.2 ≤ (Ag (0 - a.2.2.1)))) = true then (Eg b.2.1 c.2.1).bind fun d =>
 some (d,1) else (FK (Ag ((Ag ((Ag (a.1.1 * a.2.1.2)) - (Ag (a.1.2 * a.2.1.1)))) * (Ag ((Ag (a.1.1 * a.2.1.2)) - (Ag (a.1.2 * a.2.1.1)))))) a.2.2.2).bind fun e =>
 some e))
def IG (c:Ae6) (d:Ae6) (a:Int):Af Bool :=
 (Ik c d).bind fun b =>
 some (decide ((Ag ((Ag (a * a)) * b.2)) ≤ b.1))
def Dz (u8:(List Ae6)) (a:Int) (d:Int) (e:(Ae9 → Int → Af Ae9)):Nat → Ae9 → Int → Af Ae9
 | 0,_,_=>none
 | m + 1,c,b=>(if (decide (b < (u8.length:Int))) = true then Bj (fun (g:Ae9)=>(Dz u8 a d e m) (g) ((Ag (b + 1)))) (fun f=>(AL u8 a).bind fun h =>
 (AL u8 b).bind fun i =>
 (IG h i d).bind fun j =>
 (if (!j) = true then (Cg c [[a,b]]).bind fun k =>
 f (k) else f (c))) else e (c) ((Ag (a + 1))))
def D0 (u8:(List Ae6)) (b:Int):Nat → Ae9 → Int → Af Ae9
 | 0,_,_=>none
 | m + 1,c,a=>(if (decide (a < (u8.length:Int))) = true then Dz u8 a b (D0 u8 b m) FU (c) ((Ag (a + 1))) else some c)
def Hc (a:(Ae4 × Ae4 × Int × (List Int))) (b:Int):Af Ae9 :=
 (H6 a).bind fun u8 =>
 D0 u8 b FU ([]) (0)
def Hd (a:(Ae4 × Ae4 × Int × (List Int))) (b:Int):Af (Ae9 × Bool) :=
 Bj (fun (d:Bool)=>(if d = true then some ([],false) else (Hc a b).bind fun e =>
 some (e,true))) (fun c=>(Fu a).bind fun f =>
 (if (!f) = true then c (true) else (I5 b).bind fun g =>
 c ((!g))))
def CD (a:(Ae9 × Bool)):Nat → (List (List Aj)) → Int → Af (List Aj)
 | 0,_,_=>none
 | m + 1,c,b=>(if (decide (b < (a.1.length:Int))) = true then Bj (fun (e:(List (List Aj)))=>(CD a m) (e) ((Ag (b + 1)))) (fun f=>(AL a.1 b).bind fun d =>
 (AL d 0).bind fun g =>
 (AL d 1).bind fun h =>
 (CY g).bind fun i =>
 (Cg i [45]).bind fun j =>
 (CY h).bind fun k =>
 (Cg j k).bind fun l =>
 (Cg c [l]).bind fun n =>
 f (n)) else (I0 c [32]).bind fun o =>
 some o)
def GO (b:(Ae4 × Ae4 × Int × Ae4 × Ae5 × Ae7)) (d:Int):Af (List Aj) :=
 WA (fun (e:Ae4) (f:Ae4) (g:Int) (h:(List Int))=>(Hd (e,f,g,h) d).bind fun c =>
 (if (!c.2) = true then some ([110,111]) else (if ((c.1.length:Int) == 0) = true then some ([110,111,110,101]) else CD c FU ([]) (0)))) (fun i=>(EV b.2.1 b.1 b.2.2.1).bind fun a =>
 i (a.1.1) (a.1.2.1) (a.1.2.2.1) (a.1.2.2.2))
def JC (a:(Ae4 × Ae4 × Int × (List Int))):Af Bool :=
 Bj (fun (c:Bool)=>some c) (fun b=>(Fu a).bind fun d =>
 (if d = true then (if (decide (a.2.2.1 ≤ 16)) = true then b ((decide ((a.1.length:Int) ≤ 6))) else b (false)) else b (false)))
def FSx (a:Ae6) (b:Int):Af (Int × Int) :=
 some ((Ag ((Ag (a.1.1 * a.2.2)) + (Ag (b * (Ag (a.2.1.1 - a.1.1)))))),(Ag ((Ag (a.1.2 * a.2.2)) + (Ag (b * (Ag (a.2.1.2 - a.1.2)))))))
def Gj (a:Ae6) (b:Int) (c:Int):Af (Int × Int) :=
 (FSx a (Fr (FB (Ag (c - b)) 0) a.2.2)).bind fun u8 =>
 some u8
def JX (a:Int) (b:Int):Af (Int × Int) :=
 some ((Bh ((Bh ((Bh ((Br .u64 a 32) * (Br .u64 b 32))) + (Br .u64 (Bh ((Bh ((Br .u64 a 32) * (B3 .u64 b 4294967295))) + (Br .u64 (Bh ((B3 .u64 a 4294967295) * (B3 .u64 b 4294967295))) 32))) 32))) + (Br .u64 (Bh ((B3 .u64 (Bh ((Bh ((Br .u64 a 32) * (B3 .u64 b 4294967295))) + (Br .u64 (Bh ((B3 .u64 a 4294967295) * (B3 .u64 b 4294967295))) 32))) 4294967295) + (Bh ((B3 .u64 a 4294967295) * (Br .u64 b 32))))) 32))),(Bh (a * b)))
def Ft (d:Int) (e:Int) (f:Int) (g:Int):Af Bool :=
 (JX (Bh d) (Bh g)).bind fun a =>
 (JX (Bh f) (Bh e)).bind fun b =>
 Bj (fun (h:Bool)=>some h) (fun c=>(if (decide (a.1 < b.1)) = true then c (true) else (if (a.1 == b.1) = true then c ((decide (a.2 < b.2))) else c (false))))
def C1 (e:Ae6) (g:Int) (h:Int) (k:Ae6):Nat → Int → Int → Int → Int → Int → Af (Int × Int)
 | 0,_,_,_,_,_=>none
 | m + 1,c,d,i,j,f=>(if (decide (f ≤ (Ag (e.2.2 + (FB g h))))) = true then (Gj e g f).bind fun a =>
 (Gj k h f).bind fun b =>
 FT (fun (l:Int) (n:Int)=>FT (fun (s:Int) (t:Int)=>(C1 e g h k m) ((Ag (a.1 - b.1))) ((Ag (a.2 - b.2))) (s) (t) ((Ag (f + 1)))) (fun o=>(Ft l n i j).bind fun u =>
 (if u = true then o (l) (n) else o (i) (j)))) (fun p=>Bj (fun (v:Bool)=>(if v = true then p ((Ag ((Ag ((Ag (c * (Ag ((Ag (a.2 - b.2)) - d)))) - (Ag (d * (Ag ((Ag (a.1 - b.1)) - c)))))) * (Ag ((Ag (c * (Ag ((Ag (a.2 - b.2)) - d)))) - (Ag (d * (Ag ((Ag (a.1 - b.1)) - c))))))))) ((Ag ((Ag ((Ag ((Ag (a.1 - b.1)) - c)) * (Ag ((Ag (a.1 - b.1)) - c)))) + (Ag ((Ag ((Ag (a.2 - b.2)) - d)) * (Ag ((Ag (a.2 - b.2)) - d))))))) else p ((Ag ((Ag ((Ag (a.1 - b.1)) * (Ag (a.1 - b.1)))) + (Ag ((Ag (a.2 - b.2)) * (Ag (a.2 - b.2))))))) (1))) (fun q=>(if (decide ((Ag ((Ag (c * (Ag ((Ag (a.1 - b.1)) - c)))) + (Ag (d * (Ag ((Ag (a.2 - b.2)) - d)))))) < 0)) = true then q ((decide ((Ag (0 - (Ag ((Ag (c * (Ag ((Ag (a.1 - b.1)) - c)))) + (Ag (d * (Ag ((Ag (a.2 - b.2)) - d)))))))) < (Ag ((Ag ((Ag ((Ag (a.1 - b.1)) - c)) * (Ag ((Ag (a.1 - b.1)) - c)))) + (Ag ((Ag ((Ag (a.2 - b.2)) - d)) * (Ag ((Ag (a.2 - b.2)) - d))))))))) else q (false)))) else (FK i j).bind fun r =>
 (FK r.1 (Ag ((Ag (r.2 * e.2.2)) * e.2.2))).bind fun w =>
 some w)
def Gl (c:Ae6) (d:Ae6) (e:Int) (f:Int):Af (Int × Int) :=
 (FSx c 0).bind fun a =>
 (FSx d 0).bind fun b =>
 C1 c e f d FU ((Ag (a.1 - b.1))) ((Ag (a.2 - b.2))) ((Ag ((Ag ((Ag (a.1 - b.1)) * (Ag (a.1 - b.1)))) + (Ag ((Ag (a.2 - b.2)) * (Ag (a.2 - b.2))))))) (1) (1)
def Gm (c:Ae6) (d:Ae6) (e:Int) (f:Int) (a:Int):Af Bool :=
 (Gl c d e f).bind fun b =>
 some (decide (b.1 < (Ag ((Ag (a * a)) * b.2))))
def D8 (u8:(List Ae6)) (a:Int) (c:(List Int)) (e:Int) (f:(Ae9 → Int → Af Ae9)):Nat → Ae9 → Int → Af Ae9
 | 0,_,_=>none
 | m + 1,d,b=>(if (decide (b < (u8.length:Int))) = true then Bj (fun (h:Ae9)=>(D8 u8 a c e f m) (h) ((Ag (b + 1)))) (fun g=>(AL u8 a).bind fun i =>
 (AL u8 b).bind fun j =>
 (AL c a).bind fun k =>
 (AL c b).bind fun l =>
 (Gm i j k l e).bind fun n =>
 (if n = true then (Cg d [[a,b]]).bind fun o =>
 g (o) else g (d))) else f (d) ((Ag (a + 1))))
def D9 (u8:(List Ae6)) (b:(List Int)) (c:Int):Nat → Ae9 → Int → Af Ae9
 | 0,_,_=>none
 | m + 1,d,a=>(if (decide (a < (u8.length:Int))) = true then D8 u8 a b c (D9 u8 b c m) FU (d) ((Ag (a + 1))) else some d)
def Hx (a:(Ae4 × Ae4 × Int × (List Int))) (b:(List Int)) (c:Int):Af Ae9 :=
 (H6 a).bind fun u8 =>
 D9 u8 b c FU ([]) (0)
def Gk (a:(Ae4 × Ae4 × Int × (List Int))) (b:Int):Af Bool :=
 (Sf (a.1.length:Int) 0).bind fun c =>
 (Hx a c b).bind fun d =>
 some ((d.length:Int) == 0)
def Ii (b:(Ae4 × Ae4 × Int × (List Int))) (c:Int) (d:Int):Af (Ae4 × Ae4 × Int × (List Int)) :=
 (EN b.1 b.2.1 b.2.2.1 b.2.2.2).bind fun a =>
 Bj (fun (f:(List Int))=>some (a.1,a.2.1,a.2.2.1,f)) (fun g=>(AL a.2.2.2 d).bind fun e =>
 (AL a.2.2.2 c).bind fun h =>
 (AL a.2.2.2 c).bind fun i =>
 (AL (BE a.2.2.2 c e) d).bind fun j =>
 g ((BE (BE a.2.2.2 c e) d h)))
def Eh (c:(Ae4 × Ae4 × Int × (List Int))) (a:Int) (d:Int) (e:(Int → Af (Int × Int × Bool))):Nat → Int → Af (Int × Int × Bool)
 | 0,_=>none
 | m + 1,b=>(if (decide (b < (c.1.length:Int))) = true then (Ii c a b).bind fun f =>
 (Gk f d).bind fun g =>
 (if g = true then some (a,b,true) else (Eh c a d e m) ((Ag (b + 1)))) else e ((Ag (a + 1))))
def Dm (a:(Ae4 × Ae4 × Int × (List Int))) (c:Int):Nat → Int → Af (Int × Int × Bool)
 | 0,_=>none
 | m + 1,b=>(if (decide (b < (a.1.length:Int))) = true then Eh a b c (Dm a c m) FU ((Ag (b + 1))) else some (0,0,false))
def Ij (a:(Ae4 × Ae4 × Int × (List Int))) (b:Int):Af (Int × Int × Bool) :=
 Dm a b FU (0)
def CI (a:(List Int)) (b:Int) (rec:(Ae8 → (List Int) → Int → Af Ae8)) (g:Int) (e:(Ae8 → Af Ae8)):Nat → Ae8 → Bool → Int → Af Ae8
 | 0,_,_,_=>none
 | m + 1,d,h,c=>(if (decide (c < (a.length:Int))) = true then FT (fun (j:Ae8) (k:Bool)=>(CI a b rec g e m) (j) (k) ((Ag (c + 1)))) (fun i=>(AL a c).bind fun f =>
 (if h = true then (if (decide (0 ≤ c) && decide (c < 6)) = true then (if (decide (0 ≤ (a.length:Int)) && decide ((a.length:Int) < 6)) = true then (if (decide (0 ≤ f) && decide (f < 5)) = true then (if (decide (0 ≤ b) && decide (b < 5)) = true then (d.1[c.toNat * 150 + (a.length:Int).toNat * 25 + f.toNat * 5 + b.toNat * 1]?).bind fun l =>
 i (d) ((!l)) else none) else none) else none) else none) else i (d) (false))) else (if h = true then (Fx a).bind fun n =>
 (Cg n [b]).bind fun o =>
 (rec d o (Ag (g + b))).bind fun p =>
 e (p) else e (d)))
def Cu (b:(List Int)) (rec:(Ae8 → (List Int) → Int → Af Ae8)) (c:Int):Nat → Ae8 → Int → Af Ae8
 | 0,_,_=>none
 | m + 1,d,a=>(if (decide (a ≤ 4)) = true then Bj (fun (e:Ae8)=>(Cu b rec c m) (e) ((Ag (a + 1)))) (fun f=>CI b a rec c f FU (d) (true) (0)) else some d)
def EP (rec:Ae8 → (List Int) → Int → Af Ae8) (b:Ae8) (c:(List Int)) (d:Int):Af Ae8 :=
 FT (fun (a:Ae8) (g:Bool)=>(if g = true then some a else (if ((c.length:Int) == a.2.1) = true then (Fx c).bind fun e =>
 (if (List.isEmpty e) = true then none else some (a.1,a.2.1,e,d)) else Cu c rec d FU (a) (0)))) (fun f=>(if (!(List.isEmpty b.2.2.1)) = true then f (b) ((decide (b.2.2.2 ≤ d))) else f (b) (false)))
def Co:Nat → Ae8 → (List Int) → Int → Af Ae8
 | 0,_,_,_=>none
 | m + 1,a,b,c=>EP (Co m) a b c
def Hb (a:Ae8) (b:(List Int)) (c:Int):Af Ae8 :=
 Co FU a b c
def DO (u8:(List Ae6)) (c:Int) (d:Int) (a:Int) (f:Int) (g:(Ae8 → Int → Af Afa)):Nat → Ae8 → Int → Af Afa
 | 0,_,_=>none
 | m + 1,e,b=>(if (decide (b ≤ 4)) = true then Bj (fun (h:Ae8)=>(DO u8 c d a f g m) (h) ((Ag (b + 1)))) (fun i=>(AL u8 c).bind fun j =>
 (AL u8 d).bind fun k =>
 (if (decide (0 ≤ c) && decide (c < 6)) = true then (if (decide (0 ≤ d) && decide (d < 6)) = true then (if (decide (0 ≤ a) && decide (a < 5)) = true then (Gm j k a b f).bind fun l =>
 (if (decide (0 ≤ b) && decide (b < 5)) = true then (NV e.1 (c.toNat * 150 + d.toNat * 25 + a.toNat * 5 + b.toNat * 1) l).bind fun n =>
 i ((n,e.2.1,e.2.2.1,e.2.2.2)) else none) else none) else none) else none)) else g (e) ((Ag (a + 1))))
def DP (u8:(List Ae6)) (b:Int) (a:Int) (c:Int) (d:(Ae8 → Int → Af Afa)):Nat → Ae8 → Int → Af Afa
 | 0,_,_=>none
 | m + 1,e,f=>(if (decide (f ≤ 4)) = true then DO u8 b a f c (DP u8 b a c d m) FU (e) (0) else d (e) ((Ag (a + 1))))
def DQ (u8:(List Ae6)) (a:Int) (b:Int) (c:(Ae8 → Int → Af Afa)):Nat → Ae8 → Int → Af Afa
 | 0,_,_=>none
 | m + 1,d,e=>(if (decide (e < (u8.length:Int))) = true then DP u8 a e b (DQ u8 a b c m) FU (d) (0) else c (d) ((Ag (a + 1))))
def DR (u8:(List Ae6)) (b:Int):Nat → Ae8 → Int → Af Afa
 | 0,_,_=>none
 | m + 1,c,a=>(if (decide (a < (u8.length:Int))) = true then DQ u8 a b (DR u8 b m) FU (c) ((Ag (a + 1))) else (Hb c [] 0).bind fun d =>
 some (d.2.2.1,d.2.2.2))
def HK (a:(Ae4 × Ae4 × Int × (List Int))) (b:Int):Af Afa :=
 (H6 a).bind fun u8 =>
 DR u8 b FU (((List.replicate 900 false),(u8.length:Int),[],0)) (0)
def Im (a:(Ae4 × Ae4 × Int × (List Int))) (b:Int):Af (Int × Bool) :=
 Bj (fun (d:Bool)=>(if d = true then some (0,false) else (Gk a b).bind fun e =>
 (if e = true then some (0,true) else (Ij a b).bind fun f =>
 (if f.2.2 = true then some (1,true) else (HK a b).bind fun g =>
 (if (!(List.isEmpty g.1)) = true then some (2,true) else some (3,true)))))) (fun c=>(JC a).bind fun h =>
 (if (!h) = true then c (true) else (I5 b).bind fun i =>
 c ((!i))))
def Ds (a:Ae4) (b:Int) (f:(Int → Int → Int → Af (Int × Int))):Nat → Int → Int → Int → Af (Int × Int)
 | 0,_,_,_=>none
 | m + 1,d,e,c=>(if (decide (c < (a.length:Int))) = true then FT (fun (h:Int) (i:Int)=>(Ds a b f m) (h) (i) ((Ag (c + 1)))) (fun g=>(AL a b).bind fun j =>
 (AL a c).bind fun k =>
 (AL a d).bind fun l =>
 (AL a e).bind fun n =>
 (Eg j k).bind fun o =>
 (Eg l n).bind fun p =>
 (if (decide (o < p)) = true then g (b) (c) else g (d) (e))) else f (d) (e) ((Ag (b + 1))))
def DT (a:Ae4):Nat → Int → Int → Int → Af (Int × Int)
 | 0,_,_,_=>none
 | m + 1,c,d,b=>(if (decide (b < (a.length:Int))) = true then Ds a b (DT a m) FU (c) (d) ((Ag (b + 1))) else some (c,d))
def HM (a:Ae4):Af (Int × Int) :=
 DT a FU (0) (1) (0)
def EG (a:Ae4):Af (Int × Bool) :=
 Bj (fun (d:Bool)=>(if d = true then some (0,false) else (HM a).bind fun b =>
 (AL a b.1).bind fun e =>
 (AL a b.2).bind fun f =>
 (Eg e f).bind fun g =>
 some (g,true))) (fun c=>(Ec a).bind fun h =>
 (if (!h) = true then c (true) else c ((decide ((a.length:Int) < 2)))))
def H5 (a:Int):Af (List Aj) :=
 (CY (Ag (Int.tdiv a 8))).bind fun b =>
 Bj (fun (d:(List Aj))=>some d) (fun c=>(if (decide (0 < (Int.tmod a 8))) = true then (CY (Int.tmod a 8)).bind fun e =>
 (Cg [43] e).bind fun f =>
 (Cg b f).bind fun g =>
 c (g) else c (b)))
def J4 (a:(Int × Int)):Af ((List Aj) × Bool) :=
 (Gx a).bind fun b =>
 (if (!b) = true then some ([],false) else (H5 a.1).bind fun c =>
 (Cg c [44]).bind fun d =>
 (H5 a.2).bind fun e =>
 (Cg d e).bind fun f =>
 some (f,true))
def DG (b:Int):Nat → Int → Af Int
 | 0,_=>none
 | m + 1,a=>(if (decide ((Ag ((Ag ((Ag (4800 * a)) * 4800)) * a)) < (Ag (1000000 * b)))) = true then (DG b m) ((Ag (a + 1))) else some a)
def Kg (a:(Int × Int)) (b:(Int × Int)):Af Int :=
 (Eg a b).bind fun c =>
 DG c FU (0)
def G6 (a:(Int × Int)) (b:(Int × Int)):Af (Int × Bool) :=
 Bj (fun (d:Bool)=>(if d = true then some (0,false) else (Kg a b).bind fun e =>
 some (e,true))) (fun c=>(Gx a).bind fun f =>
 (if (!f) = true then c (true) else (Gx b).bind fun g =>
 c ((!g))))
def EF (a:Ae4):Nat → Int → Int → Af Int
 | 0,_,_=>none
 | m + 1,c,b=>(if (decide (b < (a.length:Int))) = true then (AL a b).bind fun d =>
 (EF a m) ((Ag (c + d.1))) ((Ag (b + 1))) else some c)
def J3 (a:Ae4):Af Int :=
 EF a FU (0) (0)
def G5 (b:Ae4):Nat → Int → Int → Int → Af Int
 | 0,_,_,_=>none
 | m + 1,c,d,e=>(if (decide (e < (b.length:Int))) = true then (AL b e).bind fun a =>
 (if (decide (c < a.1)) = true then (if a.2 = 0 then none else some (Ag (d + (Ag (Int.tdiv (Ag (60000 * c)) a.2))))) else (if a.2 = 0 then none else (G5 b m) ((Ag (c - a.1))) ((Ag (d + (Ag (Int.tdiv (Ag (60000 * a.1)) a.2))))) ((Ag (e + 1))))) else some d)
def Jm (a:Ae4) (b:Int):Af Int :=
 G5 a FU (b) (0) (0)
def Kx (a:Ae4) (b:Int):Af (Int × Bool) :=
 Bj (fun (d:Bool)=>(if d = true then some (0,false) else (Jm a b).bind fun e =>
 some (e,true))) (fun c=>(I6 a).bind fun f =>
 (if (!f) = true then c (true) else (J3 a).bind fun g =>
 (BZ b 0 g).bind fun h =>
 c ((!h))))
def Ey (b:Ae5) (f:Int) (c:Int):Nat → Int → Af (Int × Bool)
 | 0,_=>none
 | m + 1,d=>(if (decide (d < (b.length:Int))) = true then (AL b d).bind fun a =>
 Bj (fun (g:Bool)=>(if g = true then some (a.1,true) else (Ey b f c m) ((Ag (d + 1))))) (fun e=>(if (a.2.1 == f) = true then (if (decide (a.2.2.1 ≤ c)) = true then e ((decide (c < a.2.2.2))) else e (false)) else e (false))) else some (0,false))
def IL (b:Ae5) (c:Int) (d:Int):Af (Int × Bool) :=
 Bj (fun (e:Bool)=>(if e = true then some (0,false) else Ey b c d FU (0))) (fun a=>(FZ b).bind fun f =>
 (if (!f) = true then a (true) else (BZ c 1 9).bind fun g =>
 (if (!g) = true then a (true) else (BZ d 0 999).bind fun u64 =>
 a ((!u64)))))
def DS (a:(List Int)) (b:Ae7):Nat → Int → Af Bool
 | 0,_=>none
 | m + 1,c=>(if (decide (c < (a.length:Int))) = true then (AL a c).bind fun d =>
 (BZ d 0 (Ag ((b.length:Int) - 1))).bind fun e =>
 (if (!e) = true then some false else (DS a b m) ((Ag (c + 1)))) else (FL b).bind fun f =>
 some f)
def HL (a:Ae7) (b:(List Int)):Af Bool :=
 DS b a FU (0)
def CS  : Nat → (List Int) → Int → Int → Af (List Int)
 | 0,_,_,_=>none
 | m + 1,a,b,c=>(if (decide (b < c)) = true then Bj (fun (e:(List Int))=>(CS m) (e) ((Ag (b + 1))) ((Ag (c - 1)))) (fun f=>(AL a c).bind fun d =>
 (AL a b).bind fun g =>
 (AL a b).bind fun h =>
 (AL (BE a b d) c).bind fun i =>
 f ((BE (BE a b d) c g))) else some a)
def Er (a:(List Int)):Af (List Int) :=
 CS FU (a) (0) ((Ag ((a.length:Int) - 1)))
def E7 (b:Ae7):Nat → Int → (List Int) → Af (List Int)
 | 0,_,_=>none
 | m + 1,a,c=>(if (decide (0 ≤ a)) = true then (Cg c [a]).bind fun d =>
 (AL b a).bind fun e =>
 (E7 b m) (e.1) (d) else (Er c).bind fun f =>
 some f)
def Lf (a:Ae7) (b:Int):Af (List Int) :=
 E7 a FU (b) ([])
def Dl (a:(List Int)) (b:Ae7):Nat → (List Int) → Int → Af (List Int)
 | 0,_,_=>none
 | m + 1,c,d=>(if (decide (d < (a.length:Int))) = true then (AL a d).bind fun e =>
 (AL b e).bind fun f =>
 (AL b e).bind fun g =>
 (AL c f.2.1).bind fun h =>
 (Dl a b m) ((BE c f.2.1 g.2.2)) ((Ag (d + 1))) else some c)
def Fm (a:Ae7) (b:Int):Nat → (List Int) → Int → Af (List Int)
 | 0,_,_=>none
 | m + 1,c,d=>(if (decide (d < 8)) = true then (Cg c [(-1)]).bind fun e =>
 (Fm a b m) (e) ((Ag (d + 1))) else (Lf a b).bind fun f =>
 Dl f a FU (c) (0))
def JS (a:Ae7) (b:Int):Af (List Int) :=
 Fm a b FU ([]) (0)
def JW (a:Ae7) (b:Int):Af ((List Int) × Bool) :=
 (HL a [b]).bind fun c =>
 (if (!c) = true then some ([],false) else (JS a b).bind fun d =>
 some (d,true))
def Cw (a:((List Int) × Bool)):Nat → (List (List Aj)) → Int → Af (List Aj)
 | 0,_,_=>none
 | m + 1,b,c=>(if (decide (c < (a.1.length:Int))) = true then Bj (fun (f:(List (List Aj)))=>(Cw a m) (f) ((Ag (c + 1)))) (fun d=>(AL a.1 c).bind fun e =>
 (if (decide (e < 0)) = true then (Cg b [[45]]).bind fun g =>
 d (g) else (CY e).bind fun h =>
 (Cg b [h]).bind fun i =>
 d (i))) else (I0 b [32]).bind fun j =>
 some j)
def FA (b:(Ae4 × Ae4 × Int × Ae4 × Ae5 × Ae7)) (c:Int):Af (List Aj) :=
 (JW b.2.2.2.2.2 c).bind fun a =>
 (if (!a.2) = true then some ([110,111]) else Cw a FU ([]) (0))
def Cc (a:(Ae4 × Ae4 × Int × Ae4 × Ae5 × Ae7)) (c:(List Aj)) (b:(List Int)):Af (List Aj) :=
 (if (c == [115,117,109]) = true then WA (fun (l:Ae4) (m:Ae4) (n:Int) (o:(List Int))=>(H8 (l,m,n,o)).bind fun f =>
 (Fw f.1 f.2).bind fun p =>
 some p) (fun q=>(Gv a.2.1 a.1 a.2.2.1).bind fun d =>
 q (d.1.1) (d.1.2.1) (d.1.2.2.1) (d.1.2.2.2)) else (if (c == [99,108,111,115,101]) = true then (AL b 0).bind fun r =>
 (GO a r).bind fun s =>
 some s else (if (c == [107,105,110,100]) = true then WA (fun (t:Ae4) (u:Ae4) (v:Int) (w:(List Int))=>(AL b 0).bind fun x =>
 (Im (t,u,v,w) x).bind fun g =>
 (Fw g.1 g.2).bind fun y =>
 some y) (fun z=>(EV a.2.1 a.1 a.2.2.1).bind fun e =>
 z (e.1.1) (e.1.2.1) (e.1.2.2.1) (e.1.2.2.2)) else (if (c == [108,101,97,115,116]) = true then (EG a.1).bind fun h =>
 (Fw h.1 h.2).bind fun aa =>
 some aa else (if (c == [116,101,120,116]) = true then (AL b 0).bind fun ab =>
 (if (decide ((a.1.length:Int) ≤ ab)) = true then some ([110,111]) else (AL b 0).bind fun ac =>
 (AL a.1 ac).bind fun ad =>
 (J4 ad).bind fun ae =>
 some ae.1) else (if (c == [115,111,117,110,100]) = true then (AL b 0).bind fun af =>
 (AL b 1).bind fun ag =>
 (if (decide ((a.1.length:Int) ≤ (FB af ag))) = true then some ([110,111]) else (AL b 0).bind fun ah =>
 (AL a.1 ah).bind fun ai =>
 (AL b 1).bind fun aj =>
 (AL a.1 aj).bind fun ak =>
 (G6 ai ak).bind fun i =>
 (Fw i.1 i.2).bind fun al =>
 some al) else (if (c == [116,105,109,101]) = true then (AL b 0).bind fun am =>
 (Kx a.2.2.2.1 am).bind fun j =>
 (Fw j.1 j.2).bind fun an =>
 some an else (if (c == [119,104,111]) = true then (AL b 0).bind fun ao =>
 (AL b 1).bind fun ap =>
 (IL a.2.2.2.2.1 ao ap).bind fun k =>
 (if (!k.2) = true then some ([110,111,110,101]) else (CY k.1).bind fun aq =>
 some aq) else (AL b 0).bind fun ar =>
 (FA a ar).bind fun au =>
 some au))))))))
def BU (e:(List (List Aj))) (b:(Ae4 × Ae4 × Int × Ae4 × Ae5 × Ae7)) (a:(List Aj)):Nat → (List Int) → Int → Af ((List Aj) × (Ae4 × Ae4 × Int × Ae4 × Ae5 × Ae7))
 | 0,_,_=>none
 | m + 1,c,f=>(if (decide (f < (e.length:Int))) = true then (AL e f).bind fun l =>
 (JT l).bind fun g =>
 Bj (fun (n:Bool)=>(if n = true then some ([119,104,97,116],b) else (Cg c [g.1]).bind fun o =>
 (BU e b a m) (o) ((Ag (f + 1))))) (fun i=>(if (!g.2) = true then i (true) else i ((decide (99999 < g.1))))) else (J2 a).bind fun p =>
 (if ((c.length:Int) != p) = true then some ([119,104,97,116],b) else Bj (fun (q:Bool)=>(if q = true then (BH b a c).bind fun j =>
 some (j.1,j.2) else Bj (fun (r:Bool)=>(if r = true then (CG b a c).bind fun k =>
 some (k.1,k.2) else (Cc b a c).bind fun s =>
 some (s,b))) (fun h=>(if (a == [109,101,97,115,117,114,101]) = true then h ((a == [109,101,97,115,117,114,101])) else (if (a == [99,97,114,114,121]) = true then h ((a == [99,97,114,114,121])) else h ((a == [118,101,114,115,105,111,110]))))))) (fun d=>(if (a == [115,112,111,116]) = true then d ((a == [115,112,111,116])) else (if (a == [112,108,97,99,101]) = true then d ((a == [112,108,97,99,101])) else (if (a == [109,105,114,114,111,114]) = true then d ((a == [109,105,114,114,111,114])) else (if (a == [107,101,101,112]) = true then d ((a == [107,101,101,112])) else d ((a == [99,111,117,110,116,115])))))))))
def Dw (b:(Ae4 × Ae4 × Int × Ae4 × Ae5 × Ae7)) (c:(List Aj)):Af ((List Aj) × (Ae4 × Ae4 × Int × Ae4 × Ae5 × Ae7)) :=
 (Ge c [32]).bind fun a =>
 (AL a 0).bind fun d =>
 (sl a 1 (a.length:Int)).bind fun e =>
 BU e b d FU ([]) (0)
def Ew (a:((List (List Aj)) × Bool)):Nat → (Ae4 × Ae4 × Int × Ae4 × Ae5 × Ae7) → (List (List Aj)) → Int → Af ((Bool × (Ae4 × Ae4 × Int × Ae4 × Ae5 × Ae7)) × (List (List Aj)) × Bool)
 | 0,_,_,_=>none
 | m + 1,c,d,b=>(if (decide (b < (a.1.length:Int))) = true then (AL a.1 b).bind fun f =>
 (Dw c f).bind fun e =>
 (Cg d [e.1]).bind fun g =>
 (Ew a m) (e.2) (g) ((Ag (b + 1))) else some ((true,c),d,true))
def IJ (b:(List Aj)):Af ((Bool × (Ae4 × Ae4 × Int × Ae4 × Ae5 × Ae7)) × (List (List Aj)) × Bool) :=
 (HJ b).bind fun a =>
 (if (!a.2) = true then some ((false,([],[],0,[],[],[])),[],false) else (KM ).bind fun c =>
 Ew a FU (c) ([]) (0))
def DL (a:(List Int)) (c:Int):Nat → Int → Af (List Int)
 | 0,_=>none
 | m + 1,b=>Bj (fun (f:Bool)=>(if f = true then (DL a c m) ((Ag (b + 1))) else Bj (fun (g:Bool)=>(if g = true then some a else (sl a 0 b).bind fun h =>
 (Cg [] h).bind fun i =>
 (Cg i [c]).bind fun j =>
 (sl a b (a.length:Int)).bind fun u64 =>
 (Cg j u64).bind fun k =>
 some k)) (fun d=>(if (decide (b < (a.length:Int))) = true then (AL a b).bind fun l =>
 d ((l == c)) else d (false))))) (fun e=>(if (decide (b < (a.length:Int))) = true then (AL a b).bind fun n =>
 e ((decide (n < c))) else e (false)))
def Jz (a:(List Int)) (b:Int):Af (List Int) :=
 DL a b FU (0)
def DN (a:(List Int)):Nat → (List Int) → Int → Af ((List Int) × Bool)
 | 0,_,_=>none
 | m + 1,c,b=>(if (decide (b < (a.length:Int))) = true then (AL a b).bind fun d =>
 (Jz c d).bind fun e =>
 (DN a m) (e) ((Ag (b + 1))) else some (c,true))
def HI (b:(List Aj)):Af ((List Int) × Bool) :=
 (Ld b).bind fun a =>
 (if (!a.2.2) = true then some ([],false) else (IE a.1.2.2.2.2.2.2.1).bind fun c =>
 (Cg c a.1.2.2.2.2.2.2.2.1).bind fun d =>
 DN d FU ([]) (0))
def Dt (b:(List (List Aj))):Nat → (List Int) → Int → Af ((List Int) × Bool)
 | 0,_,_=>none
 | m + 1,c,a=>(if (decide (a < (b.length:Int))) = true then Bj (fun (g:(List Int))=>(Dt b m) (g) ((Ag (a + 1)))) (fun d=>(AL b a).bind fun e =>
 Bj (fun (h:Bool)=>(if h = true then (Cg c [(Ag (a + 1))]).bind fun i =>
 d (i) else d (c))) (fun f=>(if (e == [110,111]) = true then f (true) else f ((e == [119,104,97,116]))))) else some (c,true))
def GH (c:(List Aj)):Af ((List Int) × Bool) :=
 FT (fun (d:(List (List Aj))) (e:Bool)=>(if (!e) = true then some ([],false) else Dt d FU ([]) (0))) (fun b=>(IJ c).bind fun a =>
 (if a.1.1 = true then b (a.2.1) (a.2.2) else b (a.2.1) (a.2.2)))
def H4 (b:(List Int)) (c:(List Int)):Nat → Int → Af Bool
 | 0,_=>none
 | m + 1,a=>(if (decide (a < (b.length:Int))) = true then (AL b a).bind fun d =>
 (AL c a).bind fun e =>
 (if (d != e) = true then some false else (H4 b c m) ((Ag (a + 1)))) else some true)
def Kw (a:(List Int)) (b:(List Int)):Af Bool :=
 (if ((a.length:Int) != (b.length:Int)) = true then some false else H4 a b FU (0))
def ED  : Nat → (List Int) → Int → Int → Af (Int × (List Int))
 | 0,_,_,_=>none
 | m + 1,a,c,b=>(if (decide (b < (a.length:Int))) = true then (AL a b).bind fun d =>
 (ED m) ((BE a b c)) ((Ag (c + 1))) ((Ag (b + 1))) else some (c,a))
def KK (a:(List Int)) (b:Int):Af (Int × (List Int)) :=
 ED FU (a) (b) (0)
def EE (a:(List Int)):Nat → Int → Int → Af Int
 | 0,_,_=>none
 | m + 1,b,c=>(if (decide (c < (a.length:Int))) = true then (AL a c).bind fun d =>
 (if (d != b) = true then some (-1) else (EE a m) ((Ag (b + 1))) ((Ag (c + 1)))) else some b)
def J1 (a:(List Int)) (b:Int):Af Int :=
 EE a FU (b) (0)
def GN (a:(List Aj)):Af Bool :=
 (if (decide (1048576 < (a.length:Int))) = true then some true else (HI a).bind fun b =>
 (GH a).bind fun d =>
 Bj (fun (j:Bool)=>(if j = true then some false else (KK d.1 1).bind fun c =>
 (J1 c.2 1).bind fun e =>
 (if (decide (e < 0)) = true then some false else (if (e != c.1) = true then some false else (GH a).bind fun f =>
 Bj (fun (k:Bool)=>(if k = true then some false else (J1 c.2 1).bind fun g =>
 (if (decide (g < 0)) = true then some false else (if (g != c.1) = true then some false else some true)))) (fun h=>(Kw f.1 b.1).bind fun l =>
 (if (!l) = true then h (true) else h ((f.2 != b.2)))))))) (fun i=>(Kw d.1 b.1).bind fun m =>
 (if (!m) = true then i (true) else i ((d.2 != b.2)))))
end Go.Proofs.YtellehgihceicaaGreatDoor
