/-
 THE TYPES of this seat, by program (gen.py).
-/
import Derived.Test.YtellehgihceicaaGreatDoorCore20
import Derived.Test.YtellehgihceicaaGreatDoorF
set_option linter.unusedVariables false
set_option linter.unusedSimpArgs false
set_option maxRecDepth 100000
set_option maxHeartbeats 1600000
namespace Go.Proofs.YtellehgihceicaaGreatDoor
open Go Go.RowKit
abbrev A1 (f:FuncId) (l:List Ac):=Calls Tryz.prog f l.toArray
noncomputable section
theorem B4:Tryz.prog.follows .mixedOrders = true:=by kernel_rfl
theorem A4:TF Tryz.prog 3 1 false (.int .i64 0):=⟨Tryz.sizeOf3,Tryz.isAgg3,Tryz.zeroValue3,by decide,by decide⟩
theorem ZI:TF Tryz.prog 4 1 false (.bool false):=⟨Tryz.sizeOf4,Tryz.isAgg4,Tryz.zeroValue4,by decide,by decide⟩
theorem Na:TF Tryz.prog 9 1 false (.string .empty):=⟨Tryz.sizeOf9,Tryz.isAgg9,Tryz.zeroValue9,by decide,by decide⟩
theorem Cm:TF Tryz.prog 26 1 false (.slice none 0 0):=⟨Tryz.sizeOf26,Tryz.isAgg26,Tryz.zeroValue26,by decide,by decide⟩
theorem Ry:TF Tryz.prog 31 1 false (.slice none 0 0):=⟨Tryz.sizeOf31,Tryz.isAgg31,Tryz.zeroValue31,by decide,by decide⟩
theorem Fu:TF Tryz.prog 36 1 false (.slice none 0 0):=⟨Tryz.sizeOf36,Tryz.isAgg36,Tryz.zeroValue36,by decide,by decide⟩
theorem Rx:TF Tryz.prog 41 1 false (.slice none 0 0):=⟨Tryz.sizeOf41,Tryz.isAgg41,Tryz.zeroValue41,by decide,by decide⟩
theorem Ady:TF Tryz.prog 66 2 true (.agg #[(.pointer none),(.slice none 0 0)]):=⟨Tryz.sizeOf66,Tryz.isAgg66,Tryz.zeroValue66,by decide,by decide⟩
theorem Rw:TF Tryz.prog 72 1 false (.slice none 0 0):=⟨Tryz.sizeOf72,Tryz.isAgg72,Tryz.zeroValue72,by decide,by decide⟩
theorem Adx:TF Tryz.prog 74 9 true (.agg #[(.slice none 0 0),(.slice none 0 0),(.int .i64 0),(.slice none 0 0),(.slice none 0 0),(.slice none 0 0),(.slice none 0 0),(.slice none 0 0),(.int .i64 0)]):=⟨Tryz.sizeOf74,Tryz.isAgg74,Tryz.zeroValue74,by decide,by decide⟩
theorem Adw:TF Tryz.prog 76 6 true (.agg #[(.slice none 0 0),(.slice none 0 0),(.int .i64 0),(.slice none 0 0),(.slice none 0 0),(.slice none 0 0)]):=⟨Tryz.sizeOf76,Tryz.isAgg76,Tryz.zeroValue76,by decide,by decide⟩
theorem Bs:TF Tryz.prog 79 2 true (.agg #[(.int .i64 0),(.int .i64 0)]):=⟨Tryz.sizeOf79,Tryz.isAgg79,Tryz.zeroValue79,by decide,by decide⟩
theorem GL:TF Tryz.prog 82 2 true (.agg #[(.int .i64 0),(.int .i64 0)]):=⟨Tryz.sizeOf82,Tryz.isAgg82,Tryz.zeroValue82,by decide,by decide⟩
theorem L2:TF Tryz.prog 87 3 true (.agg #[(.int .i64 0),(.int .i64 0),(.int .i64 0)]):=⟨Tryz.sizeOf87,Tryz.isAgg87,Tryz.zeroValue87,by decide,by decide⟩
theorem BD:TF Tryz.prog 125 4 true (.agg #[(.int .i64 0),(.int .i64 0),(.int .i64 0),(.int .i64 0)]):=⟨Tryz.sizeOf125,Tryz.isAgg125,Tryz.zeroValue125,by decide,by decide⟩
theorem Bo:TF Tryz.prog 128 4 true (.agg #[(.slice none 0 0),(.slice none 0 0),(.int .i64 0),(.slice none 0 0)]):=⟨Tryz.sizeOf128,Tryz.isAgg128,Tryz.zeroValue128,by decide,by decide⟩
theorem VX:TF Tryz.prog 184 1 false (.slice none 0 0):=⟨Tryz.sizeOf184,Tryz.isAgg184,Tryz.zeroValue184,by decide,by decide⟩
theorem Cz:TF Tryz.prog 187 5 true (.agg #[(.int .i64 0),(.int .i64 0),(.int .i64 0),(.int .i64 0),(.int .i64 0)]):=⟨Tryz.sizeOf187,Tryz.isAgg187,Tryz.zeroValue187,by decide,by decide⟩
theorem Ack:TF Tryz.prog 198 902 true (.agg Tryz.zeroCells198):=⟨Tryz.sizeOf198,Tryz.isAgg198,Tryz.zeroValue198,by decide,by decide⟩
theorem Acj:TF Tryz.prog 212 903 true (.agg Tryz.zeroCells212):=⟨Tryz.sizeOf212,Tryz.isAgg212,Tryz.zeroValue212,by decide,by decide⟩
def Yu (x:Int):List Ac:=[(.int .i64 x)]
def Ar:Ty Tryz.prog Int:={ Sh.flat Yu 1 0 (fun _=>rfl) (fun x=>Ones.all (vs:=Yu x) ⟨rfl,trivial⟩) with tid:=3,bts:=8,agg:=false,sz_pos:=by decide,bts_le:=by decide,info:=⟨_,_,Tryz.type3,rfl,rfl,rfl,rfl⟩,und:=⟨_,Tryz.underlying3,rfl⟩,one1:=by decide }
theorem Co:Flat Ar Yu:=⟨fun h=>h,fun _ _=>⟨rfl,rfl⟩,fun h=>h.1⟩
def RA (x:Int):List Ac:=[(.int .u8 x)]
def L7:Ty Tryz.prog Int:={ Sh.flat RA 1 0 (fun _=>rfl) (fun x=>Ones.all (vs:=RA x) ⟨rfl,trivial⟩) with tid:=5,bts:=1,agg:=false,sz_pos:=by decide,bts_le:=by decide,info:=⟨_,_,Tryz.type5,rfl,rfl,rfl,rfl⟩,und:=⟨_,Tryz.underlying5,rfl⟩,one1:=by decide }
theorem PV:Flat L7 RA:=⟨fun h=>h,fun _ _=>⟨rfl,rfl⟩,fun h=>h.1⟩
def VI (x:(List Ai)):List Ac:=[(.string (B1 x))]
def Cy:Ty Tryz.prog (List Ai):={ Sh.flat VI 1 [] (fun _=>rfl) (fun x=>Ones.all (vs:=VI x) ⟨rfl,trivial⟩) with tid:=9,bts:=16,agg:=false,sz_pos:=by decide,bts_le:=by decide,info:=⟨_,_,Tryz.type9,rfl,rfl,rfl,rfl⟩,und:=⟨_,Tryz.underlying9,rfl⟩,one1:=by decide }
theorem I6:Flat Cy VI:=⟨fun h=>h,fun _ _=>⟨rfl,rfl⟩,fun h=>h.1⟩
def WI (x:(Int × Int)):List Ac:=[(.int .i64 x.1),(.int .i64 x.2)]
def Ao:Ty Tryz.prog (Int × Int):={ Sh.flat WI 2 (0,0) (fun _=>rfl) (fun x=>Ones.all (vs:=WI x) ⟨rfl,rfl,trivial⟩) with tid:=79,bts:=16,agg:=true,sz_pos:=by decide,bts_le:=by decide,info:=⟨_,_,Tryz.type79,rfl,rfl,rfl,rfl⟩,und:=⟨_,Tryz.underlying79,rfl⟩,one1:=by decide }
theorem CD:Flat Ao WI:=⟨fun h=>h,fun _ _=>⟨rfl,rfl⟩,fun h=>h.1⟩
def WG (x:(Int × Int)):List Ac:=[(.int .i64 x.1),(.int .i64 x.2)]
def BN:Ty Tryz.prog (Int × Int):={ Sh.flat WG 2 (0,0) (fun _=>rfl) (fun x=>Ones.all (vs:=WG x) ⟨rfl,rfl,trivial⟩) with tid:=82,bts:=16,agg:=true,sz_pos:=by decide,bts_le:=by decide,info:=⟨_,_,Tryz.type82,rfl,rfl,rfl,rfl⟩,und:=⟨_,Tryz.underlying82,rfl⟩,one1:=by decide }
theorem GH:Flat BN WG:=⟨fun h=>h,fun _ _=>⟨rfl,rfl⟩,fun h=>h.1⟩
def Ci:Ty Tryz.prog (List Int):={ Sh.slice Ar with tid:=36,bts:=24,agg:=false,sz_pos:=by decide,bts_le:=by decide,info:=⟨_,_,Tryz.type36,rfl,rfl,rfl,rfl⟩,und:=⟨_,Tryz.underlying36,rfl⟩,one1:=by decide }
def WF (x:(Int × Int × Int)):List Ac:=[(.int .i64 x.1),(.int .i64 x.2.1),(.int .i64 x.2.2)]
def Ch:Ty Tryz.prog (Int × Int × Int):={ Sh.flat WF 3 (0,0,0) (fun _=>rfl) (fun x=>Ones.all (vs:=WF x) ⟨rfl,rfl,rfl,trivial⟩) with tid:=87,bts:=24,agg:=true,sz_pos:=by decide,bts_le:=by decide,info:=⟨_,_,Tryz.type87,rfl,rfl,rfl,rfl⟩,und:=⟨_,Tryz.underlying87,rfl⟩,one1:=by decide }
theorem GG:Flat Ch WF:=⟨fun h=>h,fun _ _=>⟨rfl,rfl⟩,fun h=>h.1⟩
def Up (x:(Int × Int × Int × Int)):List Ac:=[(.int .i64 x.1),(.int .i64 x.2.1),(.int .i64 x.2.2.1),(.int .i64 x.2.2.2)]
def Az:Ty Tryz.prog (Int × Int × Int × Int):={ Sh.flat Up 4 (0,0,0,0) (fun _=>rfl) (fun x=>Ones.all (vs:=Up x) ⟨rfl,rfl,rfl,rfl,trivial⟩) with tid:=125,bts:=32,agg:=true,sz_pos:=by decide,bts_le:=by decide,info:=⟨_,_,Tryz.type125,rfl,rfl,rfl,rfl⟩,und:=⟨_,Tryz.underlying125,rfl⟩,one1:=by decide }
theorem Cs:Flat Az Up:=⟨fun h=>h,fun _ _=>⟨rfl,rfl⟩,fun h=>h.1⟩
def Uo (x:Ae3):List Ac:=[(.int .i64 x.1.1),(.int .i64 x.1.2),(.int .i64 x.2.1.1),(.int .i64 x.2.1.2),(.int .i64 x.2.2)]
def C4:Ty Tryz.prog Ae3:={ Sh.flat Uo 5 ((0,0),(0,0),0) (fun _=>rfl) (fun x=>Ones.all (vs:=Uo x) ⟨rfl,rfl,rfl,rfl,rfl,trivial⟩) with tid:=187,bts:=40,agg:=true,sz_pos:=by decide,bts_le:=by decide,info:=⟨_,_,Tryz.type187,rfl,rfl,rfl,rfl⟩,und:=⟨_,Tryz.underlying187,rfl⟩,one1:=by decide }
theorem QX:Flat C4 Uo:=⟨fun h=>h,fun _ _=>⟨rfl,rfl⟩,fun h=>h.1⟩
def B3:Sh (Ae1 × Ae1 × Int × Ae1 × Ae2 × Ae4 × (List Int) × (List Int) × Int):=(Sh.prod (Sh.slice Ao) (Sh.prod (Sh.slice Ao) (Sh.prod Ar.toSh (Sh.prod (Sh.slice BN) (Sh.prod (Sh.slice Az) (Sh.prod (Sh.slice Ch) (Sh.prod (Sh.slice Ar) (Sh.prod (Sh.slice Ar) Ar.toSh))))))))
theorem Hs {base:Nat} {w:Ae} {L:List Res} {F:Al} {b:Nat} {x:(Ae1 × Ae1 × Int × Ae1 × Ae2 × Ae4 × (List Int) × (List Int) × Int)} (h:Sep base w (A2 B3 74 F b x :: L)):∃ (v0:Ac) (F0:Al),∃ (v1:Ac) (F1:Al),∃ (v3:Ac) (F3:Al),∃ (v4:Ac) (F4:Al),∃ (v5:Ac) (F5:Al),∃ (v6:Ac) (F6:Al),∃ (v7:Ac) (F7:Al),Sep base w (A5 b 74 [v0,v1,(.int .i64 x.2.2.1),v3,v4,v5,v6,v7,(.int .i64 x.2.2.2.2.2.2.2.2)] :: Ab Ao F0 v0 x.1 :: Ab Ao F1 v1 x.2.1 :: Ab BN F3 v3 x.2.2.2.1 :: Ab Az F4 v4 x.2.2.2.2.1 :: Ab Ch F5 v5 x.2.2.2.2.2.1 :: Ab Ar F6 v6 x.2.2.2.2.2.2.1 :: Ab Ar F7 v7 x.2.2.2.2.2.2.2.1 :: L):=by
 obtain ⟨cs,g0⟩:=R2 h
 unfold B3 at g0
 obtain ⟨a0,c0,Fa0,Fb0,hc0,hF0,g1⟩:=Er [A5 b 74 cs] g0
 obtain ⟨v0,e0,g2⟩:=Iq [A5 b 74 cs] g1
 obtain ⟨a1,c1,Fa1,Fb1,hc1,hF1,g3⟩:=Er [A5 b 74 cs,Ab Ao Fa0 v0 x.1] g2
 obtain ⟨v1,e1,g4⟩:=Iq [A5 b 74 cs,Ab Ao Fa0 v0 x.1] g3
 obtain ⟨a2,c2,Fa2,Fb2,hc2,hF2,g5⟩:=Er [A5 b 74 cs,Ab Ao Fa0 v0 x.1,Ab Ao Fa1 v1 x.2.1] g4
 obtain ⟨e2,g6⟩:=N7 Co [A5 b 74 cs,Ab Ao Fa0 v0 x.1,Ab Ao Fa1 v1 x.2.1] g5
 obtain ⟨a3,c3,Fa3,Fb3,hc3,hF3,g7⟩:=Er [A5 b 74 cs,Ab Ao Fa0 v0 x.1,Ab Ao Fa1 v1 x.2.1] g6
 obtain ⟨v3,e3,g8⟩:=Iq [A5 b 74 cs,Ab Ao Fa0 v0 x.1,Ab Ao Fa1 v1 x.2.1] g7
 obtain ⟨a4,c4,Fa4,Fb4,hc4,hF4,g9⟩:=Er [A5 b 74 cs,Ab Ao Fa0 v0 x.1,Ab Ao Fa1 v1 x.2.1,Ab BN Fa3 v3 x.2.2.2.1] g8
 obtain ⟨v4,e4,g10⟩:=Iq [A5 b 74 cs,Ab Ao Fa0 v0 x.1,Ab Ao Fa1 v1 x.2.1,Ab BN Fa3 v3 x.2.2.2.1] g9
 obtain ⟨a5,c5,Fa5,Fb5,hc5,hF5,g11⟩:=Er [A5 b 74 cs,Ab Ao Fa0 v0 x.1,Ab Ao Fa1 v1 x.2.1,Ab BN Fa3 v3 x.2.2.2.1,Ab Az Fa4 v4 x.2.2.2.2.1] g10
 obtain ⟨v5,e5,g12⟩:=Iq [A5 b 74 cs,Ab Ao Fa0 v0 x.1,Ab Ao Fa1 v1 x.2.1,Ab BN Fa3 v3 x.2.2.2.1,Ab Az Fa4 v4 x.2.2.2.2.1] g11
 obtain ⟨a6,c6,Fa6,Fb6,hc6,hF6,g13⟩:=Er [A5 b 74 cs,Ab Ao Fa0 v0 x.1,Ab Ao Fa1 v1 x.2.1,Ab BN Fa3 v3 x.2.2.2.1,Ab Az Fa4 v4 x.2.2.2.2.1,Ab Ch Fa5 v5 x.2.2.2.2.2.1] g12
 obtain ⟨v6,e6,g14⟩:=Iq [A5 b 74 cs,Ab Ao Fa0 v0 x.1,Ab Ao Fa1 v1 x.2.1,Ab BN Fa3 v3 x.2.2.2.1,Ab Az Fa4 v4 x.2.2.2.2.1,Ab Ch Fa5 v5 x.2.2.2.2.2.1] g13
 obtain ⟨a7,c7,Fa7,Fb7,hc7,hF7,g15⟩:=Er [A5 b 74 cs,Ab Ao Fa0 v0 x.1,Ab Ao Fa1 v1 x.2.1,Ab BN Fa3 v3 x.2.2.2.1,Ab Az Fa4 v4 x.2.2.2.2.1,Ab Ch Fa5 v5 x.2.2.2.2.2.1,Ab Ar Fa6 v6 x.2.2.2.2.2.2.1] g14
 obtain ⟨v7,e7,g16⟩:=Iq [A5 b 74 cs,Ab Ao Fa0 v0 x.1,Ab Ao Fa1 v1 x.2.1,Ab BN Fa3 v3 x.2.2.2.1,Ab Az Fa4 v4 x.2.2.2.2.1,Ab Ch Fa5 v5 x.2.2.2.2.2.1,Ab Ar Fa6 v6 x.2.2.2.2.2.2.1] g15
 obtain ⟨e8,g17⟩:=N7 Co [A5 b 74 cs,Ab Ao Fa0 v0 x.1,Ab Ao Fa1 v1 x.2.1,Ab BN Fa3 v3 x.2.2.2.1,Ab Az Fa4 v4 x.2.2.2.2.1,Ab Ch Fa5 v5 x.2.2.2.2.2.1,Ab Ar Fa6 v6 x.2.2.2.2.2.2.1,Ab Ar Fa7 v7 x.2.2.2.2.2.2.2.1] g16
 subst e0 e1 e2 e3 e4 e5 e6 e7 e8 hc7 hc6 hc5 hc4 hc3 hc2 hc1 hc0
 refine ⟨v0,Fa0,v1,Fa1,v3,Fa3,v4,Fa4,v5,Fa5,v6,Fa6,v7,Fa7,?_⟩
 exact g17
theorem DC {base:Nat} {w:Ae} {L:List Res} {b:Nat} {v0:Ac} {F0:Al} {v1:Ac} {F1:Al} {v3:Ac} {F3:Al} {v4:Ac} {F4:Al} {v5:Ac} {F5:Al} {v6:Ac} {F6:Al} {v7:Ac} {F7:Al} {y0:Ae1} {y1:Ae1} {y2:Int} {y3:Ae1} {y4:Ae2} {y5:Ae4} {y6:(List Int)} {y7:(List Int)} {y8:Int} (h:Sep base w (A5 b 74 [v0,v1,(.int .i64 y2),v3,v4,v5,v6,v7,(.int .i64 y8)] :: Ab Ao F0 v0 y0 :: Ab Ao F1 v1 y1 :: Ab BN F3 v3 y3 :: Ab Az F4 v4 y4 :: Ab Ch F5 v5 y5 :: Ab Ar F6 v6 y6 :: Ab Ar F7 v7 y7 :: L)):Sep base w (A2 B3 74 ([F0,F1,F3,F4,F5,F6,F7].flatten) b (y0,y1,y2,y3,y4,y5,y6,y7,y8) :: L):=by
 replace h:=ME Co y8 [A5 b 74 _,Ab Ao F0 v0 y0,Ab Ao F1 v1 y1,Ab BN F3 v3 y3,Ab Az F4 v4 y4,Ab Ch F5 v5 y5,Ab Ar F6 v6 y6,Ab Ar F7 v7 y7] h
 replace h:=Hv [A5 b 74 _,Ab Ao F0 v0 y0,Ab Ao F1 v1 y1,Ab BN F3 v3 y3,Ab Az F4 v4 y4,Ab Ch F5 v5 y5,Ab Ar F6 v6 y6] h
 replace h:=DD [A5 b 74 _,Ab Ao F0 v0 y0,Ab Ao F1 v1 y1,Ab BN F3 v3 y3,Ab Az F4 v4 y4,Ab Ch F5 v5 y5,Ab Ar F6 v6 y6] h
 replace h:=Hv [A5 b 74 _,Ab Ao F0 v0 y0,Ab Ao F1 v1 y1,Ab BN F3 v3 y3,Ab Az F4 v4 y4,Ab Ch F5 v5 y5] h
 replace h:=DD [A5 b 74 _,Ab Ao F0 v0 y0,Ab Ao F1 v1 y1,Ab BN F3 v3 y3,Ab Az F4 v4 y4,Ab Ch F5 v5 y5] h
 replace h:=Hv [A5 b 74 _,Ab Ao F0 v0 y0,Ab Ao F1 v1 y1,Ab BN F3 v3 y3,Ab Az F4 v4 y4] h
 replace h:=DD [A5 b 74 _,Ab Ao F0 v0 y0,Ab Ao F1 v1 y1,Ab BN F3 v3 y3,Ab Az F4 v4 y4] h
 replace h:=Hv [A5 b 74 _,Ab Ao F0 v0 y0,Ab Ao F1 v1 y1,Ab BN F3 v3 y3] h
 replace h:=DD [A5 b 74 _,Ab Ao F0 v0 y0,Ab Ao F1 v1 y1,Ab BN F3 v3 y3] h
 replace h:=Hv [A5 b 74 _,Ab Ao F0 v0 y0,Ab Ao F1 v1 y1] h
 replace h:=DD [A5 b 74 _,Ab Ao F0 v0 y0,Ab Ao F1 v1 y1] h
 replace h:=ME Co y2 [A5 b 74 _,Ab Ao F0 v0 y0,Ab Ao F1 v1 y1] h
 replace h:=DD [A5 b 74 _,Ab Ao F0 v0 y0,Ab Ao F1 v1 y1] h
 replace h:=Hv [A5 b 74 _,Ab Ao F0 v0 y0] h
 replace h:=DD [A5 b 74 _,Ab Ao F0 v0 y0] h
 replace h:=Hv [A5 b 74 _] h
 replace h:=DD [A5 b 74 _] h
 exact PW h (by simp)
def AR:Sh (Ae1 × Ae1 × Int × Ae1 × Ae2 × Ae4):=(Sh.prod (Sh.slice Ao) (Sh.prod (Sh.slice Ao) (Sh.prod Ar.toSh (Sh.prod (Sh.slice BN) (Sh.prod (Sh.slice Az) (Sh.slice Ch))))))
theorem Ir {base:Nat} {w:Ae} {L:List Res} {F:Al} {b:Nat} {x:(Ae1 × Ae1 × Int × Ae1 × Ae2 × Ae4)} (h:Sep base w (A2 AR 76 F b x :: L)):∃ (v0:Ac) (F0:Al),∃ (v1:Ac) (F1:Al),∃ (v3:Ac) (F3:Al),∃ (v4:Ac) (F4:Al),∃ (v5:Ac) (F5:Al),Sep base w (A5 b 76 [v0,v1,(.int .i64 x.2.2.1),v3,v4,v5] :: Ab Ao F0 v0 x.1 :: Ab Ao F1 v1 x.2.1 :: Ab BN F3 v3 x.2.2.2.1 :: Ab Az F4 v4 x.2.2.2.2.1 :: Ab Ch F5 v5 x.2.2.2.2.2 :: L):=by
 obtain ⟨cs,g0⟩:=R2 h
 unfold AR at g0
 obtain ⟨a0,c0,Fa0,Fb0,hc0,hF0,g1⟩:=Er [A5 b 76 cs] g0
 obtain ⟨v0,e0,g2⟩:=Iq [A5 b 76 cs] g1
 obtain ⟨a1,c1,Fa1,Fb1,hc1,hF1,g3⟩:=Er [A5 b 76 cs,Ab Ao Fa0 v0 x.1] g2
 obtain ⟨v1,e1,g4⟩:=Iq [A5 b 76 cs,Ab Ao Fa0 v0 x.1] g3
 obtain ⟨a2,c2,Fa2,Fb2,hc2,hF2,g5⟩:=Er [A5 b 76 cs,Ab Ao Fa0 v0 x.1,Ab Ao Fa1 v1 x.2.1] g4
 obtain ⟨e2,g6⟩:=N7 Co [A5 b 76 cs,Ab Ao Fa0 v0 x.1,Ab Ao Fa1 v1 x.2.1] g5
 obtain ⟨a3,c3,Fa3,Fb3,hc3,hF3,g7⟩:=Er [A5 b 76 cs,Ab Ao Fa0 v0 x.1,Ab Ao Fa1 v1 x.2.1] g6
 obtain ⟨v3,e3,g8⟩:=Iq [A5 b 76 cs,Ab Ao Fa0 v0 x.1,Ab Ao Fa1 v1 x.2.1] g7
 obtain ⟨a4,c4,Fa4,Fb4,hc4,hF4,g9⟩:=Er [A5 b 76 cs,Ab Ao Fa0 v0 x.1,Ab Ao Fa1 v1 x.2.1,Ab BN Fa3 v3 x.2.2.2.1] g8
 obtain ⟨v4,e4,g10⟩:=Iq [A5 b 76 cs,Ab Ao Fa0 v0 x.1,Ab Ao Fa1 v1 x.2.1,Ab BN Fa3 v3 x.2.2.2.1] g9
 obtain ⟨v5,e5,g11⟩:=Iq [A5 b 76 cs,Ab Ao Fa0 v0 x.1,Ab Ao Fa1 v1 x.2.1,Ab BN Fa3 v3 x.2.2.2.1,Ab Az Fa4 v4 x.2.2.2.2.1] g10
 subst e0 e1 e2 e3 e4 e5 hc4 hc3 hc2 hc1 hc0
 refine ⟨v0,Fa0,v1,Fa1,v3,Fa3,v4,Fa4,v5,Fb4,?_⟩
 exact g11
theorem Dt {base:Nat} {w:Ae} {L:List Res} {b:Nat} {v0:Ac} {F0:Al} {v1:Ac} {F1:Al} {v3:Ac} {F3:Al} {v4:Ac} {F4:Al} {v5:Ac} {F5:Al} {y0:Ae1} {y1:Ae1} {y2:Int} {y3:Ae1} {y4:Ae2} {y5:Ae4} (h:Sep base w (A5 b 76 [v0,v1,(.int .i64 y2),v3,v4,v5] :: Ab Ao F0 v0 y0 :: Ab Ao F1 v1 y1 :: Ab BN F3 v3 y3 :: Ab Az F4 v4 y4 :: Ab Ch F5 v5 y5 :: L)):Sep base w (A2 AR 76 ([F0,F1,F3,F4,F5].flatten) b (y0,y1,y2,y3,y4,y5) :: L):=by
 replace h:=Hv [A5 b 76 _,Ab Ao F0 v0 y0,Ab Ao F1 v1 y1,Ab BN F3 v3 y3,Ab Az F4 v4 y4] h
 replace h:=Hv [A5 b 76 _,Ab Ao F0 v0 y0,Ab Ao F1 v1 y1,Ab BN F3 v3 y3] h
 replace h:=DD [A5 b 76 _,Ab Ao F0 v0 y0,Ab Ao F1 v1 y1,Ab BN F3 v3 y3] h
 replace h:=Hv [A5 b 76 _,Ab Ao F0 v0 y0,Ab Ao F1 v1 y1] h
 replace h:=DD [A5 b 76 _,Ab Ao F0 v0 y0,Ab Ao F1 v1 y1] h
 replace h:=ME Co y2 [A5 b 76 _,Ab Ao F0 v0 y0,Ab Ao F1 v1 y1] h
 replace h:=DD [A5 b 76 _,Ab Ao F0 v0 y0,Ab Ao F1 v1 y1] h
 replace h:=Hv [A5 b 76 _,Ab Ao F0 v0 y0] h
 replace h:=DD [A5 b 76 _,Ab Ao F0 v0 y0] h
 replace h:=Hv [A5 b 76 _] h
 replace h:=DD [A5 b 76 _] h
 exact PW h (by simp)
def Cc:Sh ((List Ae3) × Int × (List Int)):=(Sh.prod (Sh.slice C4) (Sh.prod Ar.toSh (Sh.arr iv 0 900 (fun _=>rfl))))
theorem NT {base:Nat} {w:Ae} {L:List Res} {F:Al} {b:Nat} {x:((List Ae3) × Int × (List Int))} (h:Sep base w (A2 Cc 198 F b x :: L)):∃ (v0:Ac) (F0:Al),List.length x.2.2 = 900 ∧ Sep base w (A5 b 198 ([v0,(.int .i64 x.2.1)] ++ ((MG x.2.2) ++ [])) :: Ab C4 F0 v0 x.1 :: L):=by
 obtain ⟨cs,g0⟩:=R2 h
 unfold Cc at g0
 obtain ⟨a0,c0,Fa0,Fb0,hc0,hF0,g1⟩:=Er [A5 b 198 cs] g0
 obtain ⟨v0,e0,g2⟩:=Iq [A5 b 198 cs] g1
 obtain ⟨a1,c1,Fa1,Fb1,hc1,hF1,g3⟩:=Er [A5 b 198 cs,Ab C4 Fa0 v0 x.1] g2
 obtain ⟨e1,g4⟩:=N7 Co [A5 b 198 cs,Ab C4 Fa0 v0 x.1] g3
 obtain ⟨-,e2,hn2,g5⟩:=Wt [A5 b 198 cs,Ab C4 Fa0 v0 x.1] g4
 subst e0 e1 e2 hc1 hc0
 refine ⟨v0,Fa0,hn2,?_⟩
 rw [List.append_nil]
 exact g5
theorem Io {base:Nat} {w:Ae} {L:List Res} {b:Nat} {v0:Ac} {F0:Al} {y0:(List Ae3)} {y1:Int} {y2:(List Int)} (hn2:List.length y2 = 900) (h:Sep base w (A5 b 198 ([v0,(.int .i64 y1)] ++ ((MG y2) ++ [])) :: Ab C4 F0 v0 y0 :: L)):Sep base w (A2 Cc 198 ([F0].flatten) b (y0,y1,y2) :: L):=by
 rw [List.append_nil] at h
 replace h:=Vl (f:=iv) (z:=0) (h1:=fun _=>rfl) y2 hn2 [A5 b 198 _,Ab C4 F0 v0 y0] h
 replace h:=ME Co y1 [A5 b 198 _,Ab C4 F0 v0 y0] h
 replace h:=DD [A5 b 198 _,Ab C4 F0 v0 y0] h
 replace h:=Hv [A5 b 198 _] h
 replace h:=DD [A5 b 198 _] h
 exact PW h (by simp)
def CC:Sh Ae5:=(Sh.prod (Sh.arr Value.bool false 900 (fun _=>rfl)) (Sh.prod Ar.toSh (Sh.prod (Sh.slicen Ar) Ar.toSh)))
theorem NS {base:Nat} {w:Ae} {L:List Res} {F:Al} {b:Nat} {x:Ae5} (h:Sep base w (A2 CC 212 F b x :: L)):∃ (v2:Ac) (F2:Al),List.length x.1 = 900 ∧ (x.2.2.1 = [] → v2 = .slice none 0 0) ∧ Sep base w (A5 b 212 ((IQ x.1) ++ [(.int .i64 x.2.1),v2,(.int .i64 x.2.2.2)]) :: Ab Ar F2 v2 x.2.2.1 :: L):=by
 obtain ⟨cs,g0⟩:=R2 h
 unfold CC at g0
 obtain ⟨a0,c0,Fa0,Fb0,hc0,hF0,g1⟩:=Er [A5 b 212 cs] g0
 obtain ⟨-,e0,hn0,g2⟩:=Wt [A5 b 212 cs] g1
 obtain ⟨a1,c1,Fa1,Fb1,hc1,hF1,g3⟩:=Er [A5 b 212 cs] g2
 obtain ⟨e1,g4⟩:=N7 Co [A5 b 212 cs] g3
 obtain ⟨a2,c2,Fa2,Fb2,hc2,hF2,g5⟩:=Er [A5 b 212 cs] g4
 obtain ⟨v2,e2,hn2,g6⟩:=Abu [A5 b 212 cs] g5
 obtain ⟨e3,g7⟩:=N7 Co [A5 b 212 cs,Ab Ar Fa2 v2 x.2.2.1] g6
 subst e0 e1 e2 e3 hc2 hc1 hc0
 refine ⟨v2,Fa2,hn0,hn2,?_⟩
 exact g7
theorem JU {base:Nat} {w:Ae} {L:List Res} {b:Nat} {v2:Ac} {F2:Al} {y0:(List Bool)} {y1:Int} {y2:(List Int)} {y3:Int} (hn0:List.length y0 = 900) (hn2:(y2 = [] → v2 = .slice none 0 0)) (h:Sep base w (A5 b 212 ((IQ y0) ++ [(.int .i64 y1),v2,(.int .i64 y3)]) :: Ab Ar F2 v2 y2 :: L)):Sep base w (A2 CC 212 ([F2].flatten) b (y0,y1,y2,y3) :: L):=by
 replace h:=ME Co y3 [A5 b 212 _,Ab Ar F2 v2 y2] h
 replace h:=Aaq hn2 [A5 b 212 _] h
 replace h:=DD [A5 b 212 _] h
 replace h:=ME Co y1 [A5 b 212 _] h
 replace h:=DD [A5 b 212 _] h
 replace h:=Vl (f:=Value.bool) (z:=false) (h1:=fun _=>rfl) y0 hn0 [A5 b 212 _] h
 replace h:=DD [A5 b 212 _] h
 exact PW h (by simp)
theorem IU:Fm Tryz.prog 74 0 0 = true:=by kernel_rfl
theorem Un:Fm Tryz.prog 74 1 1 = true:=by kernel_rfl
theorem Um:Fm Tryz.prog 74 2 2 = true:=by kernel_rfl
theorem Ul:Fm Tryz.prog 74 3 3 = true:=by kernel_rfl
theorem Uk:Fm Tryz.prog 74 4 4 = true:=by kernel_rfl
theorem Uj:Fm Tryz.prog 74 5 5 = true:=by kernel_rfl
theorem XP:Fm Tryz.prog 74 6 6 = true:=by kernel_rfl
theorem XO:Fm Tryz.prog 74 7 7 = true:=by kernel_rfl
theorem Abw:Fm Tryz.prog 74 8 8 = true:=by kernel_rfl
theorem HM:Fm Tryz.prog 76 0 0 = true:=by kernel_rfl
theorem R8:Fm Tryz.prog 76 1 1 = true:=by kernel_rfl
theorem R7:Fm Tryz.prog 76 2 2 = true:=by kernel_rfl
theorem Ui:Fm Tryz.prog 76 3 3 = true:=by kernel_rfl
theorem Uh:Fm Tryz.prog 76 4 4 = true:=by kernel_rfl
theorem Ug:Fm Tryz.prog 76 5 5 = true:=by kernel_rfl
theorem CJ:Fm Tryz.prog 79 0 0 = true:=by kernel_rfl
theorem CI:Fm Tryz.prog 79 1 1 = true:=by kernel_rfl
theorem Kx:Fm Tryz.prog 82 0 0 = true:=by kernel_rfl
theorem NE:Fm Tryz.prog 82 1 1 = true:=by kernel_rfl
theorem ND:Fm Tryz.prog 87 0 0 = true:=by kernel_rfl
theorem NC:Fm Tryz.prog 87 1 1 = true:=by kernel_rfl
theorem NB:Fm Tryz.prog 87 2 2 = true:=by kernel_rfl
theorem J4:Fm Tryz.prog 125 0 0 = true:=by kernel_rfl
theorem HT:Fm Tryz.prog 125 1 1 = true:=by kernel_rfl
theorem DB:Fm Tryz.prog 125 2 2 = true:=by kernel_rfl
theorem GP:Fm Tryz.prog 125 3 3 = true:=by kernel_rfl
theorem E0:Fm Tryz.prog 128 0 0 = true:=by kernel_rfl
theorem KR:Fm Tryz.prog 128 1 1 = true:=by kernel_rfl
theorem KQ:Fm Tryz.prog 128 2 2 = true:=by kernel_rfl
theorem Gu:Fm Tryz.prog 128 3 3 = true:=by kernel_rfl
theorem Fz:Fm Tryz.prog 187 0 0 = true:=by kernel_rfl
theorem Gt:Fm Tryz.prog 187 1 2 = true:=by kernel_rfl
theorem HS:Fm Tryz.prog 187 2 4 = true:=by kernel_rfl
theorem S0:Fm Tryz.prog 198 0 0 = true:=by kernel_rfl
theorem Aao:Fm Tryz.prog 198 1 1 = true:=by kernel_rfl
theorem Sz:Fm Tryz.prog 198 2 2 = true:=by kernel_rfl
theorem WE:Fm Tryz.prog 212 0 0 = true:=by kernel_rfl
theorem Aan:Fm Tryz.prog 212 1 900 = true:=by kernel_rfl
theorem Sy:Fm Tryz.prog 212 2 901 = true:=by kernel_rfl
theorem Sx:Fm Tryz.prog 212 3 902 = true:=by kernel_rfl
theorem Ad0:HK Tryz.prog 74 [(0,1),(1,1),(2,1),(3,1),(4,1),(5,1),(6,1),(7,1),(8,1)] = true:=by kernel_rfl
theorem Adz:HK Tryz.prog 76 [(0,1),(1,1),(2,1),(3,1),(4,1),(5,1)] = true:=by kernel_rfl
theorem L4:HK Tryz.prog 79 [(0,1),(1,1)] = true:=by kernel_rfl
theorem VG:HK Tryz.prog 82 [(0,1),(1,1)] = true:=by kernel_rfl
theorem VF:HK Tryz.prog 87 [(0,1),(1,1),(2,1)] = true:=by kernel_rfl
theorem Ze:HK Tryz.prog 125 [(0,1),(1,1),(2,1),(3,1)] = true:=by kernel_rfl
theorem Po:HK Tryz.prog 128 [(0,1),(1,1),(2,1),(3,1)] = true:=by kernel_rfl
theorem Zd:HK Tryz.prog 187 [(0,2),(2,2),(4,1)] = true:=by kernel_rfl
theorem Acy:HK Tryz.prog 198 [(0,1),(1,1),(2,900)] = true:=by kernel_rfl
theorem Acx:HK Tryz.prog 212 [(0,900),(900,1),(901,1),(902,1)] = true:=by kernel_rfl
theorem Abd (x y:(Int × Int)) (w:Ae):(Op.equalIn 10000 79 (.agg #[(.int .i64 x.1),(.int .i64 x.2)]) (.agg #[(.int .i64 y.1),(.int .i64 y.2)])).run Tryz.prog w = .ok (MC x y) w:=by
 go_simp
 by_cases h0:x.1 = y.1 <;> by_cases h1:x.2 = y.2 <;> simp [MC,h0,h1]
theorem Aej:Opn Tryz.prog 9 Cy.rd (Adp Ado):=Yj Tryz.underlying9
end
end Go.Proofs.YtellehgihceicaaGreatDoor
