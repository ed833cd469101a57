/-
 THE TYPES of this seat, by program (gen.py).
-/
import Derived.Test.YtellehgihceicaaGreatDoorCore20
import Derived.Test.YtellehgihceicaaGreatDoorF
set_option linter.unusedVariables false
set_option linter.unusedSimpArgs false
set_option maxRecDepth 100000
set_option maxHeartbeats 1600000
namespace Go.Proofs.YtellehgihceicaaGreatDoor
open Go Go.RowKit
abbrev A1 (f:FuncId) (l:List Ac):=Calls Tryz.prog f l.toArray
noncomputable section
theorem B2:Tryz.prog.follows .mixedOrders = true:=by kernel_rfl
theorem A4:TF Tryz.prog 3 1 false (.int .i64 0):=⟨Tryz.sizeOf3,Tryz.isAgg3,Tryz.zeroValue3,by decide,by decide⟩
theorem ZI:TF Tryz.prog 4 1 false (.bool false):=⟨Tryz.sizeOf4,Tryz.isAgg4,Tryz.zeroValue4,by decide,by decide⟩
theorem Nj:TF Tryz.prog 9 1 false (.string .empty):=⟨Tryz.sizeOf9,Tryz.isAgg9,Tryz.zeroValue9,by decide,by decide⟩
theorem Cp:TF Tryz.prog 26 1 false (.slice none 0 0):=⟨Tryz.sizeOf26,Tryz.isAgg26,Tryz.zeroValue26,by decide,by decide⟩
theorem R4:TF Tryz.prog 31 1 false (.slice none 0 0):=⟨Tryz.sizeOf31,Tryz.isAgg31,Tryz.zeroValue31,by decide,by decide⟩
theorem EQ:TF Tryz.prog 36 1 false (.slice none 0 0):=⟨Tryz.sizeOf36,Tryz.isAgg36,Tryz.zeroValue36,by decide,by decide⟩
theorem R3:TF Tryz.prog 41 1 false (.slice none 0 0):=⟨Tryz.sizeOf41,Tryz.isAgg41,Tryz.zeroValue41,by decide,by decide⟩
theorem R2:TF Tryz.prog 72 1 false (.slice none 0 0):=⟨Tryz.sizeOf72,Tryz.isAgg72,Tryz.zeroValue72,by decide,by decide⟩
theorem Adw:TF Tryz.prog 74 9 true (.agg #[(.slice none 0 0),(.slice none 0 0),(.int .i64 0),(.slice none 0 0),(.slice none 0 0),(.slice none 0 0),(.slice none 0 0),(.slice none 0 0),(.int .i64 0)]):=⟨Tryz.sizeOf74,Tryz.isAgg74,Tryz.zeroValue74,by decide,by decide⟩
theorem Adv:TF Tryz.prog 76 6 true (.agg #[(.slice none 0 0),(.slice none 0 0),(.int .i64 0),(.slice none 0 0),(.slice none 0 0),(.slice none 0 0)]):=⟨Tryz.sizeOf76,Tryz.isAgg76,Tryz.zeroValue76,by decide,by decide⟩
theorem Bt:TF Tryz.prog 79 2 true (.agg #[(.int .i64 0),(.int .i64 0)]):=⟨Tryz.sizeOf79,Tryz.isAgg79,Tryz.zeroValue79,by decide,by decide⟩
theorem GR:TF Tryz.prog 82 2 true (.agg #[(.int .i64 0),(.int .i64 0)]):=⟨Tryz.sizeOf82,Tryz.isAgg82,Tryz.zeroValue82,by decide,by decide⟩
theorem LC:TF Tryz.prog 87 3 true (.agg #[(.int .i64 0),(.int .i64 0),(.int .i64 0)]):=⟨Tryz.sizeOf87,Tryz.isAgg87,Tryz.zeroValue87,by decide,by decide⟩
theorem BD:TF Tryz.prog 125 4 true (.agg #[(.int .i64 0),(.int .i64 0),(.int .i64 0),(.int .i64 0)]):=⟨Tryz.sizeOf125,Tryz.isAgg125,Tryz.zeroValue125,by decide,by decide⟩
theorem Bp:TF Tryz.prog 128 4 true (.agg #[(.slice none 0 0),(.slice none 0 0),(.int .i64 0),(.slice none 0 0)]):=⟨Tryz.sizeOf128,Tryz.isAgg128,Tryz.zeroValue128,by decide,by decide⟩
theorem VX:TF Tryz.prog 184 1 false (.slice none 0 0):=⟨Tryz.sizeOf184,Tryz.isAgg184,Tryz.zeroValue184,by decide,by decide⟩
theorem Cy:TF Tryz.prog 187 5 true (.agg #[(.int .i64 0),(.int .i64 0),(.int .i64 0),(.int .i64 0),(.int .i64 0)]):=⟨Tryz.sizeOf187,Tryz.isAgg187,Tryz.zeroValue187,by decide,by decide⟩
theorem Ack:TF Tryz.prog 198 902 true (.agg Tryz.zeroCells198):=⟨Tryz.sizeOf198,Tryz.isAgg198,Tryz.zeroValue198,by decide,by decide⟩
theorem Acj:TF Tryz.prog 212 903 true (.agg Tryz.zeroCells212):=⟨Tryz.sizeOf212,Tryz.isAgg212,Tryz.zeroValue212,by decide,by decide⟩
def Yp (x:Int):List Ac:=[(.int .i64 x)]
def Ao:Ty Tryz.prog Int:={ Sh.flat Yp 1 0 (fun _=>rfl) (fun x=>Ones.all (vs:=Yp x) ⟨rfl,trivial⟩) with tid:=3,bts:=8,agg:=false,sz_pos:=by decide,bts_le:=by decide,info:=⟨_,_,Tryz.type3,rfl,rfl,rfl,rfl⟩,und:=⟨_,Tryz.underlying3,rfl⟩,one1:=by decide }
theorem Ca:Flat Ao Yp:=⟨fun h=>h,fun _ _=>⟨rfl,rfl⟩,fun h=>h.1⟩
def Yo (x:Int):List Ac:=[(.int .u8 x)]
def Aei:Ty Tryz.prog Int:={ Sh.flat Yo 1 0 (fun _=>rfl) (fun x=>Ones.all (vs:=Yo x) ⟨rfl,trivial⟩) with tid:=5,bts:=1,agg:=false,sz_pos:=by decide,bts_le:=by decide,info:=⟨_,_,Tryz.type5,rfl,rfl,rfl,rfl⟩,und:=⟨_,Tryz.underlying5,rfl⟩,one1:=by decide }
theorem SA:Flat Aei Yo:=⟨fun h=>h,fun _ _=>⟨rfl,rfl⟩,fun h=>h.1⟩
def VM (x:(List Aj)):List Ac:=[(.string (B5 x))]
def Cx:Ty Tryz.prog (List Aj):={ Sh.flat VM 1 [] (fun _=>rfl) (fun x=>Ones.all (vs:=VM x) ⟨rfl,trivial⟩) with tid:=9,bts:=16,agg:=false,sz_pos:=by decide,bts_le:=by decide,info:=⟨_,_,Tryz.type9,rfl,rfl,rfl,rfl⟩,und:=⟨_,Tryz.underlying9,rfl⟩,one1:=by decide }
theorem IB:Flat Cx VM:=⟨fun h=>h,fun _ _=>⟨rfl,rfl⟩,fun h=>h.1⟩
def WK (x:(Int × Int)):List Ac:=[(.int .i64 x.1),(.int .i64 x.2)]
def Ar:Ty Tryz.prog (Int × Int):={ Sh.flat WK 2 (0,0) (fun _=>rfl) (fun x=>Ones.all (vs:=WK x) ⟨rfl,rfl,trivial⟩) with tid:=79,bts:=16,agg:=true,sz_pos:=by decide,bts_le:=by decide,info:=⟨_,_,Tryz.type79,rfl,rfl,rfl,rfl⟩,und:=⟨_,Tryz.underlying79,rfl⟩,one1:=by decide }
theorem CC:Flat Ar WK:=⟨fun h=>h,fun _ _=>⟨rfl,rfl⟩,fun h=>h.1⟩
def WJ (x:(Int × Int)):List Ac:=[(.int .i64 x.1),(.int .i64 x.2)]
def BN:Ty Tryz.prog (Int × Int):={ Sh.flat WJ 2 (0,0) (fun _=>rfl) (fun x=>Ones.all (vs:=WJ x) ⟨rfl,rfl,trivial⟩) with tid:=82,bts:=16,agg:=true,sz_pos:=by decide,bts_le:=by decide,info:=⟨_,_,Tryz.type82,rfl,rfl,rfl,rfl⟩,und:=⟨_,Tryz.underlying82,rfl⟩,one1:=by decide }
theorem GM:Flat BN WJ:=⟨fun h=>h,fun _ _=>⟨rfl,rfl⟩,fun h=>h.1⟩
def Cn:Ty Tryz.prog (List Int):={ Sh.slice Ao with tid:=36,bts:=24,agg:=false,sz_pos:=by decide,bts_le:=by decide,info:=⟨_,_,Tryz.type36,rfl,rfl,rfl,rfl⟩,und:=⟨_,Tryz.underlying36,rfl⟩,one1:=by decide }
def WI (x:(Int × Int × Int)):List Ac:=[(.int .i64 x.1),(.int .i64 x.2.1),(.int .i64 x.2.2)]
def Cm:Ty Tryz.prog (Int × Int × Int):={ Sh.flat WI 3 (0,0,0) (fun _=>rfl) (fun x=>Ones.all (vs:=WI x) ⟨rfl,rfl,rfl,trivial⟩) with tid:=87,bts:=24,agg:=true,sz_pos:=by decide,bts_le:=by decide,info:=⟨_,_,Tryz.type87,rfl,rfl,rfl,rfl⟩,und:=⟨_,Tryz.underlying87,rfl⟩,one1:=by decide }
theorem GL:Flat Cm WI:=⟨fun h=>h,fun _ _=>⟨rfl,rfl⟩,fun h=>h.1⟩
def U0 (x:(Int × Int × Int × Int)):List Ac:=[(.int .i64 x.1),(.int .i64 x.2.1),(.int .i64 x.2.2.1),(.int .i64 x.2.2.2)]
def A0:Ty Tryz.prog (Int × Int × Int × Int):={ Sh.flat U0 4 (0,0,0,0) (fun _=>rfl) (fun x=>Ones.all (vs:=U0 x) ⟨rfl,rfl,rfl,rfl,trivial⟩) with tid:=125,bts:=32,agg:=true,sz_pos:=by decide,bts_le:=by decide,info:=⟨_,_,Tryz.type125,rfl,rfl,rfl,rfl⟩,und:=⟨_,Tryz.underlying125,rfl⟩,one1:=by decide }
theorem Ct:Flat A0 U0:=⟨fun h=>h,fun _ _=>⟨rfl,rfl⟩,fun h=>h.1⟩
def Uz (x:Ae6):List Ac:=[(.int .i64 x.1.1),(.int .i64 x.1.2),(.int .i64 x.2.1.1),(.int .i64 x.2.1.2),(.int .i64 x.2.2)]
def C3:Ty Tryz.prog Ae6:={ Sh.flat Uz 5 ((0,0),(0,0),0) (fun _=>rfl) (fun x=>Ones.all (vs:=Uz x) ⟨rfl,rfl,rfl,rfl,rfl,trivial⟩) with tid:=187,bts:=40,agg:=true,sz_pos:=by decide,bts_le:=by decide,info:=⟨_,_,Tryz.type187,rfl,rfl,rfl,rfl⟩,und:=⟨_,Tryz.underlying187,rfl⟩,one1:=by decide }
theorem Rd:Flat C3 Uz:=⟨fun h=>h,fun _ _=>⟨rfl,rfl⟩,fun h=>h.1⟩
def B1:Sh (Ae4 × Ae4 × Int × Ae4 × Ae5 × Ae7 × (List Int) × (List Int) × Int):=(Sh.prod (Sh.slice Ar) (Sh.prod (Sh.slice Ar) (Sh.prod Ao.toSh (Sh.prod (Sh.slice BN) (Sh.prod (Sh.slice A0) (Sh.prod (Sh.slice Cm) (Sh.prod (Sh.slice Ao) (Sh.prod (Sh.slice Ao) Ao.toSh))))))))
theorem Hi {base:Nat} {w:Ae} {L:List Res} {F:An} {b:Nat} {x:(Ae4 × Ae4 × Int × Ae4 × Ae5 × Ae7 × (List Int) × (List Int) × Int)} (h:Sep base w (A3 B1 74 F b x :: L)):∃ (v0:Ac) (F0:An),∃ (v1:Ac) (F1:An),∃ (v3:Ac) (F3:An),∃ (v4:Ac) (F4:An),∃ (v5:Ac) (F5:An),∃ (v6:Ac) (F6:An),∃ (v7:Ac) (F7:An),Sep base w (A9 b 74 [v0,v1,(.int .i64 x.2.2.1),v3,v4,v5,v6,v7,(.int .i64 x.2.2.2.2.2.2.2.2)] :: Ab Ar F0 v0 x.1 :: Ab Ar F1 v1 x.2.1 :: Ab BN F3 v3 x.2.2.2.1 :: Ab A0 F4 v4 x.2.2.2.2.1 :: Ab Cm F5 v5 x.2.2.2.2.2.1 :: Ab Ao F6 v6 x.2.2.2.2.2.2.1 :: Ab Ao F7 v7 x.2.2.2.2.2.2.2.1 :: L):=by
 obtain ⟨cs,g0⟩:=R8 h
 unfold B1 at g0
 obtain ⟨a0,c0,Fa0,Fb0,hc0,hF0,g1⟩:=Et [A9 b 74 cs] g0
 obtain ⟨v0,e0,g2⟩:=Iv [A9 b 74 cs] g1
 obtain ⟨a1,c1,Fa1,Fb1,hc1,hF1,g3⟩:=Et [A9 b 74 cs,Ab Ar Fa0 v0 x.1] g2
 obtain ⟨v1,e1,g4⟩:=Iv [A9 b 74 cs,Ab Ar Fa0 v0 x.1] g3
 obtain ⟨a2,c2,Fa2,Fb2,hc2,hF2,g5⟩:=Et [A9 b 74 cs,Ab Ar Fa0 v0 x.1,Ab Ar Fa1 v1 x.2.1] g4
 obtain ⟨e2,g6⟩:=NG Ca [A9 b 74 cs,Ab Ar Fa0 v0 x.1,Ab Ar Fa1 v1 x.2.1] g5
 obtain ⟨a3,c3,Fa3,Fb3,hc3,hF3,g7⟩:=Et [A9 b 74 cs,Ab Ar Fa0 v0 x.1,Ab Ar Fa1 v1 x.2.1] g6
 obtain ⟨v3,e3,g8⟩:=Iv [A9 b 74 cs,Ab Ar Fa0 v0 x.1,Ab Ar Fa1 v1 x.2.1] g7
 obtain ⟨a4,c4,Fa4,Fb4,hc4,hF4,g9⟩:=Et [A9 b 74 cs,Ab Ar Fa0 v0 x.1,Ab Ar Fa1 v1 x.2.1,Ab BN Fa3 v3 x.2.2.2.1] g8
 obtain ⟨v4,e4,g10⟩:=Iv [A9 b 74 cs,Ab Ar Fa0 v0 x.1,Ab Ar Fa1 v1 x.2.1,Ab BN Fa3 v3 x.2.2.2.1] g9
 obtain ⟨a5,c5,Fa5,Fb5,hc5,hF5,g11⟩:=Et [A9 b 74 cs,Ab Ar Fa0 v0 x.1,Ab Ar Fa1 v1 x.2.1,Ab BN Fa3 v3 x.2.2.2.1,Ab A0 Fa4 v4 x.2.2.2.2.1] g10
 obtain ⟨v5,e5,g12⟩:=Iv [A9 b 74 cs,Ab Ar Fa0 v0 x.1,Ab Ar Fa1 v1 x.2.1,Ab BN Fa3 v3 x.2.2.2.1,Ab A0 Fa4 v4 x.2.2.2.2.1] g11
 obtain ⟨a6,c6,Fa6,Fb6,hc6,hF6,g13⟩:=Et [A9 b 74 cs,Ab Ar Fa0 v0 x.1,Ab Ar Fa1 v1 x.2.1,Ab BN Fa3 v3 x.2.2.2.1,Ab A0 Fa4 v4 x.2.2.2.2.1,Ab Cm Fa5 v5 x.2.2.2.2.2.1] g12
 obtain ⟨v6,e6,g14⟩:=Iv [A9 b 74 cs,Ab Ar Fa0 v0 x.1,Ab Ar Fa1 v1 x.2.1,Ab BN Fa3 v3 x.2.2.2.1,Ab A0 Fa4 v4 x.2.2.2.2.1,Ab Cm Fa5 v5 x.2.2.2.2.2.1] g13
 obtain ⟨a7,c7,Fa7,Fb7,hc7,hF7,g15⟩:=Et [A9 b 74 cs,Ab Ar Fa0 v0 x.1,Ab Ar Fa1 v1 x.2.1,Ab BN Fa3 v3 x.2.2.2.1,Ab A0 Fa4 v4 x.2.2.2.2.1,Ab Cm Fa5 v5 x.2.2.2.2.2.1,Ab Ao Fa6 v6 x.2.2.2.2.2.2.1] g14
 obtain ⟨v7,e7,g16⟩:=Iv [A9 b 74 cs,Ab Ar Fa0 v0 x.1,Ab Ar Fa1 v1 x.2.1,Ab BN Fa3 v3 x.2.2.2.1,Ab A0 Fa4 v4 x.2.2.2.2.1,Ab Cm Fa5 v5 x.2.2.2.2.2.1,Ab Ao Fa6 v6 x.2.2.2.2.2.2.1] g15
 obtain ⟨e8,g17⟩:=NG Ca [A9 b 74 cs,Ab Ar Fa0 v0 x.1,Ab Ar Fa1 v1 x.2.1,Ab BN Fa3 v3 x.2.2.2.1,Ab A0 Fa4 v4 x.2.2.2.2.1,Ab Cm Fa5 v5 x.2.2.2.2.2.1,Ab Ao Fa6 v6 x.2.2.2.2.2.2.1,Ab Ao Fa7 v7 x.2.2.2.2.2.2.2.1] g16
 subst e0 e1 e2 e3 e4 e5 e6 e7 e8 hc7 hc6 hc5 hc4 hc3 hc2 hc1 hc0
 refine ⟨v0,Fa0,v1,Fa1,v3,Fa3,v4,Fa4,v5,Fa5,v6,Fa6,v7,Fa7,?_⟩
 exact g17
theorem D5 {base:Nat} {w:Ae} {L:List Res} {b:Nat} {v0:Ac} {F0:An} {v1:Ac} {F1:An} {v3:Ac} {F3:An} {v4:Ac} {F4:An} {v5:Ac} {F5:An} {v6:Ac} {F6:An} {v7:Ac} {F7:An} {y0:Ae4} {y1:Ae4} {y2:Int} {y3:Ae4} {y4:Ae5} {y5:Ae7} {y6:(List Int)} {y7:(List Int)} {y8:Int} (h:Sep base w (A9 b 74 [v0,v1,(.int .i64 y2),v3,v4,v5,v6,v7,(.int .i64 y8)] :: Ab Ar F0 v0 y0 :: Ab Ar F1 v1 y1 :: Ab BN F3 v3 y3 :: Ab A0 F4 v4 y4 :: Ab Cm F5 v5 y5 :: Ab Ao F6 v6 y6 :: Ab Ao F7 v7 y7 :: L)):Sep base w (A3 B1 74 ([F0,F1,F3,F4,F5,F6,F7].flatten) b (y0,y1,y2,y3,y4,y5,y6,y7,y8) :: L):=by
 replace h:=MI Ca y8 [A9 b 74 _,Ab Ar F0 v0 y0,Ab Ar F1 v1 y1,Ab BN F3 v3 y3,Ab A0 F4 v4 y4,Ab Cm F5 v5 y5,Ab Ao F6 v6 y6,Ab Ao F7 v7 y7] h
 replace h:=Hz [A9 b 74 _,Ab Ar F0 v0 y0,Ab Ar F1 v1 y1,Ab BN F3 v3 y3,Ab A0 F4 v4 y4,Ab Cm F5 v5 y5,Ab Ao F6 v6 y6] h
 replace h:=DE [A9 b 74 _,Ab Ar F0 v0 y0,Ab Ar F1 v1 y1,Ab BN F3 v3 y3,Ab A0 F4 v4 y4,Ab Cm F5 v5 y5,Ab Ao F6 v6 y6] h
 replace h:=Hz [A9 b 74 _,Ab Ar F0 v0 y0,Ab Ar F1 v1 y1,Ab BN F3 v3 y3,Ab A0 F4 v4 y4,Ab Cm F5 v5 y5] h
 replace h:=DE [A9 b 74 _,Ab Ar F0 v0 y0,Ab Ar F1 v1 y1,Ab BN F3 v3 y3,Ab A0 F4 v4 y4,Ab Cm F5 v5 y5] h
 replace h:=Hz [A9 b 74 _,Ab Ar F0 v0 y0,Ab Ar F1 v1 y1,Ab BN F3 v3 y3,Ab A0 F4 v4 y4] h
 replace h:=DE [A9 b 74 _,Ab Ar F0 v0 y0,Ab Ar F1 v1 y1,Ab BN F3 v3 y3,Ab A0 F4 v4 y4] h
 replace h:=Hz [A9 b 74 _,Ab Ar F0 v0 y0,Ab Ar F1 v1 y1,Ab BN F3 v3 y3] h
 replace h:=DE [A9 b 74 _,Ab Ar F0 v0 y0,Ab Ar F1 v1 y1,Ab BN F3 v3 y3] h
 replace h:=Hz [A9 b 74 _,Ab Ar F0 v0 y0,Ab Ar F1 v1 y1] h
 replace h:=DE [A9 b 74 _,Ab Ar F0 v0 y0,Ab Ar F1 v1 y1] h
 replace h:=MI Ca y2 [A9 b 74 _,Ab Ar F0 v0 y0,Ab Ar F1 v1 y1] h
 replace h:=DE [A9 b 74 _,Ab Ar F0 v0 y0,Ab Ar F1 v1 y1] h
 replace h:=Hz [A9 b 74 _,Ab Ar F0 v0 y0] h
 replace h:=DE [A9 b 74 _,Ab Ar F0 v0 y0] h
 replace h:=Hz [A9 b 74 _] h
 replace h:=DE [A9 b 74 _] h
 exact Qd h (by simp)
def AV:Sh (Ae4 × Ae4 × Int × Ae4 × Ae5 × Ae7):=(Sh.prod (Sh.slice Ar) (Sh.prod (Sh.slice Ar) (Sh.prod Ao.toSh (Sh.prod (Sh.slice BN) (Sh.prod (Sh.slice A0) (Sh.slice Cm))))))
theorem Iw {base:Nat} {w:Ae} {L:List Res} {F:An} {b:Nat} {x:(Ae4 × Ae4 × Int × Ae4 × Ae5 × Ae7)} (h:Sep base w (A3 AV 76 F b x :: L)):∃ (v0:Ac) (F0:An),∃ (v1:Ac) (F1:An),∃ (v3:Ac) (F3:An),∃ (v4:Ac) (F4:An),∃ (v5:Ac) (F5:An),Sep base w (A9 b 76 [v0,v1,(.int .i64 x.2.2.1),v3,v4,v5] :: Ab Ar F0 v0 x.1 :: Ab Ar F1 v1 x.2.1 :: Ab BN F3 v3 x.2.2.2.1 :: Ab A0 F4 v4 x.2.2.2.2.1 :: Ab Cm F5 v5 x.2.2.2.2.2 :: L):=by
 obtain ⟨cs,g0⟩:=R8 h
 unfold AV at g0
 obtain ⟨a0,c0,Fa0,Fb0,hc0,hF0,g1⟩:=Et [A9 b 76 cs] g0
 obtain ⟨v0,e0,g2⟩:=Iv [A9 b 76 cs] g1
 obtain ⟨a1,c1,Fa1,Fb1,hc1,hF1,g3⟩:=Et [A9 b 76 cs,Ab Ar Fa0 v0 x.1] g2
 obtain ⟨v1,e1,g4⟩:=Iv [A9 b 76 cs,Ab Ar Fa0 v0 x.1] g3
 obtain ⟨a2,c2,Fa2,Fb2,hc2,hF2,g5⟩:=Et [A9 b 76 cs,Ab Ar Fa0 v0 x.1,Ab Ar Fa1 v1 x.2.1] g4
 obtain ⟨e2,g6⟩:=NG Ca [A9 b 76 cs,Ab Ar Fa0 v0 x.1,Ab Ar Fa1 v1 x.2.1] g5
 obtain ⟨a3,c3,Fa3,Fb3,hc3,hF3,g7⟩:=Et [A9 b 76 cs,Ab Ar Fa0 v0 x.1,Ab Ar Fa1 v1 x.2.1] g6
 obtain ⟨v3,e3,g8⟩:=Iv [A9 b 76 cs,Ab Ar Fa0 v0 x.1,Ab Ar Fa1 v1 x.2.1] g7
 obtain ⟨a4,c4,Fa4,Fb4,hc4,hF4,g9⟩:=Et [A9 b 76 cs,Ab Ar Fa0 v0 x.1,Ab Ar Fa1 v1 x.2.1,Ab BN Fa3 v3 x.2.2.2.1] g8
 obtain ⟨v4,e4,g10⟩:=Iv [A9 b 76 cs,Ab Ar Fa0 v0 x.1,Ab Ar Fa1 v1 x.2.1,Ab BN Fa3 v3 x.2.2.2.1] g9
 obtain ⟨v5,e5,g11⟩:=Iv [A9 b 76 cs,Ab Ar Fa0 v0 x.1,Ab Ar Fa1 v1 x.2.1,Ab BN Fa3 v3 x.2.2.2.1,Ab A0 Fa4 v4 x.2.2.2.2.1] g10
 subst e0 e1 e2 e3 e4 e5 hc4 hc3 hc2 hc1 hc0
 refine ⟨v0,Fa0,v1,Fa1,v3,Fa3,v4,Fa4,v5,Fb4,?_⟩
 exact g11
theorem Du {base:Nat} {w:Ae} {L:List Res} {b:Nat} {v0:Ac} {F0:An} {v1:Ac} {F1:An} {v3:Ac} {F3:An} {v4:Ac} {F4:An} {v5:Ac} {F5:An} {y0:Ae4} {y1:Ae4} {y2:Int} {y3:Ae4} {y4:Ae5} {y5:Ae7} (h:Sep base w (A9 b 76 [v0,v1,(.int .i64 y2),v3,v4,v5] :: Ab Ar F0 v0 y0 :: Ab Ar F1 v1 y1 :: Ab BN F3 v3 y3 :: Ab A0 F4 v4 y4 :: Ab Cm F5 v5 y5 :: L)):Sep base w (A3 AV 76 ([F0,F1,F3,F4,F5].flatten) b (y0,y1,y2,y3,y4,y5) :: L):=by
 replace h:=Hz [A9 b 76 _,Ab Ar F0 v0 y0,Ab Ar F1 v1 y1,Ab BN F3 v3 y3,Ab A0 F4 v4 y4] h
 replace h:=Hz [A9 b 76 _,Ab Ar F0 v0 y0,Ab Ar F1 v1 y1,Ab BN F3 v3 y3] h
 replace h:=DE [A9 b 76 _,Ab Ar F0 v0 y0,Ab Ar F1 v1 y1,Ab BN F3 v3 y3] h
 replace h:=Hz [A9 b 76 _,Ab Ar F0 v0 y0,Ab Ar F1 v1 y1] h
 replace h:=DE [A9 b 76 _,Ab Ar F0 v0 y0,Ab Ar F1 v1 y1] h
 replace h:=MI Ca y2 [A9 b 76 _,Ab Ar F0 v0 y0,Ab Ar F1 v1 y1] h
 replace h:=DE [A9 b 76 _,Ab Ar F0 v0 y0,Ab Ar F1 v1 y1] h
 replace h:=Hz [A9 b 76 _,Ab Ar F0 v0 y0] h
 replace h:=DE [A9 b 76 _,Ab Ar F0 v0 y0] h
 replace h:=Hz [A9 b 76 _] h
 replace h:=DE [A9 b 76 _] h
 exact Qd h (by simp)
def Ce:Sh ((List Ae6) × Int × (List Int)):=(Sh.prod (Sh.slice C3) (Sh.prod Ao.toSh (Sh.arr iv 0 900 (fun _=>rfl))))
theorem Oc {base:Nat} {w:Ae} {L:List Res} {F:An} {b:Nat} {x:((List Ae6) × Int × (List Int))} (h:Sep base w (A3 Ce 198 F b x :: L)):∃ (v0:Ac) (F0:An),List.length x.2.2 = 900 ∧ Sep base w (A9 b 198 ([v0,(.int .i64 x.2.1)] ++ ((MK x.2.2) ++ [])) :: Ab C3 F0 v0 x.1 :: L):=by
 obtain ⟨cs,g0⟩:=R8 h
 unfold Ce at g0
 obtain ⟨a0,c0,Fa0,Fb0,hc0,hF0,g1⟩:=Et [A9 b 198 cs] g0
 obtain ⟨v0,e0,g2⟩:=Iv [A9 b 198 cs] g1
 obtain ⟨a1,c1,Fa1,Fb1,hc1,hF1,g3⟩:=Et [A9 b 198 cs,Ab C3 Fa0 v0 x.1] g2
 obtain ⟨e1,g4⟩:=NG Ca [A9 b 198 cs,Ab C3 Fa0 v0 x.1] g3
 obtain ⟨-,e2,hn2,g5⟩:=Wv [A9 b 198 cs,Ab C3 Fa0 v0 x.1] g4
 subst e0 e1 e2 hc1 hc0
 refine ⟨v0,Fa0,hn2,?_⟩
 rw [List.append_nil]
 exact g5
theorem It {base:Nat} {w:Ae} {L:List Res} {b:Nat} {v0:Ac} {F0:An} {y0:(List Ae6)} {y1:Int} {y2:(List Int)} (hn2:List.length y2 = 900) (h:Sep base w (A9 b 198 ([v0,(.int .i64 y1)] ++ ((MK y2) ++ [])) :: Ab C3 F0 v0 y0 :: L)):Sep base w (A3 Ce 198 ([F0].flatten) b (y0,y1,y2) :: L):=by
 rw [List.append_nil] at h
 replace h:=Vs (f:=iv) (z:=0) (h1:=fun _=>rfl) y2 hn2 [A9 b 198 _,Ab C3 F0 v0 y0] h
 replace h:=MI Ca y1 [A9 b 198 _,Ab C3 F0 v0 y0] h
 replace h:=DE [A9 b 198 _,Ab C3 F0 v0 y0] h
 replace h:=Hz [A9 b 198 _] h
 replace h:=DE [A9 b 198 _] h
 exact Qd h (by simp)
def CB:Sh Ae8:=(Sh.prod (Sh.arr Value.bool false 900 (fun _=>rfl)) (Sh.prod Ao.toSh (Sh.prod (Sh.slicen Ao) Ao.toSh)))
theorem Ob {base:Nat} {w:Ae} {L:List Res} {F:An} {b:Nat} {x:Ae8} (h:Sep base w (A3 CB 212 F b x :: L)):∃ (v2:Ac) (F2:An),List.length x.1 = 900 ∧ (x.2.2.1 = [] → v2 = .slice none 0 0) ∧ Sep base w (A9 b 212 ((IX x.1) ++ [(.int .i64 x.2.1),v2,(.int .i64 x.2.2.2)]) :: Ab Ao F2 v2 x.2.2.1 :: L):=by
 obtain ⟨cs,g0⟩:=R8 h
 unfold CB at g0
 obtain ⟨a0,c0,Fa0,Fb0,hc0,hF0,g1⟩:=Et [A9 b 212 cs] g0
 obtain ⟨-,e0,hn0,g2⟩:=Wv [A9 b 212 cs] g1
 obtain ⟨a1,c1,Fa1,Fb1,hc1,hF1,g3⟩:=Et [A9 b 212 cs] g2
 obtain ⟨e1,g4⟩:=NG Ca [A9 b 212 cs] g3
 obtain ⟨a2,c2,Fa2,Fb2,hc2,hF2,g5⟩:=Et [A9 b 212 cs] g4
 obtain ⟨v2,e2,hn2,g6⟩:=Abt [A9 b 212 cs] g5
 obtain ⟨e3,g7⟩:=NG Ca [A9 b 212 cs,Ab Ao Fa2 v2 x.2.2.1] g6
 subst e0 e1 e2 e3 hc2 hc1 hc0
 refine ⟨v2,Fa2,hn0,hn2,?_⟩
 exact g7
theorem Ka {base:Nat} {w:Ae} {L:List Res} {b:Nat} {v2:Ac} {F2:An} {y0:(List Bool)} {y1:Int} {y2:(List Int)} {y3:Int} (hn0:List.length y0 = 900) (hn2:(y2 = [] → v2 = .slice none 0 0)) (h:Sep base w (A9 b 212 ((IX y0) ++ [(.int .i64 y1),v2,(.int .i64 y3)]) :: Ab Ao F2 v2 y2 :: L)):Sep base w (A3 CB 212 ([F2].flatten) b (y0,y1,y2,y3) :: L):=by
 replace h:=MI Ca y3 [A9 b 212 _,Ab Ao F2 v2 y2] h
 replace h:=Aas hn2 [A9 b 212 _] h
 replace h:=DE [A9 b 212 _] h
 replace h:=MI Ca y1 [A9 b 212 _] h
 replace h:=DE [A9 b 212 _] h
 replace h:=Vs (f:=Value.bool) (z:=false) (h1:=fun _=>rfl) y0 hn0 [A9 b 212 _] h
 replace h:=DE [A9 b 212 _] h
 exact Qd h (by simp)
theorem IZ:Fy Tryz.prog 74 0 0 = true:=by kernel_rfl
theorem Uy:Fy Tryz.prog 74 1 1 = true:=by kernel_rfl
theorem Ux:Fy Tryz.prog 74 2 2 = true:=by kernel_rfl
theorem Uw:Fy Tryz.prog 74 3 3 = true:=by kernel_rfl
theorem Uv:Fy Tryz.prog 74 4 4 = true:=by kernel_rfl
theorem Uu:Fy Tryz.prog 74 5 5 = true:=by kernel_rfl
theorem Ut:Fy Tryz.prog 74 6 6 = true:=by kernel_rfl
theorem Us:Fy Tryz.prog 74 7 7 = true:=by kernel_rfl
theorem Abw:Fy Tryz.prog 74 8 8 = true:=by kernel_rfl
theorem HR:Fy Tryz.prog 76 0 0 = true:=by kernel_rfl
theorem RE:Fy Tryz.prog 76 1 1 = true:=by kernel_rfl
theorem RD:Fy Tryz.prog 76 2 2 = true:=by kernel_rfl
theorem Ur:Fy Tryz.prog 76 3 3 = true:=by kernel_rfl
theorem Uq:Fy Tryz.prog 76 4 4 = true:=by kernel_rfl
theorem Up:Fy Tryz.prog 76 5 5 = true:=by kernel_rfl
theorem CL:Fy Tryz.prog 79 0 0 = true:=by kernel_rfl
theorem CK:Fy Tryz.prog 79 1 1 = true:=by kernel_rfl
theorem KA:Fy Tryz.prog 82 0 0 = true:=by kernel_rfl
theorem NN:Fy Tryz.prog 82 1 1 = true:=by kernel_rfl
theorem NM:Fy Tryz.prog 87 0 0 = true:=by kernel_rfl
theorem NL:Fy Tryz.prog 87 1 1 = true:=by kernel_rfl
theorem NK:Fy Tryz.prog 87 2 2 = true:=by kernel_rfl
theorem JA:Fy Tryz.prog 125 0 0 = true:=by kernel_rfl
theorem HY:Fy Tryz.prog 125 1 1 = true:=by kernel_rfl
theorem DD:Fy Tryz.prog 125 2 2 = true:=by kernel_rfl
theorem GW:Fy Tryz.prog 125 3 3 = true:=by kernel_rfl
theorem E2:Fy Tryz.prog 128 0 0 = true:=by kernel_rfl
theorem KZ:Fy Tryz.prog 128 1 1 = true:=by kernel_rfl
theorem KY:Fy Tryz.prog 128 2 2 = true:=by kernel_rfl
theorem Gz:Fy Tryz.prog 128 3 3 = true:=by kernel_rfl
theorem FD:Fy Tryz.prog 187 0 0 = true:=by kernel_rfl
theorem Gy:Fy Tryz.prog 187 1 2 = true:=by kernel_rfl
theorem HX:Fy Tryz.prog 187 2 4 = true:=by kernel_rfl
theorem SE:Fy Tryz.prog 198 0 0 = true:=by kernel_rfl
theorem Aap:Fy Tryz.prog 198 1 1 = true:=by kernel_rfl
theorem SD:Fy Tryz.prog 198 2 2 = true:=by kernel_rfl
theorem WG:Fy Tryz.prog 212 0 0 = true:=by kernel_rfl
theorem Aao:Fy Tryz.prog 212 1 900 = true:=by kernel_rfl
theorem SC:Fy Tryz.prog 212 2 901 = true:=by kernel_rfl
theorem SB:Fy Tryz.prog 212 3 902 = true:=by kernel_rfl
theorem Ady:HP Tryz.prog 74 [(0,1),(1,1),(2,1),(3,1),(4,1),(5,1),(6,1),(7,1),(8,1)] = true:=by kernel_rfl
theorem Adx:HP Tryz.prog 76 [(0,1),(1,1),(2,1),(3,1),(4,1),(5,1)] = true:=by kernel_rfl
theorem LE:HP Tryz.prog 79 [(0,1),(1,1)] = true:=by kernel_rfl
theorem VK:HP Tryz.prog 82 [(0,1),(1,1)] = true:=by kernel_rfl
theorem VJ:HP Tryz.prog 87 [(0,1),(1,1),(2,1)] = true:=by kernel_rfl
theorem Zd:HP Tryz.prog 125 [(0,1),(1,1),(2,1),(3,1)] = true:=by kernel_rfl
theorem Pw:HP Tryz.prog 128 [(0,1),(1,1),(2,1),(3,1)] = true:=by kernel_rfl
theorem Zc:HP Tryz.prog 187 [(0,2),(2,2),(4,1)] = true:=by kernel_rfl
theorem Acw:HP Tryz.prog 198 [(0,1),(1,1),(2,900)] = true:=by kernel_rfl
theorem Acv:HP Tryz.prog 212 [(0,900),(900,1),(901,1),(902,1)] = true:=by kernel_rfl
theorem Abe (x y:(Int × Int)) (w:Ae):(Op.equalIn 10000 79 (.agg #[(.int .i64 x.1),(.int .i64 x.2)]) (.agg #[(.int .i64 y.1),(.int .i64 y.2)])).run Tryz.prog w = .ok (MG x y) w:=by
 go_simp
 by_cases h0:x.1 = y.1 <;> by_cases h1:x.2 = y.2 <;> simp [MG,h0,h1]
theorem Aek:Opn Tryz.prog 9 Cx.rd (Ado Y4):=Ye Tryz.underlying9
end
end Go.Proofs.YtellehgihceicaaGreatDoor
