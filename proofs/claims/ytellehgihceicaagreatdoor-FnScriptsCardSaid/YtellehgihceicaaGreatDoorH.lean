/-
 THE TYPES of this seat, by program (gen.py).
-/
import Derived.Test.YtellehgihceicaaGreatDoorCore20
import Derived.Test.YtellehgihceicaaGreatDoorF
set_option linter.unusedVariables false
set_option linter.unusedSimpArgs false
set_option maxRecDepth 100000
set_option maxHeartbeats 1600000
namespace Go.Proofs.YtellehgihceicaaGreatDoor
open Go Go.RowKit
theorem J.{u} {A:Sort u} {a:A}:a=a:=rfl
abbrev A2(f:FuncId)(l:List Ac):=Calls Tryz.prog f l.toArray
noncomputable section
theorem B1:Tryz.prog.follows .mixedOrders=true:=by kernel_rfl
theorem A9:TF Tryz.prog 3 1 false (.int .i64 0):=⟨Tryz.sizeOf3,Tryz.isAgg3,Tryz.zeroValue3,by decide,by decide⟩
theorem Aec:TF Tryz.prog 4 1 false (.bool false):=⟨Tryz.sizeOf4,Tryz.isAgg4,Tryz.zeroValue4,by decide,by decide⟩
theorem Ajq:TF Tryz.prog 5 1 false (.int .u8 0):=⟨Tryz.sizeOf5,Tryz.isAgg5,Tryz.zeroValue5,by decide,by decide⟩
theorem MT:TF Tryz.prog 9 1 false (.string .empty):=⟨Tryz.sizeOf9,Tryz.isAgg9,Tryz.zeroValue9,by decide,by decide⟩
theorem Cs:TF Tryz.prog 26 1 false (.slice none 0 0):=⟨Tryz.sizeOf26,Tryz.isAgg26,Tryz.zeroValue26,by decide,by decide⟩
theorem Qi:TF Tryz.prog 31 1 false (.slice none 0 0):=⟨Tryz.sizeOf31,Tryz.isAgg31,Tryz.zeroValue31,by decide,by decide⟩
theorem FA:TF Tryz.prog 36 1 false (.slice none 0 0):=⟨Tryz.sizeOf36,Tryz.isAgg36,Tryz.zeroValue36,by decide,by decide⟩
theorem Qh:TF Tryz.prog 41 1 false (.slice none 0 0):=⟨Tryz.sizeOf41,Tryz.isAgg41,Tryz.zeroValue41,by decide,by decide⟩
theorem Aa1:TF Tryz.prog 46 1 false (.slice none 0 0):=⟨Tryz.sizeOf46,Tryz.isAgg46,Tryz.zeroValue46,by decide,by decide⟩
theorem Ai4:TF Tryz.prog 66 2 true (.agg #[(.pointer none),(.slice none 0 0)]):=⟨Tryz.sizeOf66,Tryz.isAgg66,Tryz.zeroValue66,by decide,by decide⟩
theorem Tx:TF Tryz.prog 72 1 false (.slice none 0 0):=⟨Tryz.sizeOf72,Tryz.isAgg72,Tryz.zeroValue72,by decide,by decide⟩
theorem Ai3:TF Tryz.prog 74 9 true (.agg #[(.slice none 0 0),(.slice none 0 0),(.int .i64 0),(.slice none 0 0),(.slice none 0 0),(.slice none 0 0),(.slice none 0 0),(.slice none 0 0),(.int .i64 0)]):=⟨Tryz.sizeOf74,Tryz.isAgg74,Tryz.zeroValue74,by decide,by decide⟩
theorem Ai2:TF Tryz.prog 76 6 true (.agg #[(.slice none 0 0),(.slice none 0 0),(.int .i64 0),(.slice none 0 0),(.slice none 0 0),(.slice none 0 0)]):=⟨Tryz.sizeOf76,Tryz.isAgg76,Tryz.zeroValue76,by decide,by decide⟩
theorem Bt:TF Tryz.prog 79 2 true (.agg #[(.int .i64 0),(.int .i64 0)]):=⟨Tryz.sizeOf79,Tryz.isAgg79,Tryz.zeroValue79,by decide,by decide⟩
theorem Hb:TF Tryz.prog 82 2 true (.agg #[(.int .i64 0),(.int .i64 0)]):=⟨Tryz.sizeOf82,Tryz.isAgg82,Tryz.zeroValue82,by decide,by decide⟩
theorem LR:TF Tryz.prog 87 3 true (.agg #[(.int .i64 0),(.int .i64 0),(.int .i64 0)]):=⟨Tryz.sizeOf87,Tryz.isAgg87,Tryz.zeroValue87,by decide,by decide⟩
theorem Aa0:TF Tryz.prog 89 1 false (.int .u64 0):=⟨Tryz.sizeOf89,Tryz.isAgg89,Tryz.zeroValue89,by decide,by decide⟩
theorem Af2:TF Tryz.prog 91 3 true (.agg #[(.slice none 0 0),(.int .i64 0),(.int .u64 0)]):=⟨Tryz.sizeOf91,Tryz.isAgg91,Tryz.zeroValue91,by decide,by decide⟩
theorem BJ:TF Tryz.prog 125 4 true (.agg #[(.int .i64 0),(.int .i64 0),(.int .i64 0),(.int .i64 0)]):=⟨Tryz.sizeOf125,Tryz.isAgg125,Tryz.zeroValue125,by decide,by decide⟩
theorem Bs:TF Tryz.prog 128 4 true (.agg #[(.slice none 0 0),(.slice none 0 0),(.int .i64 0),(.slice none 0 0)]):=⟨Tryz.sizeOf128,Tryz.isAgg128,Tryz.zeroValue128,by decide,by decide⟩
theorem Ym:TF Tryz.prog 184 1 false (.slice none 0 0):=⟨Tryz.sizeOf184,Tryz.isAgg184,Tryz.zeroValue184,by decide,by decide⟩
theorem C8:TF Tryz.prog 187 5 true (.agg #[(.int .i64 0),(.int .i64 0),(.int .i64 0),(.int .i64 0),(.int .i64 0)]):=⟨Tryz.sizeOf187,Tryz.isAgg187,Tryz.zeroValue187,by decide,by decide⟩
theorem Ahp:TF Tryz.prog 198 902 true (.agg Tryz.zeroCells198):=⟨Tryz.sizeOf198,Tryz.isAgg198,Tryz.zeroValue198,by decide,by decide⟩
theorem Aho:TF Tryz.prog 212 903 true (.agg Tryz.zeroCells212):=⟨Tryz.sizeOf212,Tryz.isAgg212,Tryz.zeroValue212,by decide,by decide⟩
def Abn(x:Int):List Ac:=[(.int .i64 x)]
def As:Ty Tryz.prog Int:={ Sh.flat Abn 1 0 (fun _=>rfl) (fun x=>Ones.all (vs:=Abn x) ⟨rfl,trivial⟩) with tid:=3,bts:=8,agg:=false,sz_pos:=by decide,bts_le:=by decide,info:=⟨_,_,Tryz.type3,rfl,rfl,rfl,rfl⟩,und:=⟨_,Tryz.underlying3,rfl⟩,one1:=by decide }
theorem Cl:Flat As Abn:=⟨fun h=>h,fun _ _=>⟨rfl,rfl⟩,fun h=>h.1⟩
def TG(x:Int):List Ac:=[(.int .u8 x)]
def H2:Ty Tryz.prog Int:={ Sh.flat TG 1 0 (fun _=>rfl) (fun x=>Ones.all (vs:=TG x) ⟨rfl,trivial⟩) with tid:=5,bts:=1,agg:=false,sz_pos:=by decide,bts_le:=by decide,info:=⟨_,_,Tryz.type5,rfl,rfl,rfl,rfl⟩,und:=⟨_,Tryz.underlying5,rfl⟩,one1:=by decide }
theorem RH:Flat H2 TG:=⟨fun h=>h,fun _ _=>⟨rfl,rfl⟩,fun h=>h.1⟩
def Abm(x:(List Ag)):List Ac:=[(.string (AL x))]
def BK:Ty Tryz.prog (List Ag):={ Sh.flat Abm 1 [] (fun _=>rfl) (fun x=>Ones.all (vs:=Abm x) ⟨rfl,trivial⟩) with tid:=9,bts:=16,agg:=false,sz_pos:=by decide,bts_le:=by decide,info:=⟨_,_,Tryz.type9,rfl,rfl,rfl,rfl⟩,und:=⟨_,Tryz.underlying9,rfl⟩,one1:=by decide }
theorem Gl:Flat BK Abm:=⟨fun h=>h,fun _ _=>⟨rfl,rfl⟩,fun h=>h.1⟩
def Za(x:(Int×Int)):List Ac:=[(.int .i64 x.1),(.int .i64 x.2)]
def At:Ty Tryz.prog (Int×Int):={ Sh.flat Za 2 (0,0) (fun _=>rfl) (fun x=>Ones.all (vs:=Za x) ⟨rfl,rfl,trivial⟩) with tid:=79,bts:=16,agg:=true,sz_pos:=by decide,bts_le:=by decide,info:=⟨_,_,Tryz.type79,rfl,rfl,rfl,rfl⟩,und:=⟨_,Tryz.underlying79,rfl⟩,one1:=by decide }
theorem CR:Flat At Za:=⟨fun h=>h,fun _ _=>⟨rfl,rfl⟩,fun h=>h.1⟩
def YZ(x:(Int×Int)):List Ac:=[(.int .i64 x.1),(.int .i64 x.2)]
def BN:Ty Tryz.prog (Int×Int):={ Sh.flat YZ 2 (0,0) (fun _=>rfl) (fun x=>Ones.all (vs:=YZ x) ⟨rfl,rfl,trivial⟩) with tid:=82,bts:=16,agg:=true,sz_pos:=by decide,bts_le:=by decide,info:=⟨_,_,Tryz.type82,rfl,rfl,rfl,rfl⟩,und:=⟨_,Tryz.underlying82,rfl⟩,one1:=by decide }
theorem Hz:Flat BN YZ:=⟨fun h=>h,fun _ _=>⟨rfl,rfl⟩,fun h=>h.1⟩
def Ct:Ty Tryz.prog (List Int):={ Sh.slice As with tid:=36,bts:=24,agg:=false,sz_pos:=by decide,bts_le:=by decide,info:=⟨_,_,Tryz.type36,rfl,rfl,rfl,rfl⟩,und:=⟨_,Tryz.underlying36,rfl⟩,one1:=by decide }
def YY(x:(Int×Int×Int)):List Ac:=[(.int .i64 x.1),(.int .i64 x.2.1),(.int .i64 x.2.2)]
def Cg:Ty Tryz.prog (Int×Int×Int):={ Sh.flat YY 3 (0,0,0) (fun _=>rfl) (fun x=>Ones.all (vs:=YY x) ⟨rfl,rfl,rfl,trivial⟩) with tid:=87,bts:=24,agg:=true,sz_pos:=by decide,bts_le:=by decide,info:=⟨_,_,Tryz.type87,rfl,rfl,rfl,rfl⟩,und:=⟨_,Tryz.underlying87,rfl⟩,one1:=by decide }
theorem Hy:Flat Cg YY:=⟨fun h=>h,fun _ _=>⟨rfl,rfl⟩,fun h=>h.1⟩
def Ai1:Ty Tryz.prog (List Int):={ Sh.slice H2 with tid:=46,bts:=24,agg:=false,sz_pos:=by decide,bts_le:=by decide,info:=⟨_,_,Tryz.type46,rfl,rfl,rfl,rfl⟩,und:=⟨_,Tryz.underlying46,rfl⟩,one1:=by decide }
def W4(x:(Int×Int×Int×Int)):List Ac:=[(.int .i64 x.1),(.int .i64 x.2.1),(.int .i64 x.2.2.1),(.int .i64 x.2.2.2)]
def A4:Ty Tryz.prog (Int×Int×Int×Int):={ Sh.flat W4 4 (0,0,0,0) (fun _=>rfl) (fun x=>Ones.all (vs:=W4 x) ⟨rfl,rfl,rfl,rfl,trivial⟩) with tid:=125,bts:=32,agg:=true,sz_pos:=by decide,bts_le:=by decide,info:=⟨_,_,Tryz.type125,rfl,rfl,rfl,rfl⟩,und:=⟨_,Tryz.underlying125,rfl⟩,one1:=by decide }
theorem C2:Flat A4 W4:=⟨fun h=>h,fun _ _=>⟨rfl,rfl⟩,fun h=>h.1⟩
def W3(x:Aki):List Ac:=[(.int .i64 x.1.1),(.int .i64 x.1.2),(.int .i64 x.2.1.1),(.int .i64 x.2.1.2),(.int .i64 x.2.2)]
def CF:Ty Tryz.prog Aki:={ Sh.flat W3 5 ((0,0),(0,0),0) (fun _=>rfl) (fun x=>Ones.all (vs:=W3 x) ⟨rfl,rfl,rfl,rfl,rfl,trivial⟩) with tid:=187,bts:=40,agg:=true,sz_pos:=by decide,bts_le:=by decide,info:=⟨_,_,Tryz.type187,rfl,rfl,rfl,rfl⟩,und:=⟨_,Tryz.underlying187,rfl⟩,one1:=by decide }
theorem SV:Flat CF W3:=⟨fun h=>h,fun _ _=>⟨rfl,rfl⟩,fun h=>h.1⟩
def B9:Sh (Akg×Akg×Int×Akg×Akh×Akj×(List Int)×(List Int)×Int):=(Sh.prod (Sh.slice At) (Sh.prod (Sh.slice At) (Sh.prod As.toSh (Sh.prod (Sh.slice BN) (Sh.prod (Sh.slice A4) (Sh.prod (Sh.slice Cg) (Sh.prod (Sh.slice As) (Sh.prod (Sh.slice As) As.toSh))))))))
theorem G5{base:Nat}{w:Af}{L:List Res}{F:Ap}{b:Nat}{x:(Akg×Akg×Int×Akg×Akh×Akj×(List Int)×(List Int)×Int)}(h:Sep base w (A6 B9 74 F b x::L)):∃(v0:Ac)(F0:Ap),∃(v1:Ac)(F1:Ap),∃(v3:Ac)(F3:Ap),∃(v4:Ac)(F4:Ap),∃(v5:Ac)(F5:Ap),∃(v6:Ac)(F6:Ap),∃(v7:Ac)(F7:Ap),Sep base w (Av b 74 [v0,v1,(.int .i64 x.2.2.1),v3,v4,v5,v6,v7,(.int .i64 x.2.2.2.2.2.2.2.2)]::Ab At F0 v0 x.1::Ab At F1 v1 x.2.1::Ab BN F3 v3 x.2.2.2.1::Ab A4 F4 v4 x.2.2.2.2.1::Ab Cg F5 v5 x.2.2.2.2.2.1::Ab As F6 v6 x.2.2.2.2.2.2.1::Ab As F7 v7 x.2.2.2.2.2.2.2.1::L):=by
 obtain ⟨cs,g0⟩:=T2 h
 unfold B9 at g0
 obtain ⟨a0,c0,Fa0,Fb0,hc0,hF0,g1⟩:=EL [Av b 74 cs] g0
 obtain ⟨v0,e0,g2⟩:=Jz [Av b 74 cs] g1
 obtain ⟨a1,c1,Fa1,Fb1,hc1,hF1,g3⟩:=EL [Av b 74 cs,Ab At Fa0 v0 x.1] g2
 obtain ⟨v1,e1,g4⟩:=Jz [Av b 74 cs,Ab At Fa0 v0 x.1] g3
 obtain ⟨a2,c2,Fa2,Fb2,hc2,hF2,g5⟩:=EL [Av b 74 cs,Ab At Fa0 v0 x.1,Ab At Fa1 v1 x.2.1] g4
 obtain ⟨e2,g6⟩:=Pp Cl [Av b 74 cs,Ab At Fa0 v0 x.1,Ab At Fa1 v1 x.2.1] g5
 obtain ⟨a3,c3,Fa3,Fb3,hc3,hF3,g7⟩:=EL [Av b 74 cs,Ab At Fa0 v0 x.1,Ab At Fa1 v1 x.2.1] g6
 obtain ⟨v3,e3,g8⟩:=Jz [Av b 74 cs,Ab At Fa0 v0 x.1,Ab At Fa1 v1 x.2.1] g7
 obtain ⟨a4,c4,Fa4,Fb4,hc4,hF4,g9⟩:=EL [Av b 74 cs,Ab At Fa0 v0 x.1,Ab At Fa1 v1 x.2.1,Ab BN Fa3 v3 x.2.2.2.1] g8
 obtain ⟨v4,e4,g10⟩:=Jz [Av b 74 cs,Ab At Fa0 v0 x.1,Ab At Fa1 v1 x.2.1,Ab BN Fa3 v3 x.2.2.2.1] g9
 obtain ⟨a5,c5,Fa5,Fb5,hc5,hF5,g11⟩:=EL [Av b 74 cs,Ab At Fa0 v0 x.1,Ab At Fa1 v1 x.2.1,Ab BN Fa3 v3 x.2.2.2.1,Ab A4 Fa4 v4 x.2.2.2.2.1] g10
 obtain ⟨v5,e5,g12⟩:=Jz [Av b 74 cs,Ab At Fa0 v0 x.1,Ab At Fa1 v1 x.2.1,Ab BN Fa3 v3 x.2.2.2.1,Ab A4 Fa4 v4 x.2.2.2.2.1] g11
 obtain ⟨a6,c6,Fa6,Fb6,hc6,hF6,g13⟩:=EL [Av b 74 cs,Ab At Fa0 v0 x.1,Ab At Fa1 v1 x.2.1,Ab BN Fa3 v3 x.2.2.2.1,Ab A4 Fa4 v4 x.2.2.2.2.1,Ab Cg Fa5 v5 x.2.2.2.2.2.1] g12
 obtain ⟨v6,e6,g14⟩:=Jz [Av b 74 cs,Ab At Fa0 v0 x.1,Ab At Fa1 v1 x.2.1,Ab BN Fa3 v3 x.2.2.2.1,Ab A4 Fa4 v4 x.2.2.2.2.1,Ab Cg Fa5 v5 x.2.2.2.2.2.1] g13
 obtain ⟨a7,c7,Fa7,Fb7,hc7,hF7,g15⟩:=EL [Av b 74 cs,Ab At Fa0 v0 x.1,Ab At Fa1 v1 x.2.1,Ab BN Fa3 v3 x.2.2.2.1,Ab A4 Fa4 v4 x.2.2.2.2.1,Ab Cg Fa5 v5 x.2.2.2.2.2.1,Ab As Fa6 v6 x.2.2.2.2.2.2.1] g14
 obtain ⟨v7,e7,g16⟩:=Jz [Av b 74 cs,Ab At Fa0 v0 x.1,Ab At Fa1 v1 x.2.1,Ab BN Fa3 v3 x.2.2.2.1,Ab A4 Fa4 v4 x.2.2.2.2.1,Ab Cg Fa5 v5 x.2.2.2.2.2.1,Ab As Fa6 v6 x.2.2.2.2.2.2.1] g15
 obtain ⟨e8,g17⟩:=Pp Cl [Av b 74 cs,Ab At Fa0 v0 x.1,Ab At Fa1 v1 x.2.1,Ab BN Fa3 v3 x.2.2.2.1,Ab A4 Fa4 v4 x.2.2.2.2.1,Ab Cg Fa5 v5 x.2.2.2.2.2.1,Ab As Fa6 v6 x.2.2.2.2.2.2.1,Ab As Fa7 v7 x.2.2.2.2.2.2.2.1] g16
 subst e0 e1 e2 e3 e4 e5 e6 e7 e8 hc7 hc6 hc5 hc4 hc3 hc2 hc1 hc0
 refine ⟨v0,Fa0,v1,Fa1,v3,Fa3,v4,Fa4,v5,Fa5,v6,Fa6,v7,Fa7,?_⟩
 exact g17
theorem DT{base:Nat}{w:Af}{L:List Res}{b:Nat}{v0:Ac}{F0:Ap}{v1:Ac}{F1:Ap}{v3:Ac}{F3:Ap}{v4:Ac}{F4:Ap}{v5:Ac}{F5:Ap}{v6:Ac}{F6:Ap}{v7:Ac}{F7:Ap}{y0:Akg}{y1:Akg}{y2:Int}{y3:Akg}{y4:Akh}{y5:Akj}{y6:(List Int)}{y7:(List Int)}{y8:Int}(h:Sep base w (Av b 74 [v0,v1,(.int .i64 y2),v3,v4,v5,v6,v7,(.int .i64 y8)]::Ab At F0 v0 y0::Ab At F1 v1 y1::Ab BN F3 v3 y3::Ab A4 F4 v4 y4::Ab Cg F5 v5 y5::Ab As F6 v6 y6::Ab As F7 v7 y7::L)):Sep base w (A6 B9 74 ([F0,F1,F3,F4,F5,F6,F7].flatten) b (y0,y1,y2,y3,y4,y5,y6,y7,y8)::L):=by
 replace h:=Oi Cl y8 [Av b 74 _,Ab At F0 v0 y0,Ab At F1 v1 y1,Ab BN F3 v3 y3,Ab A4 F4 v4 y4,Ab Cg F5 v5 y5,Ab As F6 v6 y6,Ab As F7 v7 y7] h
 replace h:=Ip [Av b 74 _,Ab At F0 v0 y0,Ab At F1 v1 y1,Ab BN F3 v3 y3,Ab A4 F4 v4 y4,Ab Cg F5 v5 y5,Ab As F6 v6 y6] h
 replace h:=Ef [Av b 74 _,Ab At F0 v0 y0,Ab At F1 v1 y1,Ab BN F3 v3 y3,Ab A4 F4 v4 y4,Ab Cg F5 v5 y5,Ab As F6 v6 y6] h
 replace h:=Ip [Av b 74 _,Ab At F0 v0 y0,Ab At F1 v1 y1,Ab BN F3 v3 y3,Ab A4 F4 v4 y4,Ab Cg F5 v5 y5] h
 replace h:=Ef [Av b 74 _,Ab At F0 v0 y0,Ab At F1 v1 y1,Ab BN F3 v3 y3,Ab A4 F4 v4 y4,Ab Cg F5 v5 y5] h
 replace h:=Ip [Av b 74 _,Ab At F0 v0 y0,Ab At F1 v1 y1,Ab BN F3 v3 y3,Ab A4 F4 v4 y4] h
 replace h:=Ef [Av b 74 _,Ab At F0 v0 y0,Ab At F1 v1 y1,Ab BN F3 v3 y3,Ab A4 F4 v4 y4] h
 replace h:=Ip [Av b 74 _,Ab At F0 v0 y0,Ab At F1 v1 y1,Ab BN F3 v3 y3] h
 replace h:=Ef [Av b 74 _,Ab At F0 v0 y0,Ab At F1 v1 y1,Ab BN F3 v3 y3] h
 replace h:=Ip [Av b 74 _,Ab At F0 v0 y0,Ab At F1 v1 y1] h
 replace h:=Ef [Av b 74 _,Ab At F0 v0 y0,Ab At F1 v1 y1] h
 replace h:=Oi Cl y2 [Av b 74 _,Ab At F0 v0 y0,Ab At F1 v1 y1] h
 replace h:=Ef [Av b 74 _,Ab At F0 v0 y0,Ab At F1 v1 y1] h
 replace h:=Ip [Av b 74 _,Ab At F0 v0 y0] h
 replace h:=Ef [Av b 74 _,Ab At F0 v0 y0] h
 replace h:=Ip [Av b 74 _] h
 replace h:=Ef [Av b 74 _] h
 exact RI h (by simp)
def AX:Sh (Akg×Akg×Int×Akg×Akh×Akj):=(Sh.prod (Sh.slice At) (Sh.prod (Sh.slice At) (Sh.prod As.toSh (Sh.prod (Sh.slice BN) (Sh.prod (Sh.slice A4) (Sh.slice Cg))))))
theorem HM{base:Nat}{w:Af}{L:List Res}{F:Ap}{b:Nat}{x:(Akg×Akg×Int×Akg×Akh×Akj)}(h:Sep base w (A6 AX 76 F b x::L)):∃(v0:Ac)(F0:Ap),∃(v1:Ac)(F1:Ap),∃(v3:Ac)(F3:Ap),∃(v4:Ac)(F4:Ap),∃(v5:Ac)(F5:Ap),Sep base w (Av b 76 [v0,v1,(.int .i64 x.2.2.1),v3,v4,v5]::Ab At F0 v0 x.1::Ab At F1 v1 x.2.1::Ab BN F3 v3 x.2.2.2.1::Ab A4 F4 v4 x.2.2.2.2.1::Ab Cg F5 v5 x.2.2.2.2.2::L):=by
 obtain ⟨cs,g0⟩:=T2 h
 unfold AX at g0
 obtain ⟨a0,c0,Fa0,Fb0,hc0,hF0,g1⟩:=EL [Av b 76 cs] g0
 obtain ⟨v0,e0,g2⟩:=Jz [Av b 76 cs] g1
 obtain ⟨a1,c1,Fa1,Fb1,hc1,hF1,g3⟩:=EL [Av b 76 cs,Ab At Fa0 v0 x.1] g2
 obtain ⟨v1,e1,g4⟩:=Jz [Av b 76 cs,Ab At Fa0 v0 x.1] g3
 obtain ⟨a2,c2,Fa2,Fb2,hc2,hF2,g5⟩:=EL [Av b 76 cs,Ab At Fa0 v0 x.1,Ab At Fa1 v1 x.2.1] g4
 obtain ⟨e2,g6⟩:=Pp Cl [Av b 76 cs,Ab At Fa0 v0 x.1,Ab At Fa1 v1 x.2.1] g5
 obtain ⟨a3,c3,Fa3,Fb3,hc3,hF3,g7⟩:=EL [Av b 76 cs,Ab At Fa0 v0 x.1,Ab At Fa1 v1 x.2.1] g6
 obtain ⟨v3,e3,g8⟩:=Jz [Av b 76 cs,Ab At Fa0 v0 x.1,Ab At Fa1 v1 x.2.1] g7
 obtain ⟨a4,c4,Fa4,Fb4,hc4,hF4,g9⟩:=EL [Av b 76 cs,Ab At Fa0 v0 x.1,Ab At Fa1 v1 x.2.1,Ab BN Fa3 v3 x.2.2.2.1] g8
 obtain ⟨v4,e4,g10⟩:=Jz [Av b 76 cs,Ab At Fa0 v0 x.1,Ab At Fa1 v1 x.2.1,Ab BN Fa3 v3 x.2.2.2.1] g9
 obtain ⟨v5,e5,g11⟩:=Jz [Av b 76 cs,Ab At Fa0 v0 x.1,Ab At Fa1 v1 x.2.1,Ab BN Fa3 v3 x.2.2.2.1,Ab A4 Fa4 v4 x.2.2.2.2.1] g10
 subst e0 e1 e2 e3 e4 e5 hc4 hc3 hc2 hc1 hc0
 refine ⟨v0,Fa0,v1,Fa1,v3,Fa3,v4,Fa4,v5,Fb4,?_⟩
 exact g11
theorem DF{base:Nat}{w:Af}{L:List Res}{b:Nat}{v0:Ac}{F0:Ap}{v1:Ac}{F1:Ap}{v3:Ac}{F3:Ap}{v4:Ac}{F4:Ap}{v5:Ac}{F5:Ap}{y0:Akg}{y1:Akg}{y2:Int}{y3:Akg}{y4:Akh}{y5:Akj}(h:Sep base w (Av b 76 [v0,v1,(.int .i64 y2),v3,v4,v5]::Ab At F0 v0 y0::Ab At F1 v1 y1::Ab BN F3 v3 y3::Ab A4 F4 v4 y4::Ab Cg F5 v5 y5::L)):Sep base w (A6 AX 76 ([F0,F1,F3,F4,F5].flatten) b (y0,y1,y2,y3,y4,y5)::L):=by
 replace h:=Ip [Av b 76 _,Ab At F0 v0 y0,Ab At F1 v1 y1,Ab BN F3 v3 y3,Ab A4 F4 v4 y4] h
 replace h:=Ip [Av b 76 _,Ab At F0 v0 y0,Ab At F1 v1 y1,Ab BN F3 v3 y3] h
 replace h:=Ef [Av b 76 _,Ab At F0 v0 y0,Ab At F1 v1 y1,Ab BN F3 v3 y3] h
 replace h:=Ip [Av b 76 _,Ab At F0 v0 y0,Ab At F1 v1 y1] h
 replace h:=Ef [Av b 76 _,Ab At F0 v0 y0,Ab At F1 v1 y1] h
 replace h:=Oi Cl y2 [Av b 76 _,Ab At F0 v0 y0,Ab At F1 v1 y1] h
 replace h:=Ef [Av b 76 _,Ab At F0 v0 y0,Ab At F1 v1 y1] h
 replace h:=Ip [Av b 76 _,Ab At F0 v0 y0] h
 replace h:=Ef [Av b 76 _,Ab At F0 v0 y0] h
 replace h:=Ip [Av b 76 _] h
 replace h:=Ef [Av b 76 _] h
 exact RI h (by simp)
def Cp:Sh ((List Aki)×Int×(List Int)):=(Sh.prod (Sh.slice CF) (Sh.prod As.toSh (Sh.arr iv 0 900 (fun _=>rfl))))
theorem PF{base:Nat}{w:Af}{L:List Res}{F:Ap}{b:Nat}{x:((List Aki)×Int×(List Int))}(h:Sep base w (A6 Cp 198 F b x::L)):∃(v0:Ac)(F0:Ap),List.length x.2.2=900∧Sep base w (Av b 198 ([v0,(.int .i64 x.2.1)]++((Ok x.2.2)++[]))::Ab CF F0 v0 x.1::L):=by
 obtain ⟨cs,g0⟩:=T2 h
 unfold Cp at g0
 obtain ⟨a0,c0,Fa0,Fb0,hc0,hF0,g1⟩:=EL [Av b 198 cs] g0
 obtain ⟨v0,e0,g2⟩:=Jz [Av b 198 cs] g1
 obtain ⟨a1,c1,Fa1,Fb1,hc1,hF1,g3⟩:=EL [Av b 198 cs,Ab CF Fa0 v0 x.1] g2
 obtain ⟨e1,g4⟩:=Pp Cl [Av b 198 cs,Ab CF Fa0 v0 x.1] g3
 obtain ⟨-,e2,hn2,g5⟩:=YC [Av b 198 cs,Ab CF Fa0 v0 x.1] g4
 subst e0 e1 e2 hc1 hc0
 refine ⟨v0,Fa0,hn2,?_⟩
 rw [List.append_nil]
 exact g5
theorem Jv{base:Nat}{w:Af}{L:List Res}{b:Nat}{v0:Ac}{F0:Ap}{y0:(List Aki)}{y1:Int}{y2:(List Int)}(hn2:List.length y2=900)(h:Sep base w (Av b 198 ([v0,(.int .i64 y1)]++((Ok y2)++[]))::Ab CF F0 v0 y0::L)):Sep base w (A6 Cp 198 ([F0].flatten) b (y0,y1,y2)::L):=by
 rw [List.append_nil] at h
 replace h:=X3 (f:=iv) (z:=0) (h1:=fun _=>rfl) y2 hn2 [Av b 198 _,Ab CF F0 v0 y0] h
 replace h:=Oi Cl y1 [Av b 198 _,Ab CF F0 v0 y0] h
 replace h:=Ef [Av b 198 _,Ab CF F0 v0 y0] h
 replace h:=Ip [Av b 198 _] h
 replace h:=Ef [Av b 198 _] h
 exact RI h (by simp)
def CQ:Sh Akk:=(Sh.prod (Sh.arr Value.bool false 900 (fun _=>rfl)) (Sh.prod As.toSh (Sh.prod (Sh.slicen As) As.toSh)))
theorem PE{base:Nat}{w:Af}{L:List Res}{F:Ap}{b:Nat}{x:Akk}(h:Sep base w (A6 CQ 212 F b x::L)):∃(v2:Ac)(F2:Ap),List.length x.1=900∧(x.2.2.1=[]→v2=.slice none 0 0)∧Sep base w (Av b 212 ((JX x.1)++[(.int .i64 x.2.1),v2,(.int .i64 x.2.2.2)])::Ab As F2 v2 x.2.2.1::L):=by
 obtain ⟨cs,g0⟩:=T2 h
 unfold CQ at g0
 obtain ⟨a0,c0,Fa0,Fb0,hc0,hF0,g1⟩:=EL [Av b 212 cs] g0
 obtain ⟨-,e0,hn0,g2⟩:=YC [Av b 212 cs] g1
 obtain ⟨a1,c1,Fa1,Fb1,hc1,hF1,g3⟩:=EL [Av b 212 cs] g2
 obtain ⟨e1,g4⟩:=Pp Cl [Av b 212 cs] g3
 obtain ⟨a2,c2,Fa2,Fb2,hc2,hF2,g5⟩:=EL [Av b 212 cs] g4
 obtain ⟨v2,e2,hn2,g6⟩:=Agx [Av b 212 cs] g5
 obtain ⟨e3,g7⟩:=Pp Cl [Av b 212 cs,Ab As Fa2 v2 x.2.2.1] g6
 subst e0 e1 e2 e3 hc2 hc1 hc0
 refine ⟨v2,Fa2,hn0,hn2,?_⟩
 exact g7
theorem Lo{base:Nat}{w:Af}{L:List Res}{b:Nat}{v2:Ac}{F2:Ap}{y0:(List Bool)}{y1:Int}{y2:(List Int)}{y3:Int}(hn0:List.length y0=900)(hn2:(y2=[]→v2=.slice none 0 0))(h:Sep base w (Av b 212 ((JX y0)++[(.int .i64 y1),v2,(.int .i64 y3)])::Ab As F2 v2 y2::L)):Sep base w (A6 CQ 212 ([F2].flatten) b (y0,y1,y2,y3)::L):=by
 replace h:=Oi Cl y3 [Av b 212 _,Ab As F2 v2 y2] h
 replace h:=Afm hn2 [Av b 212 _] h
 replace h:=Ef [Av b 212 _] h
 replace h:=Oi Cl y1 [Av b 212 _] h
 replace h:=Ef [Av b 212 _] h
 replace h:=X3 (f:=Value.bool) (z:=false) (h1:=fun _=>rfl) y0 hn0 [Av b 212 _] h
 replace h:=Ef [Av b 212 _] h
 exact RI h (by simp)
theorem J4:Fo Tryz.prog 74 0 0=true:=by kernel_rfl
theorem W2:Fo Tryz.prog 74 1 1=true:=by kernel_rfl
theorem W1:Fo Tryz.prog 74 2 2=true:=by kernel_rfl
theorem TD:Fo Tryz.prog 74 3 3=true:=by kernel_rfl
theorem W0:Fo Tryz.prog 74 4 4=true:=by kernel_rfl
theorem TC:Fo Tryz.prog 74 5 5=true:=by kernel_rfl
theorem Wz:Fo Tryz.prog 74 6 6=true:=by kernel_rfl
theorem Wy:Fo Tryz.prog 74 7 7=true:=by kernel_rfl
theorem Agz:Fo Tryz.prog 74 8 8=true:=by kernel_rfl
theorem Io:Fo Tryz.prog 76 0 0=true:=by kernel_rfl
theorem TA:Fo Tryz.prog 76 1 1=true:=by kernel_rfl
theorem T9:Fo Tryz.prog 76 2 2=true:=by kernel_rfl
theorem T8:Fo Tryz.prog 76 3 3=true:=by kernel_rfl
theorem Wx:Fo Tryz.prog 76 4 4=true:=by kernel_rfl
theorem T7:Fo Tryz.prog 76 5 5=true:=by kernel_rfl
theorem CY:Fo Tryz.prog 79 0 0=true:=by kernel_rfl
theorem CX:Fo Tryz.prog 79 1 1=true:=by kernel_rfl
theorem LI:Fo Tryz.prog 82 0 0=true:=by kernel_rfl
theorem Pw:Fo Tryz.prog 82 1 1=true:=by kernel_rfl
theorem Pv:Fo Tryz.prog 87 0 0=true:=by kernel_rfl
theorem Pu:Fo Tryz.prog 87 1 1=true:=by kernel_rfl
theorem Pt:Fo Tryz.prog 87 2 2=true:=by kernel_rfl
theorem Ww:Fo Tryz.prog 91 0 0=true:=by kernel_rfl
theorem Rk:Fo Tryz.prog 91 1 1=true:=by kernel_rfl
theorem Wv:Fo Tryz.prog 91 2 2=true:=by kernel_rfl
theorem KK:Fo Tryz.prog 125 0 0=true:=by kernel_rfl
theorem IW:Fo Tryz.prog 125 1 1=true:=by kernel_rfl
theorem Ee:Fo Tryz.prog 125 2 2=true:=by kernel_rfl
theorem H8:Fo Tryz.prog 125 3 3=true:=by kernel_rfl
theorem EX:Fo Tryz.prog 128 0 0=true:=by kernel_rfl
theorem Mf:Fo Tryz.prog 128 1 1=true:=by kernel_rfl
theorem Me:Fo Tryz.prog 128 2 2=true:=by kernel_rfl
theorem Hf:Fo Tryz.prog 128 3 3=true:=by kernel_rfl
theorem Gm:Fo Tryz.prog 187 0 0=true:=by kernel_rfl
theorem He:Fo Tryz.prog 187 1 2=true:=by kernel_rfl
theorem IV:Fo Tryz.prog 187 2 4=true:=by kernel_rfl
theorem UB:Fo Tryz.prog 198 0 0=true:=by kernel_rfl
theorem Afi:Fo Tryz.prog 198 1 1=true:=by kernel_rfl
theorem UA:Fo Tryz.prog 198 2 2=true:=by kernel_rfl
theorem YX:Fo Tryz.prog 212 0 0=true:=by kernel_rfl
theorem Afh:Fo Tryz.prog 212 1 900=true:=by kernel_rfl
theorem U9:Fo Tryz.prog 212 2 901=true:=by kernel_rfl
theorem U8:Fo Tryz.prog 212 3 902=true:=by kernel_rfl
theorem Ai8:Ik Tryz.prog 74 [(0,1),(1,1),(2,1),(3,1),(4,1),(5,1),(6,1),(7,1),(8,1)]=true:=by kernel_rfl
theorem Ai7:Ik Tryz.prog 76 [(0,1),(1,1),(2,1),(3,1),(4,1),(5,1)]=true:=by kernel_rfl
theorem MQ:Ik Tryz.prog 79 [(0,1),(1,1)]=true:=by kernel_rfl
theorem XX:Ik Tryz.prog 82 [(0,1),(1,1)]=true:=by kernel_rfl
theorem XW:Ik Tryz.prog 87 [(0,1),(1,1),(2,1)]=true:=by kernel_rfl
theorem Af8:Ik Tryz.prog 91 [(0,1),(1,1),(2,1)]=true:=by kernel_rfl
theorem Ac3:Ik Tryz.prog 125 [(0,1),(1,1),(2,1),(3,1)]=true:=by kernel_rfl
theorem Rc:Ik Tryz.prog 128 [(0,1),(1,1),(2,1),(3,1)]=true:=by kernel_rfl
theorem Ac2:Ik Tryz.prog 187 [(0,2),(2,2),(4,1)]=true:=by kernel_rfl
theorem Ah1:Ik Tryz.prog 198 [(0,1),(1,1),(2,900)]=true:=by kernel_rfl
theorem Ah0:Ik Tryz.prog 212 [(0,900),(900,1),(901,1),(902,1)]=true:=by kernel_rfl
theorem Abl(x y:(Int×Int))(w:Af):(Op.equalIn 10000 79 (.agg #[(.int .i64 x.1),(.int .i64 x.2)]) (.agg #[(.int .i64 y.1),(.int .i64 y.2)])).run Tryz.prog w=.ok (Lv x y) w:=by
 go_simp
 by_cases h0:x.1=y.1 <;> by_cases h1:x.2=y.2 <;> simp [Lv,h0,h1]
theorem Aje(x y:(Int×Int))(w:Af):(Op.equalIn 10000 82 (.agg #[(.int .i64 x.1),(.int .i64 x.2)]) (.agg #[(.int .i64 y.1),(.int .i64 y.2)])).run Tryz.prog w=.ok (MG x y) w:=by
 go_simp
 by_cases h0:x.1=y.1 <;> by_cases h1:x.2=y.2 <;> simp [MG,h0,h1]
theorem Ajd(x y:(Int×Int×Int))(w:Af):(Op.equalIn 10000 87 (.agg #[(.int .i64 x.1),(.int .i64 x.2.1),(.int .i64 x.2.2)]) (.agg #[(.int .i64 y.1),(.int .i64 y.2.1),(.int .i64 y.2.2)])).run Tryz.prog w=.ok (MF x y) w:=by
 go_simp
 by_cases h0:x.1=y.1 <;> by_cases h1:x.2.1=y.2.1 <;> by_cases h2:x.2.2=y.2.2 <;> simp [MF,h0,h1,h2]
theorem Ag3:Tryz.prog.cellsOf 5=1:=by kernel_rfl
theorem Ajs:Opn Tryz.prog 5 H2.rd Wl:=Ah2 Tryz.underlying5
theorem Af9:Opn Tryz.prog 46 Ai1.rd (Ab4 Wl):=Ac9 Tryz.underlying46 Ag3 Ajs
end
end Go.Proofs.YtellehgihceicaaGreatDoor
