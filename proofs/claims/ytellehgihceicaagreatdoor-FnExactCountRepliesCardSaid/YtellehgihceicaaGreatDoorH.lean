/-
 THE TYPES of this seat, by program (gen.py).
-/
import Derived.Test.YtellehgihceicaaGreatDoorCore20
import Derived.Test.YtellehgihceicaaGreatDoorF
set_option linter.unusedVariables false
set_option linter.unusedSimpArgs false
set_option maxRecDepth 100000
set_option maxHeartbeats 1600000
namespace Go.Proofs.YtellehgihceicaaGreatDoor
open Go Go.RowKit
abbrev A1 (f:FuncId) (l:List Ac):=Calls Tryz.prog f l.toArray
noncomputable section
theorem B3:Tryz.prog.follows .mixedOrders = true:=by kernel_rfl
theorem A4:TF Tryz.prog 3 1 false (.int .i64 0):=⟨Tryz.sizeOf3,Tryz.isAgg3,Tryz.zeroValue3,by decide,by decide⟩
theorem Zv:TF Tryz.prog 4 1 false (.bool false):=⟨Tryz.sizeOf4,Tryz.isAgg4,Tryz.zeroValue4,by decide,by decide⟩
theorem MY:TF Tryz.prog 9 1 false (.string .empty):=⟨Tryz.sizeOf9,Tryz.isAgg9,Tryz.zeroValue9,by decide,by decide⟩
theorem Cm:TF Tryz.prog 26 1 false (.slice none 0 0):=⟨Tryz.sizeOf26,Tryz.isAgg26,Tryz.zeroValue26,by decide,by decide⟩
theorem Rp:TF Tryz.prog 31 1 false (.slice none 0 0):=⟨Tryz.sizeOf31,Tryz.isAgg31,Tryz.zeroValue31,by decide,by decide⟩
theorem E2:TF Tryz.prog 36 1 false (.slice none 0 0):=⟨Tryz.sizeOf36,Tryz.isAgg36,Tryz.zeroValue36,by decide,by decide⟩
theorem Ro:TF Tryz.prog 41 1 false (.slice none 0 0):=⟨Tryz.sizeOf41,Tryz.isAgg41,Tryz.zeroValue41,by decide,by decide⟩
theorem Rn:TF Tryz.prog 72 1 false (.slice none 0 0):=⟨Tryz.sizeOf72,Tryz.isAgg72,Tryz.zeroValue72,by decide,by decide⟩
theorem Ac8:TF Tryz.prog 74 9 true (.agg #[(.slice none 0 0),(.slice none 0 0),(.int .i64 0),(.slice none 0 0),(.slice none 0 0),(.slice none 0 0),(.slice none 0 0),(.slice none 0 0),(.int .i64 0)]):=⟨Tryz.sizeOf74,Tryz.isAgg74,Tryz.zeroValue74,by decide,by decide⟩
theorem Ac7:TF Tryz.prog 76 6 true (.agg #[(.slice none 0 0),(.slice none 0 0),(.int .i64 0),(.slice none 0 0),(.slice none 0 0),(.slice none 0 0)]):=⟨Tryz.sizeOf76,Tryz.isAgg76,Tryz.zeroValue76,by decide,by decide⟩
theorem Br:TF Tryz.prog 79 2 true (.agg #[(.int .i64 0),(.int .i64 0)]):=⟨Tryz.sizeOf79,Tryz.isAgg79,Tryz.zeroValue79,by decide,by decide⟩
theorem GM:TF Tryz.prog 82 2 true (.agg #[(.int .i64 0),(.int .i64 0)]):=⟨Tryz.sizeOf82,Tryz.isAgg82,Tryz.zeroValue82,by decide,by decide⟩
theorem L2:TF Tryz.prog 87 3 true (.agg #[(.int .i64 0),(.int .i64 0),(.int .i64 0)]):=⟨Tryz.sizeOf87,Tryz.isAgg87,Tryz.zeroValue87,by decide,by decide⟩
theorem BC:TF Tryz.prog 125 4 true (.agg #[(.int .i64 0),(.int .i64 0),(.int .i64 0),(.int .i64 0)]):=⟨Tryz.sizeOf125,Tryz.isAgg125,Tryz.zeroValue125,by decide,by decide⟩
theorem Bo:TF Tryz.prog 128 4 true (.agg #[(.slice none 0 0),(.slice none 0 0),(.int .i64 0),(.slice none 0 0)]):=⟨Tryz.sizeOf128,Tryz.isAgg128,Tryz.zeroValue128,by decide,by decide⟩
theorem VG:TF Tryz.prog 184 1 false (.slice none 0 0):=⟨Tryz.sizeOf184,Tryz.isAgg184,Tryz.zeroValue184,by decide,by decide⟩
theorem Cy:TF Tryz.prog 187 5 true (.agg #[(.int .i64 0),(.int .i64 0),(.int .i64 0),(.int .i64 0),(.int .i64 0)]):=⟨Tryz.sizeOf187,Tryz.isAgg187,Tryz.zeroValue187,by decide,by decide⟩
theorem Abw:TF Tryz.prog 198 902 true (.agg Tryz.zeroCells198):=⟨Tryz.sizeOf198,Tryz.isAgg198,Tryz.zeroValue198,by decide,by decide⟩
theorem Abv:TF Tryz.prog 212 903 true (.agg Tryz.zeroCells212):=⟨Tryz.sizeOf212,Tryz.isAgg212,Tryz.zeroValue212,by decide,by decide⟩
def XX (x:Int):List Ac:=[(.int .i64 x)]
def Ar:Ty Tryz.prog Int:={ Sh.flat XX 1 0 (fun _=>rfl) (fun x=>Ones.all (vs:=XX x) ⟨rfl,trivial⟩) with tid:=3,bts:=8,agg:=false,sz_pos:=by decide,bts_le:=by decide,info:=⟨_,_,Tryz.type3,rfl,rfl,rfl,rfl⟩,und:=⟨_,Tryz.underlying3,rfl⟩,one1:=by decide }
theorem Co:Flat Ar XX:=⟨fun h=>h,fun _ _=>⟨rfl,rfl⟩,fun h=>h.1⟩
def XW (x:Int):List Ac:=[(.int .u8 x)]
def Adt:Ty Tryz.prog Int:={ Sh.flat XW 1 0 (fun _=>rfl) (fun x=>Ones.all (vs:=XW x) ⟨rfl,trivial⟩) with tid:=5,bts:=1,agg:=false,sz_pos:=by decide,bts_le:=by decide,info:=⟨_,_,Tryz.type5,rfl,rfl,rfl,rfl⟩,und:=⟨_,Tryz.underlying5,rfl⟩,one1:=by decide }
theorem Sr:Flat Adt XW:=⟨fun h=>h,fun _ _=>⟨rfl,rfl⟩,fun h=>h.1⟩
def V6 (x:(List Aj)):List Ac:=[(.string (B6 x))]
def Cx:Ty Tryz.prog (List Aj):={ Sh.flat V6 1 [] (fun _=>rfl) (fun x=>Ones.all (vs:=V6 x) ⟨rfl,trivial⟩) with tid:=9,bts:=16,agg:=false,sz_pos:=by decide,bts_le:=by decide,info:=⟨_,_,Tryz.type9,rfl,rfl,rfl,rfl⟩,und:=⟨_,Tryz.underlying9,rfl⟩,one1:=by decide }
theorem I6:Flat Cx V6:=⟨fun h=>h,fun _ _=>⟨rfl,rfl⟩,fun h=>h.1⟩
def W1 (x:(Int × Int)):List Ac:=[(.int .i64 x.1),(.int .i64 x.2)]
def Aq:Ty Tryz.prog (Int × Int):={ Sh.flat W1 2 (0,0) (fun _=>rfl) (fun x=>Ones.all (vs:=W1 x) ⟨rfl,rfl,trivial⟩) with tid:=79,bts:=16,agg:=true,sz_pos:=by decide,bts_le:=by decide,info:=⟨_,_,Tryz.type79,rfl,rfl,rfl,rfl⟩,und:=⟨_,Tryz.underlying79,rfl⟩,one1:=by decide }
theorem CC:Flat Aq W1:=⟨fun h=>h,fun _ _=>⟨rfl,rfl⟩,fun h=>h.1⟩
def W0 (x:(Int × Int)):List Ac:=[(.int .i64 x.1),(.int .i64 x.2)]
def BM:Ty Tryz.prog (Int × Int):={ Sh.flat W0 2 (0,0) (fun _=>rfl) (fun x=>Ones.all (vs:=W0 x) ⟨rfl,rfl,trivial⟩) with tid:=82,bts:=16,agg:=true,sz_pos:=by decide,bts_le:=by decide,info:=⟨_,_,Tryz.type82,rfl,rfl,rfl,rfl⟩,und:=⟨_,Tryz.underlying82,rfl⟩,one1:=by decide }
theorem GI:Flat BM W0:=⟨fun h=>h,fun _ _=>⟨rfl,rfl⟩,fun h=>h.1⟩
def Ci:Ty Tryz.prog (List Int):={ Sh.slice Ar with tid:=36,bts:=24,agg:=false,sz_pos:=by decide,bts_le:=by decide,info:=⟨_,_,Tryz.type36,rfl,rfl,rfl,rfl⟩,und:=⟨_,Tryz.underlying36,rfl⟩,one1:=by decide }
def Wz (x:(Int × Int × Int)):List Ac:=[(.int .i64 x.1),(.int .i64 x.2.1),(.int .i64 x.2.2)]
def Ch:Ty Tryz.prog (Int × Int × Int):={ Sh.flat Wz 3 (0,0,0) (fun _=>rfl) (fun x=>Ones.all (vs:=Wz x) ⟨rfl,rfl,rfl,trivial⟩) with tid:=87,bts:=24,agg:=true,sz_pos:=by decide,bts_le:=by decide,info:=⟨_,_,Tryz.type87,rfl,rfl,rfl,rfl⟩,und:=⟨_,Tryz.underlying87,rfl⟩,one1:=by decide }
theorem GH:Flat Ch Wz:=⟨fun h=>h,fun _ _=>⟨rfl,rfl⟩,fun h=>h.1⟩
def Uj (x:(Int × Int × Int × Int)):List Ac:=[(.int .i64 x.1),(.int .i64 x.2.1),(.int .i64 x.2.2.1),(.int .i64 x.2.2.2)]
def Az:Ty Tryz.prog (Int × Int × Int × Int):={ Sh.flat Uj 4 (0,0,0,0) (fun _=>rfl) (fun x=>Ones.all (vs:=Uj x) ⟨rfl,rfl,rfl,rfl,trivial⟩) with tid:=125,bts:=32,agg:=true,sz_pos:=by decide,bts_le:=by decide,info:=⟨_,_,Tryz.type125,rfl,rfl,rfl,rfl⟩,und:=⟨_,Tryz.underlying125,rfl⟩,one1:=by decide }
theorem Cs:Flat Az Uj:=⟨fun h=>h,fun _ _=>⟨rfl,rfl⟩,fun h=>h.1⟩
def Ui (x:Aef):List Ac:=[(.int .i64 x.1.1),(.int .i64 x.1.2),(.int .i64 x.2.1.1),(.int .i64 x.2.1.2),(.int .i64 x.2.2)]
def C4:Ty Tryz.prog Aef:={ Sh.flat Ui 5 ((0,0),(0,0),0) (fun _=>rfl) (fun x=>Ones.all (vs:=Ui x) ⟨rfl,rfl,rfl,rfl,rfl,trivial⟩) with tid:=187,bts:=40,agg:=true,sz_pos:=by decide,bts_le:=by decide,info:=⟨_,_,Tryz.type187,rfl,rfl,rfl,rfl⟩,und:=⟨_,Tryz.underlying187,rfl⟩,one1:=by decide }
theorem QP:Flat C4 Ui:=⟨fun h=>h,fun _ _=>⟨rfl,rfl⟩,fun h=>h.1⟩
def B2:Sh (Aed × Aed × Int × Aed × Aee × Aeg × (List Int) × (List Int) × Int):=(Sh.prod (Sh.slice Aq) (Sh.prod (Sh.slice Aq) (Sh.prod Ar.toSh (Sh.prod (Sh.slice BM) (Sh.prod (Sh.slice Az) (Sh.prod (Sh.slice Ch) (Sh.prod (Sh.slice Ar) (Sh.prod (Sh.slice Ar) Ar.toSh))))))))
theorem Hb {base:Nat} {w:Ae} {L:List Res} {F:Am} {b:Nat} {x:(Aed × Aed × Int × Aed × Aee × Aeg × (List Int) × (List Int) × Int)} (h:Sep base w (A3 B2 74 F b x :: L)):∃ (v0:Ac) (F0:Am),∃ (v1:Ac) (F1:Am),∃ (v3:Ac) (F3:Am),∃ (v4:Ac) (F4:Am),∃ (v5:Ac) (F5:Am),∃ (v6:Ac) (F6:Am),∃ (v7:Ac) (F7:Am),Sep base w (A9 b 74 [v0,v1,(.int .i64 x.2.2.1),v3,v4,v5,v6,v7,(.int .i64 x.2.2.2.2.2.2.2.2)] :: Ab Aq F0 v0 x.1 :: Ab Aq F1 v1 x.2.1 :: Ab BM F3 v3 x.2.2.2.1 :: Ab Az F4 v4 x.2.2.2.2.1 :: Ab Ch F5 v5 x.2.2.2.2.2.1 :: Ab Ar F6 v6 x.2.2.2.2.2.2.1 :: Ab Ar F7 v7 x.2.2.2.2.2.2.2.1 :: L):=by
 obtain ⟨cs,g0⟩:=Rt h
 unfold B2 at g0
 obtain ⟨a0,c0,Fa0,Fb0,hc0,hF0,g1⟩:=Eo [A9 b 74 cs] g0
 obtain ⟨v0,e0,g2⟩:=Iq [A9 b 74 cs] g1
 obtain ⟨a1,c1,Fa1,Fb1,hc1,hF1,g3⟩:=Eo [A9 b 74 cs,Ab Aq Fa0 v0 x.1] g2
 obtain ⟨v1,e1,g4⟩:=Iq [A9 b 74 cs,Ab Aq Fa0 v0 x.1] g3
 obtain ⟨a2,c2,Fa2,Fb2,hc2,hF2,g5⟩:=Eo [A9 b 74 cs,Ab Aq Fa0 v0 x.1,Ab Aq Fa1 v1 x.2.1] g4
 obtain ⟨e2,g6⟩:=N6 Co [A9 b 74 cs,Ab Aq Fa0 v0 x.1,Ab Aq Fa1 v1 x.2.1] g5
 obtain ⟨a3,c3,Fa3,Fb3,hc3,hF3,g7⟩:=Eo [A9 b 74 cs,Ab Aq Fa0 v0 x.1,Ab Aq Fa1 v1 x.2.1] g6
 obtain ⟨v3,e3,g8⟩:=Iq [A9 b 74 cs,Ab Aq Fa0 v0 x.1,Ab Aq Fa1 v1 x.2.1] g7
 obtain ⟨a4,c4,Fa4,Fb4,hc4,hF4,g9⟩:=Eo [A9 b 74 cs,Ab Aq Fa0 v0 x.1,Ab Aq Fa1 v1 x.2.1,Ab BM Fa3 v3 x.2.2.2.1] g8
 obtain ⟨v4,e4,g10⟩:=Iq [A9 b 74 cs,Ab Aq Fa0 v0 x.1,Ab Aq Fa1 v1 x.2.1,Ab BM Fa3 v3 x.2.2.2.1] g9
 obtain ⟨a5,c5,Fa5,Fb5,hc5,hF5,g11⟩:=Eo [A9 b 74 cs,Ab Aq Fa0 v0 x.1,Ab Aq Fa1 v1 x.2.1,Ab BM Fa3 v3 x.2.2.2.1,Ab Az Fa4 v4 x.2.2.2.2.1] g10
 obtain ⟨v5,e5,g12⟩:=Iq [A9 b 74 cs,Ab Aq Fa0 v0 x.1,Ab Aq Fa1 v1 x.2.1,Ab BM Fa3 v3 x.2.2.2.1,Ab Az Fa4 v4 x.2.2.2.2.1] g11
 obtain ⟨a6,c6,Fa6,Fb6,hc6,hF6,g13⟩:=Eo [A9 b 74 cs,Ab Aq Fa0 v0 x.1,Ab Aq Fa1 v1 x.2.1,Ab BM Fa3 v3 x.2.2.2.1,Ab Az Fa4 v4 x.2.2.2.2.1,Ab Ch Fa5 v5 x.2.2.2.2.2.1] g12
 obtain ⟨v6,e6,g14⟩:=Iq [A9 b 74 cs,Ab Aq Fa0 v0 x.1,Ab Aq Fa1 v1 x.2.1,Ab BM Fa3 v3 x.2.2.2.1,Ab Az Fa4 v4 x.2.2.2.2.1,Ab Ch Fa5 v5 x.2.2.2.2.2.1] g13
 obtain ⟨a7,c7,Fa7,Fb7,hc7,hF7,g15⟩:=Eo [A9 b 74 cs,Ab Aq Fa0 v0 x.1,Ab Aq Fa1 v1 x.2.1,Ab BM Fa3 v3 x.2.2.2.1,Ab Az Fa4 v4 x.2.2.2.2.1,Ab Ch Fa5 v5 x.2.2.2.2.2.1,Ab Ar Fa6 v6 x.2.2.2.2.2.2.1] g14
 obtain ⟨v7,e7,g16⟩:=Iq [A9 b 74 cs,Ab Aq Fa0 v0 x.1,Ab Aq Fa1 v1 x.2.1,Ab BM Fa3 v3 x.2.2.2.1,Ab Az Fa4 v4 x.2.2.2.2.1,Ab Ch Fa5 v5 x.2.2.2.2.2.1,Ab Ar Fa6 v6 x.2.2.2.2.2.2.1] g15
 obtain ⟨e8,g17⟩:=N6 Co [A9 b 74 cs,Ab Aq Fa0 v0 x.1,Ab Aq Fa1 v1 x.2.1,Ab BM Fa3 v3 x.2.2.2.1,Ab Az Fa4 v4 x.2.2.2.2.1,Ab Ch Fa5 v5 x.2.2.2.2.2.1,Ab Ar Fa6 v6 x.2.2.2.2.2.2.1,Ab Ar Fa7 v7 x.2.2.2.2.2.2.2.1] g16
 subst e0 e1 e2 e3 e4 e5 e6 e7 e8 hc7 hc6 hc5 hc4 hc3 hc2 hc1 hc0
 refine ⟨v0,Fa0,v1,Fa1,v3,Fa3,v4,Fa4,v5,Fa5,v6,Fa6,v7,Fa7,?_⟩
 exact g17
theorem DC {base:Nat} {w:Ae} {L:List Res} {b:Nat} {v0:Ac} {F0:Am} {v1:Ac} {F1:Am} {v3:Ac} {F3:Am} {v4:Ac} {F4:Am} {v5:Ac} {F5:Am} {v6:Ac} {F6:Am} {v7:Ac} {F7:Am} {y0:Aed} {y1:Aed} {y2:Int} {y3:Aed} {y4:Aee} {y5:Aeg} {y6:(List Int)} {y7:(List Int)} {y8:Int} (h:Sep base w (A9 b 74 [v0,v1,(.int .i64 y2),v3,v4,v5,v6,v7,(.int .i64 y8)] :: Ab Aq F0 v0 y0 :: Ab Aq F1 v1 y1 :: Ab BM F3 v3 y3 :: Ab Az F4 v4 y4 :: Ab Ch F5 v5 y5 :: Ab Ar F6 v6 y6 :: Ab Ar F7 v7 y7 :: L)):Sep base w (A3 B2 74 ([F0,F1,F3,F4,F5,F6,F7].flatten) b (y0,y1,y2,y3,y4,y5,y6,y7,y8) :: L):=by
 replace h:=MB Co y8 [A9 b 74 _,Ab Aq F0 v0 y0,Ab Aq F1 v1 y1,Ab BM F3 v3 y3,Ab Az F4 v4 y4,Ab Ch F5 v5 y5,Ab Ar F6 v6 y6,Ab Ar F7 v7 y7] h
 replace h:=Hx [A9 b 74 _,Ab Aq F0 v0 y0,Ab Aq F1 v1 y1,Ab BM F3 v3 y3,Ab Az F4 v4 y4,Ab Ch F5 v5 y5,Ab Ar F6 v6 y6] h
 replace h:=DD [A9 b 74 _,Ab Aq F0 v0 y0,Ab Aq F1 v1 y1,Ab BM F3 v3 y3,Ab Az F4 v4 y4,Ab Ch F5 v5 y5,Ab Ar F6 v6 y6] h
 replace h:=Hx [A9 b 74 _,Ab Aq F0 v0 y0,Ab Aq F1 v1 y1,Ab BM F3 v3 y3,Ab Az F4 v4 y4,Ab Ch F5 v5 y5] h
 replace h:=DD [A9 b 74 _,Ab Aq F0 v0 y0,Ab Aq F1 v1 y1,Ab BM F3 v3 y3,Ab Az F4 v4 y4,Ab Ch F5 v5 y5] h
 replace h:=Hx [A9 b 74 _,Ab Aq F0 v0 y0,Ab Aq F1 v1 y1,Ab BM F3 v3 y3,Ab Az F4 v4 y4] h
 replace h:=DD [A9 b 74 _,Ab Aq F0 v0 y0,Ab Aq F1 v1 y1,Ab BM F3 v3 y3,Ab Az F4 v4 y4] h
 replace h:=Hx [A9 b 74 _,Ab Aq F0 v0 y0,Ab Aq F1 v1 y1,Ab BM F3 v3 y3] h
 replace h:=DD [A9 b 74 _,Ab Aq F0 v0 y0,Ab Aq F1 v1 y1,Ab BM F3 v3 y3] h
 replace h:=Hx [A9 b 74 _,Ab Aq F0 v0 y0,Ab Aq F1 v1 y1] h
 replace h:=DD [A9 b 74 _,Ab Aq F0 v0 y0,Ab Aq F1 v1 y1] h
 replace h:=MB Co y2 [A9 b 74 _,Ab Aq F0 v0 y0,Ab Aq F1 v1 y1] h
 replace h:=DD [A9 b 74 _,Ab Aq F0 v0 y0,Ab Aq F1 v1 y1] h
 replace h:=Hx [A9 b 74 _,Ab Aq F0 v0 y0] h
 replace h:=DD [A9 b 74 _,Ab Aq F0 v0 y0] h
 replace h:=Hx [A9 b 74 _] h
 replace h:=DD [A9 b 74 _] h
 exact PP h (by simp)
def AR:Sh (Aed × Aed × Int × Aed × Aee × Aeg):=(Sh.prod (Sh.slice Aq) (Sh.prod (Sh.slice Aq) (Sh.prod Ar.toSh (Sh.prod (Sh.slice BM) (Sh.prod (Sh.slice Az) (Sh.slice Ch))))))
theorem Ir {base:Nat} {w:Ae} {L:List Res} {F:Am} {b:Nat} {x:(Aed × Aed × Int × Aed × Aee × Aeg)} (h:Sep base w (A3 AR 76 F b x :: L)):∃ (v0:Ac) (F0:Am),∃ (v1:Ac) (F1:Am),∃ (v3:Ac) (F3:Am),∃ (v4:Ac) (F4:Am),∃ (v5:Ac) (F5:Am),Sep base w (A9 b 76 [v0,v1,(.int .i64 x.2.2.1),v3,v4,v5] :: Ab Aq F0 v0 x.1 :: Ab Aq F1 v1 x.2.1 :: Ab BM F3 v3 x.2.2.2.1 :: Ab Az F4 v4 x.2.2.2.2.1 :: Ab Ch F5 v5 x.2.2.2.2.2 :: L):=by
 obtain ⟨cs,g0⟩:=Rt h
 unfold AR at g0
 obtain ⟨a0,c0,Fa0,Fb0,hc0,hF0,g1⟩:=Eo [A9 b 76 cs] g0
 obtain ⟨v0,e0,g2⟩:=Iq [A9 b 76 cs] g1
 obtain ⟨a1,c1,Fa1,Fb1,hc1,hF1,g3⟩:=Eo [A9 b 76 cs,Ab Aq Fa0 v0 x.1] g2
 obtain ⟨v1,e1,g4⟩:=Iq [A9 b 76 cs,Ab Aq Fa0 v0 x.1] g3
 obtain ⟨a2,c2,Fa2,Fb2,hc2,hF2,g5⟩:=Eo [A9 b 76 cs,Ab Aq Fa0 v0 x.1,Ab Aq Fa1 v1 x.2.1] g4
 obtain ⟨e2,g6⟩:=N6 Co [A9 b 76 cs,Ab Aq Fa0 v0 x.1,Ab Aq Fa1 v1 x.2.1] g5
 obtain ⟨a3,c3,Fa3,Fb3,hc3,hF3,g7⟩:=Eo [A9 b 76 cs,Ab Aq Fa0 v0 x.1,Ab Aq Fa1 v1 x.2.1] g6
 obtain ⟨v3,e3,g8⟩:=Iq [A9 b 76 cs,Ab Aq Fa0 v0 x.1,Ab Aq Fa1 v1 x.2.1] g7
 obtain ⟨a4,c4,Fa4,Fb4,hc4,hF4,g9⟩:=Eo [A9 b 76 cs,Ab Aq Fa0 v0 x.1,Ab Aq Fa1 v1 x.2.1,Ab BM Fa3 v3 x.2.2.2.1] g8
 obtain ⟨v4,e4,g10⟩:=Iq [A9 b 76 cs,Ab Aq Fa0 v0 x.1,Ab Aq Fa1 v1 x.2.1,Ab BM Fa3 v3 x.2.2.2.1] g9
 obtain ⟨v5,e5,g11⟩:=Iq [A9 b 76 cs,Ab Aq Fa0 v0 x.1,Ab Aq Fa1 v1 x.2.1,Ab BM Fa3 v3 x.2.2.2.1,Ab Az Fa4 v4 x.2.2.2.2.1] g10
 subst e0 e1 e2 e3 e4 e5 hc4 hc3 hc2 hc1 hc0
 refine ⟨v0,Fa0,v1,Fa1,v3,Fa3,v4,Fa4,v5,Fb4,?_⟩
 exact g11
theorem Dv {base:Nat} {w:Ae} {L:List Res} {b:Nat} {v0:Ac} {F0:Am} {v1:Ac} {F1:Am} {v3:Ac} {F3:Am} {v4:Ac} {F4:Am} {v5:Ac} {F5:Am} {y0:Aed} {y1:Aed} {y2:Int} {y3:Aed} {y4:Aee} {y5:Aeg} (h:Sep base w (A9 b 76 [v0,v1,(.int .i64 y2),v3,v4,v5] :: Ab Aq F0 v0 y0 :: Ab Aq F1 v1 y1 :: Ab BM F3 v3 y3 :: Ab Az F4 v4 y4 :: Ab Ch F5 v5 y5 :: L)):Sep base w (A3 AR 76 ([F0,F1,F3,F4,F5].flatten) b (y0,y1,y2,y3,y4,y5) :: L):=by
 replace h:=Hx [A9 b 76 _,Ab Aq F0 v0 y0,Ab Aq F1 v1 y1,Ab BM F3 v3 y3,Ab Az F4 v4 y4] h
 replace h:=Hx [A9 b 76 _,Ab Aq F0 v0 y0,Ab Aq F1 v1 y1,Ab BM F3 v3 y3] h
 replace h:=DD [A9 b 76 _,Ab Aq F0 v0 y0,Ab Aq F1 v1 y1,Ab BM F3 v3 y3] h
 replace h:=Hx [A9 b 76 _,Ab Aq F0 v0 y0,Ab Aq F1 v1 y1] h
 replace h:=DD [A9 b 76 _,Ab Aq F0 v0 y0,Ab Aq F1 v1 y1] h
 replace h:=MB Co y2 [A9 b 76 _,Ab Aq F0 v0 y0,Ab Aq F1 v1 y1] h
 replace h:=DD [A9 b 76 _,Ab Aq F0 v0 y0,Ab Aq F1 v1 y1] h
 replace h:=Hx [A9 b 76 _,Ab Aq F0 v0 y0] h
 replace h:=DD [A9 b 76 _,Ab Aq F0 v0 y0] h
 replace h:=Hx [A9 b 76 _] h
 replace h:=DD [A9 b 76 _] h
 exact PP h (by simp)
def Cc:Sh ((List Aef) × Int × (List Int)):=(Sh.prod (Sh.slice C4) (Sh.prod Ar.toSh (Sh.arr iv 0 900 (fun _=>rfl))))
theorem NT {base:Nat} {w:Ae} {L:List Res} {F:Am} {b:Nat} {x:((List Aef) × Int × (List Int))} (h:Sep base w (A3 Cc 198 F b x :: L)):∃ (v0:Ac) (F0:Am),List.length x.2.2 = 900 ∧ Sep base w (A9 b 198 ([v0,(.int .i64 x.2.1)] ++ ((MD x.2.2) ++ [])) :: Ab C4 F0 v0 x.1 :: L):=by
 obtain ⟨cs,g0⟩:=Rt h
 unfold Cc at g0
 obtain ⟨a0,c0,Fa0,Fb0,hc0,hF0,g1⟩:=Eo [A9 b 198 cs] g0
 obtain ⟨v0,e0,g2⟩:=Iq [A9 b 198 cs] g1
 obtain ⟨a1,c1,Fa1,Fb1,hc1,hF1,g3⟩:=Eo [A9 b 198 cs,Ab C4 Fa0 v0 x.1] g2
 obtain ⟨e1,g4⟩:=N6 Co [A9 b 198 cs,Ab C4 Fa0 v0 x.1] g3
 obtain ⟨-,e2,hn2,g5⟩:=Wd [A9 b 198 cs,Ab C4 Fa0 v0 x.1] g4
 subst e0 e1 e2 hc1 hc0
 refine ⟨v0,Fa0,hn2,?_⟩
 rw [List.append_nil]
 exact g5
theorem Io {base:Nat} {w:Ae} {L:List Res} {b:Nat} {v0:Ac} {F0:Am} {y0:(List Aef)} {y1:Int} {y2:(List Int)} (hn2:List.length y2 = 900) (h:Sep base w (A9 b 198 ([v0,(.int .i64 y1)] ++ ((MD y2) ++ [])) :: Ab C4 F0 v0 y0 :: L)):Sep base w (A3 Cc 198 ([F0].flatten) b (y0,y1,y2) :: L):=by
 rw [List.append_nil] at h
 replace h:=Vc (f:=iv) (z:=0) (h1:=fun _=>rfl) y2 hn2 [A9 b 198 _,Ab C4 F0 v0 y0] h
 replace h:=MB Co y1 [A9 b 198 _,Ab C4 F0 v0 y0] h
 replace h:=DD [A9 b 198 _,Ab C4 F0 v0 y0] h
 replace h:=Hx [A9 b 198 _] h
 replace h:=DD [A9 b 198 _] h
 exact PP h (by simp)
def CB:Sh Aeh:=(Sh.prod (Sh.arr Value.bool false 900 (fun _=>rfl)) (Sh.prod Ar.toSh (Sh.prod (Sh.slicen Ar) Ar.toSh)))
theorem NS {base:Nat} {w:Ae} {L:List Res} {F:Am} {b:Nat} {x:Aeh} (h:Sep base w (A3 CB 212 F b x :: L)):∃ (v2:Ac) (F2:Am),List.length x.1 = 900 ∧ (x.2.2.1 = [] → v2 = .slice none 0 0) ∧ Sep base w (A9 b 212 ((IP x.1) ++ [(.int .i64 x.2.1),v2,(.int .i64 x.2.2.2)]) :: Ab Ar F2 v2 x.2.2.1 :: L):=by
 obtain ⟨cs,g0⟩:=Rt h
 unfold CB at g0
 obtain ⟨a0,c0,Fa0,Fb0,hc0,hF0,g1⟩:=Eo [A9 b 212 cs] g0
 obtain ⟨-,e0,hn0,g2⟩:=Wd [A9 b 212 cs] g1
 obtain ⟨a1,c1,Fa1,Fb1,hc1,hF1,g3⟩:=Eo [A9 b 212 cs] g2
 obtain ⟨e1,g4⟩:=N6 Co [A9 b 212 cs] g3
 obtain ⟨a2,c2,Fa2,Fb2,hc2,hF2,g5⟩:=Eo [A9 b 212 cs] g4
 obtain ⟨v2,e2,hn2,g6⟩:=Aa8 [A9 b 212 cs] g5
 obtain ⟨e3,g7⟩:=N6 Co [A9 b 212 cs,Ab Ar Fa2 v2 x.2.2.1] g6
 subst e0 e1 e2 e3 hc2 hc1 hc0
 refine ⟨v2,Fa2,hn0,hn2,?_⟩
 exact g7
theorem JS {base:Nat} {w:Ae} {L:List Res} {b:Nat} {v2:Ac} {F2:Am} {y0:(List Bool)} {y1:Int} {y2:(List Int)} {y3:Int} (hn0:List.length y0 = 900) (hn2:(y2 = [] → v2 = .slice none 0 0)) (h:Sep base w (A9 b 212 ((IP y0) ++ [(.int .i64 y1),v2,(.int .i64 y3)]) :: Ab Ar F2 v2 y2 :: L)):Sep base w (A3 CB 212 ([F2].flatten) b (y0,y1,y2,y3) :: L):=by
 replace h:=MB Co y3 [A9 b 212 _,Ab Ar F2 v2 y2] h
 replace h:=ZX hn2 [A9 b 212 _] h
 replace h:=DD [A9 b 212 _] h
 replace h:=MB Co y1 [A9 b 212 _] h
 replace h:=DD [A9 b 212 _] h
 replace h:=Vc (f:=Value.bool) (z:=false) (h1:=fun _=>rfl) y0 hn0 [A9 b 212 _] h
 replace h:=DD [A9 b 212 _] h
 exact PP h (by simp)
theorem IQ:Fu Tryz.prog 74 0 0 = true:=by kernel_rfl
theorem Uh:Fu Tryz.prog 74 1 1 = true:=by kernel_rfl
theorem Ug:Fu Tryz.prog 74 2 2 = true:=by kernel_rfl
theorem Uf:Fu Tryz.prog 74 3 3 = true:=by kernel_rfl
theorem Ue:Fu Tryz.prog 74 4 4 = true:=by kernel_rfl
theorem Ud:Fu Tryz.prog 74 5 5 = true:=by kernel_rfl
theorem R1:Fu Tryz.prog 74 6 6 = true:=by kernel_rfl
theorem R0:Fu Tryz.prog 74 7 7 = true:=by kernel_rfl
theorem X5:Fu Tryz.prog 74 8 8 = true:=by kernel_rfl
theorem HN:Fu Tryz.prog 76 0 0 = true:=by kernel_rfl
theorem Rz:Fu Tryz.prog 76 1 1 = true:=by kernel_rfl
theorem Ry:Fu Tryz.prog 76 2 2 = true:=by kernel_rfl
theorem Uc:Fu Tryz.prog 76 3 3 = true:=by kernel_rfl
theorem Ub:Fu Tryz.prog 76 4 4 = true:=by kernel_rfl
theorem Ua:Fu Tryz.prog 76 5 5 = true:=by kernel_rfl
theorem CL:Fu Tryz.prog 79 0 0 = true:=by kernel_rfl
theorem CK:Fu Tryz.prog 79 1 1 = true:=by kernel_rfl
theorem Kv:Fu Tryz.prog 82 0 0 = true:=by kernel_rfl
theorem ND:Fu Tryz.prog 82 1 1 = true:=by kernel_rfl
theorem NC:Fu Tryz.prog 87 0 0 = true:=by kernel_rfl
theorem NB:Fu Tryz.prog 87 1 1 = true:=by kernel_rfl
theorem NA:Fu Tryz.prog 87 2 2 = true:=by kernel_rfl
theorem J0:Fu Tryz.prog 125 0 0 = true:=by kernel_rfl
theorem HU:Fu Tryz.prog 125 1 1 = true:=by kernel_rfl
theorem DB:Fu Tryz.prog 125 2 2 = true:=by kernel_rfl
theorem GP:Fu Tryz.prog 125 3 3 = true:=by kernel_rfl
theorem Ey:Fu Tryz.prog 128 0 0 = true:=by kernel_rfl
theorem KR:Fu Tryz.prog 128 1 1 = true:=by kernel_rfl
theorem KQ:Fu Tryz.prog 128 2 2 = true:=by kernel_rfl
theorem Gw:Fu Tryz.prog 128 3 3 = true:=by kernel_rfl
theorem FA:Fu Tryz.prog 187 0 0 = true:=by kernel_rfl
theorem Gv:Fu Tryz.prog 187 1 2 = true:=by kernel_rfl
theorem HT:Fu Tryz.prog 187 2 4 = true:=by kernel_rfl
theorem Sw:Fu Tryz.prog 198 0 0 = true:=by kernel_rfl
theorem ZV:Fu Tryz.prog 198 1 1 = true:=by kernel_rfl
theorem Sv:Fu Tryz.prog 198 2 2 = true:=by kernel_rfl
theorem Wy:Fu Tryz.prog 212 0 0 = true:=by kernel_rfl
theorem ZU:Fu Tryz.prog 212 1 900 = true:=by kernel_rfl
theorem Su:Fu Tryz.prog 212 2 901 = true:=by kernel_rfl
theorem Ss:Fu Tryz.prog 212 3 902 = true:=by kernel_rfl
theorem Ada:HL Tryz.prog 74 [(0,1),(1,1),(2,1),(3,1),(4,1),(5,1),(6,1),(7,1),(8,1)] = true:=by kernel_rfl
theorem Ac9:HL Tryz.prog 76 [(0,1),(1,1),(2,1),(3,1),(4,1),(5,1)] = true:=by kernel_rfl
theorem L4:HL Tryz.prog 79 [(0,1),(1,1)] = true:=by kernel_rfl
theorem V4:HL Tryz.prog 82 [(0,1),(1,1)] = true:=by kernel_rfl
theorem V3:HL Tryz.prog 87 [(0,1),(1,1),(2,1)] = true:=by kernel_rfl
theorem YK:HL Tryz.prog 125 [(0,1),(1,1),(2,1),(3,1)] = true:=by kernel_rfl
theorem Pl:HL Tryz.prog 128 [(0,1),(1,1),(2,1),(3,1)] = true:=by kernel_rfl
theorem YJ:HL Tryz.prog 187 [(0,2),(2,2),(4,1)] = true:=by kernel_rfl
theorem Ab8:HL Tryz.prog 198 [(0,1),(1,1),(2,900)] = true:=by kernel_rfl
theorem Ab7:HL Tryz.prog 212 [(0,900),(900,1),(901,1),(902,1)] = true:=by kernel_rfl
theorem Aat (x y:(Int × Int)) (w:Ae):(Op.equalIn 10000 79 (.agg #[(.int .i64 x.1),(.int .i64 x.2)]) (.agg #[(.int .i64 y.1),(.int .i64 y.2)])).run Tryz.prog w = .ok (M9 x y) w:=by
 go_simp
 by_cases h0:x.1 = y.1 <;> by_cases h1:x.2 = y.2 <;> simp [M9,h0,h1]
theorem Adv:Opn Tryz.prog 9 Cx.rd (Ac0 Acz):=XM Tryz.underlying9
end
end Go.Proofs.YtellehgihceicaaGreatDoor
