/-
 THE TYPES of this seat, by program (gen.py).
-/
import Derived.Test.YtellehgihceicaaGreatDoorCore20
import Derived.Test.YtellehgihceicaaGreatDoorF
set_option linter.unusedVariables false
set_option linter.unusedSimpArgs false
set_option maxRecDepth 100000
set_option maxHeartbeats 1600000
namespace Go.Proofs.YtellehgihceicaaGreatDoor
open Go Go.RowKit
abbrev A1 (f:FuncId) (l:List Ac):=Calls Tryz.prog f l.toArray
noncomputable section
theorem B2:Tryz.prog.follows .mixedOrders = true:=by kernel_rfl
theorem A4:TF Tryz.prog 3 1 false (.int .i64 0):=⟨Tryz.sizeOf3,Tryz.isAgg3,Tryz.zeroValue3,by decide,by decide⟩
theorem ZB:TF Tryz.prog 4 1 false (.bool false):=⟨Tryz.sizeOf4,Tryz.isAgg4,Tryz.zeroValue4,by decide,by decide⟩
theorem NN:TF Tryz.prog 9 1 false (.string .empty):=⟨Tryz.sizeOf9,Tryz.isAgg9,Tryz.zeroValue9,by decide,by decide⟩
theorem Cm:TF Tryz.prog 26 1 false (.slice none 0 0):=⟨Tryz.sizeOf26,Tryz.isAgg26,Tryz.zeroValue26,by decide,by decide⟩
theorem Rx:TF Tryz.prog 31 1 false (.slice none 0 0):=⟨Tryz.sizeOf31,Tryz.isAgg31,Tryz.zeroValue31,by decide,by decide⟩
theorem Fv:TF Tryz.prog 36 1 false (.slice none 0 0):=⟨Tryz.sizeOf36,Tryz.isAgg36,Tryz.zeroValue36,by decide,by decide⟩
theorem Oz:TF Tryz.prog 41 1 false (.slice none 0 0):=⟨Tryz.sizeOf41,Tryz.isAgg41,Tryz.zeroValue41,by decide,by decide⟩
theorem Rw:TF Tryz.prog 72 1 false (.slice none 0 0):=⟨Tryz.sizeOf72,Tryz.isAgg72,Tryz.zeroValue72,by decide,by decide⟩
theorem Ado:TF Tryz.prog 74 9 true (.agg #[(.slice none 0 0),(.slice none 0 0),(.int .i64 0),(.slice none 0 0),(.slice none 0 0),(.slice none 0 0),(.slice none 0 0),(.slice none 0 0),(.int .i64 0)]):=⟨Tryz.sizeOf74,Tryz.isAgg74,Tryz.zeroValue74,by decide,by decide⟩
theorem Adn:TF Tryz.prog 76 6 true (.agg #[(.slice none 0 0),(.slice none 0 0),(.int .i64 0),(.slice none 0 0),(.slice none 0 0),(.slice none 0 0)]):=⟨Tryz.sizeOf76,Tryz.isAgg76,Tryz.zeroValue76,by decide,by decide⟩
theorem Bs:TF Tryz.prog 79 2 true (.agg #[(.int .i64 0),(.int .i64 0)]):=⟨Tryz.sizeOf79,Tryz.isAgg79,Tryz.zeroValue79,by decide,by decide⟩
theorem GQ:TF Tryz.prog 82 2 true (.agg #[(.int .i64 0),(.int .i64 0)]):=⟨Tryz.sizeOf82,Tryz.isAgg82,Tryz.zeroValue82,by decide,by decide⟩
theorem KI:TF Tryz.prog 87 3 true (.agg #[(.int .i64 0),(.int .i64 0),(.int .i64 0)]):=⟨Tryz.sizeOf87,Tryz.isAgg87,Tryz.zeroValue87,by decide,by decide⟩
theorem BF:TF Tryz.prog 125 4 true (.agg #[(.int .i64 0),(.int .i64 0),(.int .i64 0),(.int .i64 0)]):=⟨Tryz.sizeOf125,Tryz.isAgg125,Tryz.zeroValue125,by decide,by decide⟩
theorem Bp:TF Tryz.prog 128 4 true (.agg #[(.slice none 0 0),(.slice none 0 0),(.int .i64 0),(.slice none 0 0)]):=⟨Tryz.sizeOf128,Tryz.isAgg128,Tryz.zeroValue128,by decide,by decide⟩
theorem VN:TF Tryz.prog 184 1 false (.slice none 0 0):=⟨Tryz.sizeOf184,Tryz.isAgg184,Tryz.zeroValue184,by decide,by decide⟩
theorem Cx:TF Tryz.prog 187 5 true (.agg #[(.int .i64 0),(.int .i64 0),(.int .i64 0),(.int .i64 0),(.int .i64 0)]):=⟨Tryz.sizeOf187,Tryz.isAgg187,Tryz.zeroValue187,by decide,by decide⟩
theorem Ab9:TF Tryz.prog 198 902 true (.agg Tryz.zeroCells198):=⟨Tryz.sizeOf198,Tryz.isAgg198,Tryz.zeroValue198,by decide,by decide⟩
theorem Ab8:TF Tryz.prog 212 903 true (.agg Tryz.zeroCells212):=⟨Tryz.sizeOf212,Tryz.isAgg212,Tryz.zeroValue212,by decide,by decide⟩
def Yl (x:Int):List Ac:=[(.int .i64 x)]
def Ar:Ty Tryz.prog Int:={ Sh.flat Yl 1 0 (fun _=>rfl) (fun x=>Ones.all (vs:=Yl x) ⟨rfl,trivial⟩) with tid:=3,bts:=8,agg:=false,sz_pos:=by decide,bts_le:=by decide,info:=⟨_,_,Tryz.type3,rfl,rfl,rfl,rfl⟩,und:=⟨_,Tryz.underlying3,rfl⟩,one1:=by decide }
theorem Cp:Flat Ar Yl:=⟨fun h=>h,fun _ _=>⟨rfl,rfl⟩,fun h=>h.1⟩
def Yk (x:Int):List Ac:=[(.int .u8 x)]
def Aea:Ty Tryz.prog Int:={ Sh.flat Yk 1 0 (fun _=>rfl) (fun x=>Ones.all (vs:=Yk x) ⟨rfl,trivial⟩) with tid:=5,bts:=1,agg:=false,sz_pos:=by decide,bts_le:=by decide,info:=⟨_,_,Tryz.type5,rfl,rfl,rfl,rfl⟩,und:=⟨_,Tryz.underlying5,rfl⟩,one1:=by decide }
theorem Sz:Flat Aea Yk:=⟨fun h=>h,fun _ _=>⟨rfl,rfl⟩,fun h=>h.1⟩
def VC (x:(List Aj)):List Ac:=[(.string (B5 x))]
def C5:Ty Tryz.prog (List Aj):={ Sh.flat VC 1 [] (fun _=>rfl) (fun x=>Ones.all (vs:=VC x) ⟨rfl,trivial⟩) with tid:=9,bts:=16,agg:=false,sz_pos:=by decide,bts_le:=by decide,info:=⟨_,_,Tryz.type9,rfl,rfl,rfl,rfl⟩,und:=⟨_,Tryz.underlying9,rfl⟩,one1:=by decide }
theorem IB:Flat C5 VC:=⟨fun h=>h,fun _ _=>⟨rfl,rfl⟩,fun h=>h.1⟩
def W9 (x:(Int × Int)):List Ac:=[(.int .i64 x.1),(.int .i64 x.2)]
def Aq:Ty Tryz.prog (Int × Int):={ Sh.flat W9 2 (0,0) (fun _=>rfl) (fun x=>Ones.all (vs:=W9 x) ⟨rfl,rfl,trivial⟩) with tid:=79,bts:=16,agg:=true,sz_pos:=by decide,bts_le:=by decide,info:=⟨_,_,Tryz.type79,rfl,rfl,rfl,rfl⟩,und:=⟨_,Tryz.underlying79,rfl⟩,one1:=by decide }
theorem CC:Flat Aq W9:=⟨fun h=>h,fun _ _=>⟨rfl,rfl⟩,fun h=>h.1⟩
def W8 (x:(Int × Int)):List Ac:=[(.int .i64 x.1),(.int .i64 x.2)]
def BQ:Ty Tryz.prog (Int × Int):={ Sh.flat W8 2 (0,0) (fun _=>rfl) (fun x=>Ones.all (vs:=W8 x) ⟨rfl,rfl,trivial⟩) with tid:=82,bts:=16,agg:=true,sz_pos:=by decide,bts_le:=by decide,info:=⟨_,_,Tryz.type82,rfl,rfl,rfl,rfl⟩,und:=⟨_,Tryz.underlying82,rfl⟩,one1:=by decide }
theorem GM:Flat BQ W8:=⟨fun h=>h,fun _ _=>⟨rfl,rfl⟩,fun h=>h.1⟩
def Cj:Ty Tryz.prog (List Int):={ Sh.slice Ar with tid:=36,bts:=24,agg:=false,sz_pos:=by decide,bts_le:=by decide,info:=⟨_,_,Tryz.type36,rfl,rfl,rfl,rfl⟩,und:=⟨_,Tryz.underlying36,rfl⟩,one1:=by decide }
def W7 (x:(Int × Int × Int)):List Ac:=[(.int .i64 x.1),(.int .i64 x.2.1),(.int .i64 x.2.2)]
def B6:Ty Tryz.prog (Int × Int × Int):={ Sh.flat W7 3 (0,0,0) (fun _=>rfl) (fun x=>Ones.all (vs:=W7 x) ⟨rfl,rfl,rfl,trivial⟩) with tid:=87,bts:=24,agg:=true,sz_pos:=by decide,bts_le:=by decide,info:=⟨_,_,Tryz.type87,rfl,rfl,rfl,rfl⟩,und:=⟨_,Tryz.underlying87,rfl⟩,one1:=by decide }
theorem FN:Flat B6 W7:=⟨fun h=>h,fun _ _=>⟨rfl,rfl⟩,fun h=>h.1⟩
def Up (x:(Int × Int × Int × Int)):List Ac:=[(.int .i64 x.1),(.int .i64 x.2.1),(.int .i64 x.2.2.1),(.int .i64 x.2.2.2)]
def A0:Ty Tryz.prog (Int × Int × Int × Int):={ Sh.flat Up 4 (0,0,0,0) (fun _=>rfl) (fun x=>Ones.all (vs:=Up x) ⟨rfl,rfl,rfl,rfl,trivial⟩) with tid:=125,bts:=32,agg:=true,sz_pos:=by decide,bts_le:=by decide,info:=⟨_,_,Tryz.type125,rfl,rfl,rfl,rfl⟩,und:=⟨_,Tryz.underlying125,rfl⟩,one1:=by decide }
theorem Ct:Flat A0 Up:=⟨fun h=>h,fun _ _=>⟨rfl,rfl⟩,fun h=>h.1⟩
def Uo (x:Aex):List Ac:=[(.int .i64 x.1.1),(.int .i64 x.1.2),(.int .i64 x.2.1.1),(.int .i64 x.2.1.2),(.int .i64 x.2.2)]
def C2:Ty Tryz.prog Aex:={ Sh.flat Uo 5 ((0,0),(0,0),0) (fun _=>rfl) (fun x=>Ones.all (vs:=Uo x) ⟨rfl,rfl,rfl,rfl,rfl,trivial⟩) with tid:=187,bts:=40,agg:=true,sz_pos:=by decide,bts_le:=by decide,info:=⟨_,_,Tryz.type187,rfl,rfl,rfl,rfl⟩,und:=⟨_,Tryz.underlying187,rfl⟩,one1:=by decide }
theorem QY:Flat C2 Uo:=⟨fun h=>h,fun _ _=>⟨rfl,rfl⟩,fun h=>h.1⟩
def B1:Sh (Aev × Aev × Int × Aev × Aew × Aey × (List Int) × (List Int) × Int):=(Sh.prod (Sh.slice Aq) (Sh.prod (Sh.slice Aq) (Sh.prod Ar.toSh (Sh.prod (Sh.slice BQ) (Sh.prod (Sh.slice A0) (Sh.prod (Sh.slice B6) (Sh.prod (Sh.slice Ar) (Sh.prod (Sh.slice Ar) Ar.toSh))))))))
theorem Hi {base:Nat} {w:Ag} {L:List Res} {F:An} {b:Nat} {x:(Aev × Aev × Int × Aev × Aew × Aey × (List Int) × (List Int) × Int)} (h:Sep base w (A3 B1 74 F b x :: L)):∃ (v0:Ac) (F0:An),∃ (v1:Ac) (F1:An),∃ (v3:Ac) (F3:An),∃ (v4:Ac) (F4:An),∃ (v5:Ac) (F5:An),∃ (v6:Ac) (F6:An),∃ (v7:Ac) (F7:An),Sep base w (A9 b 74 [v0,v1,(.int .i64 x.2.2.1),v3,v4,v5,v6,v7,(.int .i64 x.2.2.2.2.2.2.2.2)] :: Ab Aq F0 v0 x.1 :: Ab Aq F1 v1 x.2.1 :: Ab BQ F3 v3 x.2.2.2.1 :: Ab A0 F4 v4 x.2.2.2.2.1 :: Ab B6 F5 v5 x.2.2.2.2.2.1 :: Ab Ar F6 v6 x.2.2.2.2.2.2.1 :: Ab Ar F7 v7 x.2.2.2.2.2.2.2.1 :: L):=by
 obtain ⟨cs,g0⟩:=R1 h
 unfold B1 at g0
 obtain ⟨a0,c0,Fa0,Fb0,hc0,hF0,g1⟩:=Er [A9 b 74 cs] g0
 obtain ⟨v0,e0,g2⟩:=Iw [A9 b 74 cs] g1
 obtain ⟨a1,c1,Fa1,Fb1,hc1,hF1,g3⟩:=Er [A9 b 74 cs,Ab Aq Fa0 v0 x.1] g2
 obtain ⟨v1,e1,g4⟩:=Iw [A9 b 74 cs,Ab Aq Fa0 v0 x.1] g3
 obtain ⟨a2,c2,Fa2,Fb2,hc2,hF2,g5⟩:=Er [A9 b 74 cs,Ab Aq Fa0 v0 x.1,Ab Aq Fa1 v1 x.2.1] g4
 obtain ⟨e2,g6⟩:=NF Cp [A9 b 74 cs,Ab Aq Fa0 v0 x.1,Ab Aq Fa1 v1 x.2.1] g5
 obtain ⟨a3,c3,Fa3,Fb3,hc3,hF3,g7⟩:=Er [A9 b 74 cs,Ab Aq Fa0 v0 x.1,Ab Aq Fa1 v1 x.2.1] g6
 obtain ⟨v3,e3,g8⟩:=Iw [A9 b 74 cs,Ab Aq Fa0 v0 x.1,Ab Aq Fa1 v1 x.2.1] g7
 obtain ⟨a4,c4,Fa4,Fb4,hc4,hF4,g9⟩:=Er [A9 b 74 cs,Ab Aq Fa0 v0 x.1,Ab Aq Fa1 v1 x.2.1,Ab BQ Fa3 v3 x.2.2.2.1] g8
 obtain ⟨v4,e4,g10⟩:=Iw [A9 b 74 cs,Ab Aq Fa0 v0 x.1,Ab Aq Fa1 v1 x.2.1,Ab BQ Fa3 v3 x.2.2.2.1] g9
 obtain ⟨a5,c5,Fa5,Fb5,hc5,hF5,g11⟩:=Er [A9 b 74 cs,Ab Aq Fa0 v0 x.1,Ab Aq Fa1 v1 x.2.1,Ab BQ Fa3 v3 x.2.2.2.1,Ab A0 Fa4 v4 x.2.2.2.2.1] g10
 obtain ⟨v5,e5,g12⟩:=Iw [A9 b 74 cs,Ab Aq Fa0 v0 x.1,Ab Aq Fa1 v1 x.2.1,Ab BQ Fa3 v3 x.2.2.2.1,Ab A0 Fa4 v4 x.2.2.2.2.1] g11
 obtain ⟨a6,c6,Fa6,Fb6,hc6,hF6,g13⟩:=Er [A9 b 74 cs,Ab Aq Fa0 v0 x.1,Ab Aq Fa1 v1 x.2.1,Ab BQ Fa3 v3 x.2.2.2.1,Ab A0 Fa4 v4 x.2.2.2.2.1,Ab B6 Fa5 v5 x.2.2.2.2.2.1] g12
 obtain ⟨v6,e6,g14⟩:=Iw [A9 b 74 cs,Ab Aq Fa0 v0 x.1,Ab Aq Fa1 v1 x.2.1,Ab BQ Fa3 v3 x.2.2.2.1,Ab A0 Fa4 v4 x.2.2.2.2.1,Ab B6 Fa5 v5 x.2.2.2.2.2.1] g13
 obtain ⟨a7,c7,Fa7,Fb7,hc7,hF7,g15⟩:=Er [A9 b 74 cs,Ab Aq Fa0 v0 x.1,Ab Aq Fa1 v1 x.2.1,Ab BQ Fa3 v3 x.2.2.2.1,Ab A0 Fa4 v4 x.2.2.2.2.1,Ab B6 Fa5 v5 x.2.2.2.2.2.1,Ab Ar Fa6 v6 x.2.2.2.2.2.2.1] g14
 obtain ⟨v7,e7,g16⟩:=Iw [A9 b 74 cs,Ab Aq Fa0 v0 x.1,Ab Aq Fa1 v1 x.2.1,Ab BQ Fa3 v3 x.2.2.2.1,Ab A0 Fa4 v4 x.2.2.2.2.1,Ab B6 Fa5 v5 x.2.2.2.2.2.1,Ab Ar Fa6 v6 x.2.2.2.2.2.2.1] g15
 obtain ⟨e8,g17⟩:=NF Cp [A9 b 74 cs,Ab Aq Fa0 v0 x.1,Ab Aq Fa1 v1 x.2.1,Ab BQ Fa3 v3 x.2.2.2.1,Ab A0 Fa4 v4 x.2.2.2.2.1,Ab B6 Fa5 v5 x.2.2.2.2.2.1,Ab Ar Fa6 v6 x.2.2.2.2.2.2.1,Ab Ar Fa7 v7 x.2.2.2.2.2.2.2.1] g16
 subst e0 e1 e2 e3 e4 e5 e6 e7 e8 hc7 hc6 hc5 hc4 hc3 hc2 hc1 hc0
 refine ⟨v0,Fa0,v1,Fa1,v3,Fa3,v4,Fa4,v5,Fa5,v6,Fa6,v7,Fa7,?_⟩
 exact g17
theorem DE {base:Nat} {w:Ag} {L:List Res} {b:Nat} {v0:Ac} {F0:An} {v1:Ac} {F1:An} {v3:Ac} {F3:An} {v4:Ac} {F4:An} {v5:Ac} {F5:An} {v6:Ac} {F6:An} {v7:Ac} {F7:An} {y0:Aev} {y1:Aev} {y2:Int} {y3:Aev} {y4:Aew} {y5:Aey} {y6:(List Int)} {y7:(List Int)} {y8:Int} (h:Sep base w (A9 b 74 [v0,v1,(.int .i64 y2),v3,v4,v5,v6,v7,(.int .i64 y8)] :: Ab Aq F0 v0 y0 :: Ab Aq F1 v1 y1 :: Ab BQ F3 v3 y3 :: Ab A0 F4 v4 y4 :: Ab B6 F5 v5 y5 :: Ab Ar F6 v6 y6 :: Ab Ar F7 v7 y7 :: L)):Sep base w (A3 B1 74 ([F0,F1,F3,F4,F5,F6,F7].flatten) b (y0,y1,y2,y3,y4,y5,y6,y7,y8) :: L):=by
 replace h:=MG Cp y8 [A9 b 74 _,Ab Aq F0 v0 y0,Ab Aq F1 v1 y1,Ab BQ F3 v3 y3,Ab A0 F4 v4 y4,Ab B6 F5 v5 y5,Ab Ar F6 v6 y6,Ab Ar F7 v7 y7] h
 replace h:=H1 [A9 b 74 _,Ab Aq F0 v0 y0,Ab Aq F1 v1 y1,Ab BQ F3 v3 y3,Ab A0 F4 v4 y4,Ab B6 F5 v5 y5,Ab Ar F6 v6 y6] h
 replace h:=DF [A9 b 74 _,Ab Aq F0 v0 y0,Ab Aq F1 v1 y1,Ab BQ F3 v3 y3,Ab A0 F4 v4 y4,Ab B6 F5 v5 y5,Ab Ar F6 v6 y6] h
 replace h:=H1 [A9 b 74 _,Ab Aq F0 v0 y0,Ab Aq F1 v1 y1,Ab BQ F3 v3 y3,Ab A0 F4 v4 y4,Ab B6 F5 v5 y5] h
 replace h:=DF [A9 b 74 _,Ab Aq F0 v0 y0,Ab Aq F1 v1 y1,Ab BQ F3 v3 y3,Ab A0 F4 v4 y4,Ab B6 F5 v5 y5] h
 replace h:=H1 [A9 b 74 _,Ab Aq F0 v0 y0,Ab Aq F1 v1 y1,Ab BQ F3 v3 y3,Ab A0 F4 v4 y4] h
 replace h:=DF [A9 b 74 _,Ab Aq F0 v0 y0,Ab Aq F1 v1 y1,Ab BQ F3 v3 y3,Ab A0 F4 v4 y4] h
 replace h:=H1 [A9 b 74 _,Ab Aq F0 v0 y0,Ab Aq F1 v1 y1,Ab BQ F3 v3 y3] h
 replace h:=DF [A9 b 74 _,Ab Aq F0 v0 y0,Ab Aq F1 v1 y1,Ab BQ F3 v3 y3] h
 replace h:=H1 [A9 b 74 _,Ab Aq F0 v0 y0,Ab Aq F1 v1 y1] h
 replace h:=DF [A9 b 74 _,Ab Aq F0 v0 y0,Ab Aq F1 v1 y1] h
 replace h:=MG Cp y2 [A9 b 74 _,Ab Aq F0 v0 y0,Ab Aq F1 v1 y1] h
 replace h:=DF [A9 b 74 _,Ab Aq F0 v0 y0,Ab Aq F1 v1 y1] h
 replace h:=H1 [A9 b 74 _,Ab Aq F0 v0 y0] h
 replace h:=DF [A9 b 74 _,Ab Aq F0 v0 y0] h
 replace h:=H1 [A9 b 74 _] h
 replace h:=DF [A9 b 74 _] h
 exact PX h (by simp)
def AU:Sh (Aev × Aev × Int × Aev × Aew × Aey):=(Sh.prod (Sh.slice Aq) (Sh.prod (Sh.slice Aq) (Sh.prod Ar.toSh (Sh.prod (Sh.slice BQ) (Sh.prod (Sh.slice A0) (Sh.slice B6))))))
theorem HP {base:Nat} {w:Ag} {L:List Res} {F:An} {b:Nat} {x:(Aev × Aev × Int × Aev × Aew × Aey)} (h:Sep base w (A3 AU 76 F b x :: L)):∃ (v0:Ac) (F0:An),∃ (v1:Ac) (F1:An),∃ (v3:Ac) (F3:An),∃ (v4:Ac) (F4:An),∃ (v5:Ac) (F5:An),Sep base w (A9 b 76 [v0,v1,(.int .i64 x.2.2.1),v3,v4,v5] :: Ab Aq F0 v0 x.1 :: Ab Aq F1 v1 x.2.1 :: Ab BQ F3 v3 x.2.2.2.1 :: Ab A0 F4 v4 x.2.2.2.2.1 :: Ab B6 F5 v5 x.2.2.2.2.2 :: L):=by
 obtain ⟨cs,g0⟩:=R1 h
 unfold AU at g0
 obtain ⟨a0,c0,Fa0,Fb0,hc0,hF0,g1⟩:=Er [A9 b 76 cs] g0
 obtain ⟨v0,e0,g2⟩:=Iw [A9 b 76 cs] g1
 obtain ⟨a1,c1,Fa1,Fb1,hc1,hF1,g3⟩:=Er [A9 b 76 cs,Ab Aq Fa0 v0 x.1] g2
 obtain ⟨v1,e1,g4⟩:=Iw [A9 b 76 cs,Ab Aq Fa0 v0 x.1] g3
 obtain ⟨a2,c2,Fa2,Fb2,hc2,hF2,g5⟩:=Er [A9 b 76 cs,Ab Aq Fa0 v0 x.1,Ab Aq Fa1 v1 x.2.1] g4
 obtain ⟨e2,g6⟩:=NF Cp [A9 b 76 cs,Ab Aq Fa0 v0 x.1,Ab Aq Fa1 v1 x.2.1] g5
 obtain ⟨a3,c3,Fa3,Fb3,hc3,hF3,g7⟩:=Er [A9 b 76 cs,Ab Aq Fa0 v0 x.1,Ab Aq Fa1 v1 x.2.1] g6
 obtain ⟨v3,e3,g8⟩:=Iw [A9 b 76 cs,Ab Aq Fa0 v0 x.1,Ab Aq Fa1 v1 x.2.1] g7
 obtain ⟨a4,c4,Fa4,Fb4,hc4,hF4,g9⟩:=Er [A9 b 76 cs,Ab Aq Fa0 v0 x.1,Ab Aq Fa1 v1 x.2.1,Ab BQ Fa3 v3 x.2.2.2.1] g8
 obtain ⟨v4,e4,g10⟩:=Iw [A9 b 76 cs,Ab Aq Fa0 v0 x.1,Ab Aq Fa1 v1 x.2.1,Ab BQ Fa3 v3 x.2.2.2.1] g9
 obtain ⟨v5,e5,g11⟩:=Iw [A9 b 76 cs,Ab Aq Fa0 v0 x.1,Ab Aq Fa1 v1 x.2.1,Ab BQ Fa3 v3 x.2.2.2.1,Ab A0 Fa4 v4 x.2.2.2.2.1] g10
 subst e0 e1 e2 e3 e4 e5 hc4 hc3 hc2 hc1 hc0
 refine ⟨v0,Fa0,v1,Fa1,v3,Fa3,v4,Fa4,v5,Fb4,?_⟩
 exact g11
theorem Dt {base:Nat} {w:Ag} {L:List Res} {b:Nat} {v0:Ac} {F0:An} {v1:Ac} {F1:An} {v3:Ac} {F3:An} {v4:Ac} {F4:An} {v5:Ac} {F5:An} {y0:Aev} {y1:Aev} {y2:Int} {y3:Aev} {y4:Aew} {y5:Aey} (h:Sep base w (A9 b 76 [v0,v1,(.int .i64 y2),v3,v4,v5] :: Ab Aq F0 v0 y0 :: Ab Aq F1 v1 y1 :: Ab BQ F3 v3 y3 :: Ab A0 F4 v4 y4 :: Ab B6 F5 v5 y5 :: L)):Sep base w (A3 AU 76 ([F0,F1,F3,F4,F5].flatten) b (y0,y1,y2,y3,y4,y5) :: L):=by
 replace h:=H1 [A9 b 76 _,Ab Aq F0 v0 y0,Ab Aq F1 v1 y1,Ab BQ F3 v3 y3,Ab A0 F4 v4 y4] h
 replace h:=H1 [A9 b 76 _,Ab Aq F0 v0 y0,Ab Aq F1 v1 y1,Ab BQ F3 v3 y3] h
 replace h:=DF [A9 b 76 _,Ab Aq F0 v0 y0,Ab Aq F1 v1 y1,Ab BQ F3 v3 y3] h
 replace h:=H1 [A9 b 76 _,Ab Aq F0 v0 y0,Ab Aq F1 v1 y1] h
 replace h:=DF [A9 b 76 _,Ab Aq F0 v0 y0,Ab Aq F1 v1 y1] h
 replace h:=MG Cp y2 [A9 b 76 _,Ab Aq F0 v0 y0,Ab Aq F1 v1 y1] h
 replace h:=DF [A9 b 76 _,Ab Aq F0 v0 y0,Ab Aq F1 v1 y1] h
 replace h:=H1 [A9 b 76 _,Ab Aq F0 v0 y0] h
 replace h:=DF [A9 b 76 _,Ab Aq F0 v0 y0] h
 replace h:=H1 [A9 b 76 _] h
 replace h:=DF [A9 b 76 _] h
 exact PX h (by simp)
def Cd:Sh ((List Aex) × Int × (List Int)):=(Sh.prod (Sh.slice C2) (Sh.prod Ar.toSh (Sh.arr iv 0 900 (fun _=>rfl))))
theorem NY {base:Nat} {w:Ag} {L:List Res} {F:An} {b:Nat} {x:((List Aex) × Int × (List Int))} (h:Sep base w (A3 Cd 198 F b x :: L)):∃ (v0:Ac) (F0:An),List.length x.2.2 = 900 ∧ Sep base w (A9 b 198 ([v0,(.int .i64 x.2.1)] ++ ((MI x.2.2) ++ [])) :: Ab C2 F0 v0 x.1 :: L):=by
 obtain ⟨cs,g0⟩:=R1 h
 unfold Cd at g0
 obtain ⟨a0,c0,Fa0,Fb0,hc0,hF0,g1⟩:=Er [A9 b 198 cs] g0
 obtain ⟨v0,e0,g2⟩:=Iw [A9 b 198 cs] g1
 obtain ⟨a1,c1,Fa1,Fb1,hc1,hF1,g3⟩:=Er [A9 b 198 cs,Ab C2 Fa0 v0 x.1] g2
 obtain ⟨e1,g4⟩:=NF Cp [A9 b 198 cs,Ab C2 Fa0 v0 x.1] g3
 obtain ⟨-,e2,hn2,g5⟩:=Wk [A9 b 198 cs,Ab C2 Fa0 v0 x.1] g4
 subst e0 e1 e2 hc1 hc0
 refine ⟨v0,Fa0,hn2,?_⟩
 rw [List.append_nil]
 exact g5
theorem Iu {base:Nat} {w:Ag} {L:List Res} {b:Nat} {v0:Ac} {F0:An} {y0:(List Aex)} {y1:Int} {y2:(List Int)} (hn2:List.length y2 = 900) (h:Sep base w (A9 b 198 ([v0,(.int .i64 y1)] ++ ((MI y2) ++ [])) :: Ab C2 F0 v0 y0 :: L)):Sep base w (A3 Cd 198 ([F0].flatten) b (y0,y1,y2) :: L):=by
 rw [List.append_nil] at h
 replace h:=Vi (f:=iv) (z:=0) (h1:=fun _=>rfl) y2 hn2 [A9 b 198 _,Ab C2 F0 v0 y0] h
 replace h:=MG Cp y1 [A9 b 198 _,Ab C2 F0 v0 y0] h
 replace h:=DF [A9 b 198 _,Ab C2 F0 v0 y0] h
 replace h:=H1 [A9 b 198 _] h
 replace h:=DF [A9 b 198 _] h
 exact PX h (by simp)
def CB:Sh Aez:=(Sh.prod (Sh.arr Value.bool false 900 (fun _=>rfl)) (Sh.prod Ar.toSh (Sh.prod (Sh.slicen Ar) Ar.toSh)))
theorem NX {base:Nat} {w:Ag} {L:List Res} {F:An} {b:Nat} {x:Aez} (h:Sep base w (A3 CB 212 F b x :: L)):∃ (v2:Ac) (F2:An),List.length x.1 = 900 ∧ (x.2.2.1 = [] → v2 = .slice none 0 0) ∧ Sep base w (A9 b 212 ((IX x.1) ++ [(.int .i64 x.2.1),v2,(.int .i64 x.2.2.2)]) :: Ab Ar F2 v2 x.2.2.1 :: L):=by
 obtain ⟨cs,g0⟩:=R1 h
 unfold CB at g0
 obtain ⟨a0,c0,Fa0,Fb0,hc0,hF0,g1⟩:=Er [A9 b 212 cs] g0
 obtain ⟨-,e0,hn0,g2⟩:=Wk [A9 b 212 cs] g1
 obtain ⟨a1,c1,Fa1,Fb1,hc1,hF1,g3⟩:=Er [A9 b 212 cs] g2
 obtain ⟨e1,g4⟩:=NF Cp [A9 b 212 cs] g3
 obtain ⟨a2,c2,Fa2,Fb2,hc2,hF2,g5⟩:=Er [A9 b 212 cs] g4
 obtain ⟨v2,e2,hn2,g6⟩:=Abj [A9 b 212 cs] g5
 obtain ⟨e3,g7⟩:=NF Cp [A9 b 212 cs,Ab Ar Fa2 v2 x.2.2.1] g6
 subst e0 e1 e2 e3 hc2 hc1 hc0
 refine ⟨v2,Fa2,hn0,hn2,?_⟩
 exact g7
theorem JX {base:Nat} {w:Ag} {L:List Res} {b:Nat} {v2:Ac} {F2:An} {y0:(List Bool)} {y1:Int} {y2:(List Int)} {y3:Int} (hn0:List.length y0 = 900) (hn2:(y2 = [] → v2 = .slice none 0 0)) (h:Sep base w (A9 b 212 ((IX y0) ++ [(.int .i64 y1),v2,(.int .i64 y3)]) :: Ab Ar F2 v2 y2 :: L)):Sep base w (A3 CB 212 ([F2].flatten) b (y0,y1,y2,y3) :: L):=by
 replace h:=MG Cp y3 [A9 b 212 _,Ab Ar F2 v2 y2] h
 replace h:=Aaj hn2 [A9 b 212 _] h
 replace h:=DF [A9 b 212 _] h
 replace h:=MG Cp y1 [A9 b 212 _] h
 replace h:=DF [A9 b 212 _] h
 replace h:=Vi (f:=Value.bool) (z:=false) (h1:=fun _=>rfl) y0 hn0 [A9 b 212 _] h
 replace h:=DF [A9 b 212 _] h
 exact PX h (by simp)
theorem IY:Fu Tryz.prog 74 0 0 = true:=by kernel_rfl
theorem Um:Fu Tryz.prog 74 1 1 = true:=by kernel_rfl
theorem Ul:Fu Tryz.prog 74 2 2 = true:=by kernel_rfl
theorem Uk:Fu Tryz.prog 74 3 3 = true:=by kernel_rfl
theorem Uj:Fu Tryz.prog 74 4 4 = true:=by kernel_rfl
theorem R9:Fu Tryz.prog 74 5 5 = true:=by kernel_rfl
theorem XJ:Fu Tryz.prog 74 6 6 = true:=by kernel_rfl
theorem XI:Fu Tryz.prog 74 7 7 = true:=by kernel_rfl
theorem Abl:Fu Tryz.prog 74 8 8 = true:=by kernel_rfl
theorem HR:Fu Tryz.prog 76 0 0 = true:=by kernel_rfl
theorem R8:Fu Tryz.prog 76 1 1 = true:=by kernel_rfl
theorem R7:Fu Tryz.prog 76 2 2 = true:=by kernel_rfl
theorem Ui:Fu Tryz.prog 76 3 3 = true:=by kernel_rfl
theorem Uh:Fu Tryz.prog 76 4 4 = true:=by kernel_rfl
theorem R6:Fu Tryz.prog 76 5 5 = true:=by kernel_rfl
theorem CK:Fu Tryz.prog 79 0 0 = true:=by kernel_rfl
theorem CJ:Fu Tryz.prog 79 1 1 = true:=by kernel_rfl
theorem KA:Fu Tryz.prog 82 0 0 = true:=by kernel_rfl
theorem NJ:Fu Tryz.prog 82 1 1 = true:=by kernel_rfl
theorem K1:Fu Tryz.prog 87 0 0 = true:=by kernel_rfl
theorem K0:Fu Tryz.prog 87 1 1 = true:=by kernel_rfl
theorem Kz:Fu Tryz.prog 87 2 2 = true:=by kernel_rfl
theorem J7:Fu Tryz.prog 125 0 0 = true:=by kernel_rfl
theorem HY:Fu Tryz.prog 125 1 1 = true:=by kernel_rfl
theorem DD:Fu Tryz.prog 125 2 2 = true:=by kernel_rfl
theorem GV:Fu Tryz.prog 125 3 3 = true:=by kernel_rfl
theorem E1:Fu Tryz.prog 128 0 0 = true:=by kernel_rfl
theorem KX:Fu Tryz.prog 128 1 1 = true:=by kernel_rfl
theorem KW:Fu Tryz.prog 128 2 2 = true:=by kernel_rfl
theorem G3:Fu Tryz.prog 128 3 3 = true:=by kernel_rfl
theorem FA:Fu Tryz.prog 187 0 0 = true:=by kernel_rfl
theorem Gz:Fu Tryz.prog 187 1 2 = true:=by kernel_rfl
theorem HX:Fu Tryz.prog 187 2 4 = true:=by kernel_rfl
theorem S5:Fu Tryz.prog 198 0 0 = true:=by kernel_rfl
theorem Aah:Fu Tryz.prog 198 1 1 = true:=by kernel_rfl
theorem S4:Fu Tryz.prog 198 2 2 = true:=by kernel_rfl
theorem W6:Fu Tryz.prog 212 0 0 = true:=by kernel_rfl
theorem Aag:Fu Tryz.prog 212 1 900 = true:=by kernel_rfl
theorem S3:Fu Tryz.prog 212 2 901 = true:=by kernel_rfl
theorem S0:Fu Tryz.prog 212 3 902 = true:=by kernel_rfl
theorem Adq:HO Tryz.prog 74 [(0,1),(1,1),(2,1),(3,1),(4,1),(5,1),(6,1),(7,1),(8,1)] = true:=by kernel_rfl
theorem Adp:HO Tryz.prog 76 [(0,1),(1,1),(2,1),(3,1),(4,1),(5,1)] = true:=by kernel_rfl
theorem L9:HO Tryz.prog 79 [(0,1),(1,1)] = true:=by kernel_rfl
theorem VA:HO Tryz.prog 82 [(0,1),(1,1)] = true:=by kernel_rfl
theorem V9:HO Tryz.prog 87 [(0,1),(1,1),(2,1)] = true:=by kernel_rfl
theorem YY:HO Tryz.prog 125 [(0,1),(1,1),(2,1),(3,1)] = true:=by kernel_rfl
theorem Ps:HO Tryz.prog 128 [(0,1),(1,1),(2,1),(3,1)] = true:=by kernel_rfl
theorem YX:HO Tryz.prog 187 [(0,2),(2,2),(4,1)] = true:=by kernel_rfl
theorem Acl:HO Tryz.prog 198 [(0,1),(1,1),(2,900)] = true:=by kernel_rfl
theorem Ack:HO Tryz.prog 212 [(0,900),(900,1),(901,1),(902,1)] = true:=by kernel_rfl
theorem Aa5 (x y:(Int × Int)) (w:Ag):(Op.equalIn 10000 79 (.agg #[(.int .i64 x.1),(.int .i64 x.2)]) (.agg #[(.int .i64 y.1),(.int .i64 y.2)])).run Tryz.prog w = .ok (ME x y) w:=by
 go_simp
 by_cases h0:x.1 = y.1 <;> by_cases h1:x.2 = y.2 <;> simp [ME,h0,h1]
theorem Aec:Opn Tryz.prog 9 C5.rd (Adg WR):=Ya Tryz.underlying9
end
end Go.Proofs.YtellehgihceicaaGreatDoor
