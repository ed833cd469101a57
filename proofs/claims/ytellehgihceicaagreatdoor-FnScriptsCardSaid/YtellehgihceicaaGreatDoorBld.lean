/-
 strings.Builder: copyCheck, WriteString, String (the builder's own block, and its bytes, owned). Numbers are the seat's.
-/
import Derived.Test.YtellehgihceicaaGreatDoorH
import Derived.Test.YtellehgihceicaaGreatDoorShelf
import Derived.Lib.AppendIntMem
import Derived.Lib.SmallJoins
import Derived.Lib.Builder
import Derived.Lib.AppendStr
import Derived.Lib.UnsafeStr
import Derived.Laws.Externs
import Derived.Laws.Pointers
set_option linter.unusedVariables false
set_option linter.unusedSimpArgs false
set_option maxHeartbeats 1600000
set_option maxRecDepth 100000
namespace Go.Proofs.YtellehgihceicaaGreatDoor
open Go Go.RowKit
section
variable {P:Program} {α:Type} {n:Nat} {ds:List (Ae Tmp)} {d:Nat} {T U TB:TypeId} {pos:String} {af:Array Edge} {rest:List Oper} {x y z:Operand} {σ:EY} {w w0:Af} {Q:Exit→Act→Af→Prop} {L M:List Res} {base:Nat}
theorem Yc{p:Ae Addr}(m:P.underlying T=some (.pointer (P.pointee T)))(g:Nat.blt d n=true)(l:B5 σ x=some (.pointer p))(f:B5 σ y=some (.pointer none))(h:WL P n ds rest ((d,.bool p.isNone)::σ) w Q) :
  WL P n ds (⟨some d,.binOp .eql T x y U,TB,pos,af,none⟩::rest) σ w Q :=
 C6 g (fun ρ e=>by simp [execOp,e _ _ l,e _ _ f,eqGuard,run_eql_pointer_nil _ T p m]) h
theorem Aaz{a:Addr}{f:TypeId}{j:TypeInfo}(u:P.underlying T=some (.pointer f))(s:P.info? f=some j)(l:Nat.blt d n=true)(m:B5 σ x=some (.pointer (some a)))(g:B5 σ y=some (.pointer (some a)))(h:WL P n ds rest ((d,.bool false)::σ) w Q) :
  WL P n ds (⟨some d,.binOp .neq T x y U,TB,pos,af,none⟩::rest) σ w Q :=
 C6 l (fun ρ e=>by simp [execOp,e _ _ m,e _ _ g,eqGuard,Lib.run_neq_ptr_same w a u s]) h
theorem Ad3{b:Nat}{f e:Ac}{i:Nat}(l:Sep base w L)(g:Ey L i=some (Av b T [f,e])):w.shape? b=some (T,2):=by
 have h:w.heap[b]? = some (.cells [f,e].toArray T (0,0)):=l.ok g
 simp [World.shape?,h]
theorem Z6{a:Addr}{t e:TypeId}{j:TypeInfo}{f:Nat}(g:P.underlying T=some (.pointer t))(hd:P.underlying U=some .unsafePointer)(v:P.info? t=some j)(hj:j.size≠0)(ab:w.shape? a.block=some (e,f))(s:a.off<f)
  (m:Nat.blt d n=true) (u:B5 σ x=some (.pointer (some a))) (h:WL P n ds rest ((d,.pointer (some a))::σ) w Q):WL P n ds (⟨some d,.convert T U x,TB,pos,af,none⟩::rest) σ w Q :=
 C6 m (fun ρ l=>by simp [execOp,l _ _ u,Lib.run_to_unsafe w a g hd v hj ab s]) h
theorem X6{a:Addr}{u e:TypeId}{j:TypeInfo}{f:Nat}(g:P.underlying T=some .unsafePointer)(v:P.underlying U=some (.pointer u))(hu:P.info? u=some j)(ab:w.shape? a.block=some (e,f))(hl:liesAt P P.depth e (f / P.cellsOf e) a.off u 1=true)
  (m:Nat.blt d n=true) (s:B5 σ x=some (.pointer (some a))) (h:WL P n ds rest ((d,.pointer (some a))::σ) w Q):WL P n ds (⟨some d,.convert T U x,TB,pos,af,none⟩::rest) σ w Q :=
 C6 m (fun ρ l=>by simp [execOp,l _ _ s,Lib.run_from_unsafe w a g v hu ab hl]) h
theorem UD{t u m e:TypeId}{i:TypeInfo}(ht:P.underlying t=some (.slice e))(hu:P.underlying u=some .string)(hi:P.info? e=some i)(hz:i.zero=some (.int .u8 0))(ae:i.size=1)(ah:i.bytes=1)
  {v l:Ac} {n:Nat} {h:List Ac} (aa:w.ownsRow base e 1 v n h) {s:ByteArray} (ar:n+s.size≤140737488355328) {w':Af} (f:(Builtin.append_ #[t,u] m #[v,.string s]).run P w=.ok l w') (ao:l=.slice none 0 0↔v=.slice none 0 0∧s.size=0) :
  l.ownBlock=v.ownBlock∨l.ownBlock=some w.heap.size:=by
 have am:h.length=n:=by simpa using aa.1
 rcases aa.2 with ⟨rfl,rfl⟩|⟨g,cap,an,rfl,av,hg,ap,aw,au,aq⟩
 by_cases hm:s.size=0
 left; rw [ao.2 ⟨rfl,hm⟩]
 right
 rw [run_append_nil_string w t u m e i (.int .u8 0) ht hu hi hz s (by omega) (by omega) (by rw [ah]; omega)] at f
 injection f with h1 _
 rw [← h1]; rfl
 by_cases ai:n+s.size≤cap
 left
 rw [Lib.run_append_room_string w t u m e i ht hu hi ae g n cap an hg s ai (by omega)] at f
 injection f with h1 _
 rw [← h1]; rfl
 right
 have al:∀ j u,h[j]? = some u→w.cell? ((⟨g,0,none⟩:Addr).add j)=some u:=aa.cells (g:=g) rfl
 rw [Lib.run_append_grow_string w t u m e i (.int .u8 0) ht hu hi hz ⟨g,0,none⟩ n cap h (by rw [ae]; simpa using am) al s (by omega) (by omega) (by rw [ah]; exact growslice_fits (by omega) (by omega))] at f
 injection f with h1 _
 rw [← h1]; rfl
theorem SP{f:Int→List Ac}(e:∀ x,f x=[.int .u8 x]):∀ s:List Ag,s.map (fun b=>Value.int .u8 (b.toNat:Int))=((Lt s).map f).flatten
 | []=>rfl
 | a::s=>by
  have:=SP e s
  unfold Lt at this ⊢
  simp only [List.map_cons,List.flatten_cons,e,List.singleton_append,this]
theorem Yd{e:Ty P Int}{f:Int→List Ac}(hf:Flat e f)(bc:∀ x,f x=[.int .u8 x])(ai:e.sz=1){ah:TypeInfo}(hi:P.info? e.tid=some ah)(hz:ah.zero=some (.int .u8 0))(az:ah.size=1)(a8:ah.bytes=1)
  {V:TypeId} {F:Ap} {v:Ac} {l r:List Int} {s:List Ag} {i:Nat} (hu:P.underlying U=some (.slice e.tid)) (hV:P.underlying V=some .string) (hn:Nat.blt d n=true)
  (hx:B5 σ x=some v) (hy:B5 σ y=some (.string (AL s))) (hB:Below w0.heap.size w0 w) (hS:Sep w0.heap.size w L) (hg:Ey L i=some (Ab e F v l)) (ak:bwr l s=some r)
  (h:∀ v' F' w',(w.heap.size≤w'.heap.size∧(∀ b,b<w.heap.size→b ∉ F→w'.heap[b]? = w.heap[b]?)∧∀ b ∈ F',b ∈ F∨w.heap.size≤b)→Below w0.heap.size w0 w'→Sep w0.heap.size w' (N2 L i (Ab e F' v' r))→WL P n ds rest ((d,v')::σ) w' Q) :
  WL P n ds (⟨some d,.call ⟨.builtin .append,#[x,y],#[U,V]⟩,T,pos,af,none⟩::rest) σ w Q:=by
 unfold bwr at ak
 split at ak
 rename_i a6
 cases ak
 have ho:ownS e F w v l:=hS.ok hg
 have bi:=fun x=>hf.len w x
 have av:w.ownsRow w0.heap.size e.tid 1 v l.length (l.map f).flatten:=by
  refine ⟨by rw [Og f e.sz bi l,ai],?_⟩
  rcases (HU hf).1 ho with ⟨h1,m,h3⟩|⟨g,cap,an,h1,m,h3,h4,h5,h6,h7⟩
  exact .inl ⟨h1,by rw [m]; rfl⟩
  rw [ai] at h5 h6
  exact .inr ⟨g,cap,an,h1,((hS.get hg).2.1 g (by show g ∈ F; rw [h7]; simp)).1,m,h3,h4,h5,h6⟩
 have al:(AL s).size=s.length:=by simp [AL,ByteArray.size]
 have au:∀ k,v.ownBlock=some k→k ∈ F:=by
  intro k hk
  rcases (HU hf).1 ho with ⟨h1,m,h3⟩|⟨g,cap,an,h1,m,h3,h4,h5,h6,h7⟩
  rw [h1] at hk; cases hk
  rw [h1] at hk
  simp [Value.ownBlock] at hk
  rw [h7,← hk]; simp
 obtain ⟨v',w',aw,a4,ao,bg⟩:=Lib.run_append_own_string w w0.heap.size U V T e.tid ah hu hV hi hz az a8 v l.length _ av (AL s) (by rw [al]; simp only [maxLen]; omega) (by rw [al]; exact a6) hB.size
 have bd:=UD hu hV hi hz az a8 av (by rw [al]; exact a6) aw bg
 have a9:(l.map f).flatten++Lib.strCells (AL s)=((l++Lt s).map f).flatten:=by
  rw [List.map_append,List.flatten_append]
  rw [← SP bc s]
  rfl
 rw [a9,al] at a4
 have aj:(l++Lt s).length=l.length+s.length:=by simp [Lt]
 obtain ⟨F',bk,bl,hF⟩:∃ F',ownS e F' w' v' (l++Lt s)∧F'.Nodup∧∀ b ∈ F',b ∈ F∨(w.heap.size≤b∧b<w'.heap.size):=by
  rcases a4.2 with ⟨h1,m⟩|⟨g,cap,an,h1,bm,m,h3,h4,h5,h6⟩
  have:l++Lt s=[]:=List.eq_nil_of_length_eq_zero (by rw [aj]; exact m)
  exact ⟨[],(HU hf).2 (.inl ⟨h1,this,rfl⟩),.nil,fun b u=>by cases u⟩
  refine ⟨[g],(HU hf).2 (.inr ⟨g,cap,an,by rw [aj]; exact h1,m,by rw [aj]; exact h3,h4,by rw [ai]; exact h5,by rw [aj,ai]; exact h6,rfl⟩),by simp,fun b u=>?_⟩
  rw [List.mem_singleton] at u
  subst u
  rcases bd with h|h
  exact .inl (au b (by rw [← h,h1]; rfl))
  rw [h1] at h
  simp [Value.ownBlock] at h
  exact .inr ⟨by omega,(Array.getElem?_eq_some_iff.1 m).1⟩
 obtain ⟨bj,bb⟩:=Xi hS hg hB bk ao bl hF au
 exact C6 hn (fun ρ hρ=>by simp [execOp,resolve,invoke,builtin,hρ _ _ hx,hρ _ _ hy,aw]) (h v' F' w' ⟨ao.size,fun b ba u=>ao.block b ba fun e=>u (au b e.symm),fun b u=>(hF b u).imp id fun h=>h.1⟩ bj bb)
 cases ak
end

theorem Zj:TF Tryz.prog 64 1 false (.pointer none):=⟨Tryz.sizeOf64,Tryz.isAgg64,Tryz.zeroValue64,by decide,by decide⟩
theorem Ab1:Fo Tryz.prog 66 0 0=true:=by kernel_rfl
theorem Agf:Fo Tryz.prog 66 1 1=true:=by kernel_rfl
theorem Sx(w0:Af)(b:Nat)(p v:Ac)(hp:p=.pointer none∨p=.pointer (some ⟨b,0,none⟩))(aa:Sep 0 w0 [Av b 66 [p,v]])(h1:Ones [v]) :
 Calls Tryz.prog 67 [(.pointer (some ⟨b,0,none⟩))].toArray w0 fun e w'=>e=.returned (R4 [])∧Below 0 (wE w0) w'∧Sep 0 w' [A5 w0 (AP [Av b 66 [p,v]]),Av b 66 [.pointer (some ⟨b,0,none⟩),v]]:=by
 refine Jr Tryz.func67 rfl Tryz.ntmps67 rfl rfl fun Q m hQ hP=>?_
 have u:Below (wE w0).heap.size (wE w0) w0:=Dp w0
 have g:Sep (wE w0).heap.size w0 [A5 w0 (AP [Av b 66 [p,v]]),Av b 66 [p,v]]:=aa.rest
 have l:=Ad3 (i:=1) g rfl
 refine RN fun K1 s=>Aq (LE rfl rfl (B4 rfl rfl (NW (o:=0) (off':=0) Ab1 rfl rfl rfl (KI (i:=1) (vs:=[p]) (v:=p) Zj rfl rfl g rfl rfl rfl ?_))))
 rcases hp with rfl|rfl
 refine Yc (p:=none) Tryz.underlying64 rfl rfl rfl (Ai fun a f=>s _ _ (SZ rfl (fun _=>?_) (fun h=>by cases h)) a f)
 refine Aq (LE rfl rfl (LE rfl rfl (Z6 (a:=⟨b,0,none⟩) Tryz.underlying64 Tryz.underlying115 Tryz.type66 (by decide) l (Nat.zero_lt_succ 1) rfl rfl ?_)))
 refine Yb (vs:=[.pointer (some ⟨b,0,none⟩)]) (v:=.pointer (some ⟨b,0,none⟩)) (e:=Extern.AbiNoEscape.same) rfl Tryz.func87 rfl rfl (by kernel_rfl) (by kernel_rfl) rfl (Lib.run_noEscape _ _) ?_
 refine X6 (a:=⟨b,0,none⟩) Tryz.underlying115 Tryz.underlying64 Tryz.type66 l (by kernel_rfl) rfl rfl ?_
 refine B4 rfl rfl (NW (o:=0) (off':=0) Ab1 rfl rfl rfl (BG (i:=1) (vs:=[.pointer (some ⟨b,0,none⟩)]) (cs':=[.pointer (some ⟨b,0,none⟩),v]) Zj rfl rfl rfl rfl u g rfl rfl ⟨rfl,trivial⟩ rfl ?_))
 intro w1 hk ac ab
 exact Ai (Nw (vs:=[]) m rfl trivial ⟨rfl,ac,ab⟩)
 refine Yc (p:=some ⟨b,0,none⟩) Tryz.underlying64 rfl rfl rfl (Ai fun a f=>s _ _ (SZ rfl (fun h=>by cases h) (fun _=>?_)) a f)
 refine RN fun K2 ae=>Aq (LE rfl rfl (B4 rfl rfl (NW (o:=0) (off':=0) Ab1 rfl rfl rfl (KI (i:=1) (vs:=[.pointer (some ⟨b,0,none⟩)]) (v:=.pointer (some ⟨b,0,none⟩)) Zj rfl rfl g rfl rfl rfl ?_))))
 refine LE rfl rfl (Aaz (a:=⟨b,0,none⟩) Tryz.underlying64 Tryz.type66 rfl rfl rfl (Ai fun a f=>ae _ _ (SZ rfl (fun h=>by cases h) (fun _=>?_)) a f))
 exact Au (Nw (vs:=[]) m rfl trivial ⟨rfl,u,g⟩)
theorem Ad1:TF Tryz.prog 46 1 false (.slice none 0 0):=⟨Tryz.sizeOf46,Tryz.isAgg46,Tryz.zeroValue46,by decide,by decide⟩
theorem R0(w0:Af)(b:Nat)(p v:Ac)(hp:p=.pointer none∨p=.pointer (some ⟨b,0,none⟩))(F:Ap)(l:List Int)(s:List Ag)(ag:Sep 0 w0 [Av b 66 [p,v],Ab H2 F v l])(u:List Int)(hu:bwr l s=some u) :
 Calls Tryz.prog 48 [(.pointer (some ⟨b,0,none⟩)),(.string (AL s))].toArray w0 fun e w'=>e=.returned (R4 [.int .i64 (s.length:Int),.nilIface])∧Below 0 (wE w0) w' ∧
  ∃ g F',Sep 0 w' [A5 w0 (AP [Av b 66 [p,v],Ab H2 F v l]),Av b 66 [.pointer (some ⟨b,0,none⟩),g],Ab H2 F' g u]∧w0.heap.size≤w'.heap.size:=by
 refine Ek Tryz.func48 rfl Tryz.ntmps48 rfl rfl fun Q hQ hP=>?_
 have hB:Below (wE w0).heap.size (wE w0) w0:=Dp w0
 have h:Sep (wE w0).heap.size w0 [A5 w0 (AP [Av b 66 [p,v],Ab H2 F v l]),Av b 66 [p,v],Ab H2 F v l]:=ag.rest
 have aw:(AL s).size=s.length:=by simp [AL,ByteArray.size]
 refine RN fun K1 ap=>Aq (Qf rfl rfl (Qf rfl rfl (Ai fun a f=>ap _ _ (RN fun K2 ak=>?_) a f)))
 refine Aq (LE rfl rfl (A7 rfl Tryz.call67 (Sx w0 b p v hp (h.sel [1] rfl).base0 (by exact ⟨((h.own_ro (i:=2) rfl).one),trivial⟩)) rfl ?_))
 rintro _ w1 ⟨rfl,ad,aa⟩
 refine ⟨_,rfl,?_⟩
 have ao:=h.takeB [1] rfl (M:=[Av b 66 [p,v]]) rfl hB ad aa
 have ab:Sep (wE w0).heap.size w1 [Av b 66 [.pointer (some ⟨b,0,none⟩),v],A5 w0 (AP [Av b 66 [p,v],Ab H2 F v l]),Ab H2 F v l]:=h.take [1] [0,2] rfl (M:=[Av b 66 [p,v]]) rfl aa hB.size
 refine Ai fun a f=>ak _ _ (RN fun K3 aq=>?_) a f
 refine Aq (LE rfl rfl (LE rfl rfl (B4 rfl rfl (NW (o:=1) (off':=1) Agf rfl rfl rfl (KI (i:=0) (vs:=[v]) (v:=v) Ad1 rfl rfl ab rfl rfl rfl (LE rfl rfl ?_))))))
 refine Yd (i:=2) RH (fun _=>rfl) rfl Tryz.type5 rfl rfl rfl Tryz.underlying46 Tryz.underlying9 rfl rfl rfl ao ab rfl hu ?_
 intro g F' w2 hk ae m
 refine B4 rfl rfl (NW (o:=1) (off':=1) Agf rfl rfl rfl (BG (i:=0) (vs:=[g]) (cs':=[.pointer (some ⟨b,0,none⟩),g]) Ad1 rfl rfl (Ch (m.own_ro (i:=2) rfl).one) rfl ae m rfl rfl ⟨(m.own_ro (i:=2) rfl).one,trivial⟩ rfl ?_))
 intro w3 aj au ar
 refine Ai fun a f=>aq _ _ (RN fun K4 av=>?_) a f
 refine Aq (LE rfl rfl (Dl Tryz.underlying9 rfl rfl (Qf rfl rfl (Qf rfl rfl (Ai fun a f=>av _ _ (Aw ?_) a f)))))
 exact JU (vs:=[.int .i64 (s.length:Int),.nilIface]) hQ rfl ⟨Kr rfl,Kr rfl,trivial⟩ ⟨rfl,au,g,F',ar.sel [1,0,2] rfl,Az (Afq aa).1 (Az hk.1 aj.1)⟩
def Tab (w:Af):Prop:=Lib.TabIs Tryz.prog w "internal/strconv.uint64pow10" .u64 Lib.pow10Tab
theorem Tab.st{w0 w:Af}(h:Tab w0)(e:Below w0.heap.size w0 w):Tab w:=Lib.tabBelow_of_tabIs h w e
theorem Tab.keep{w0 w:Af}(h:Tab w0)(l:∀ b,b<w0.heap.size→w.heap[b]? = w0.heap[b]?):Tab w:=by
 unfold Tab Lib.TabIs World.var? at *
 cases f:Tryz.prog.globalNamed "internal/strconv.uint64pow10" with
 | none=>simp [f] at h
 | some g =>
  simp only [f,Aa] at h ⊢
  have m:g<w0.heap.size:=by
   rcases Nat.lt_or_ge g w0.heap.size with e|e
   exact e
   rw [Array.getElem?_eq_none e] at h; simp at h
  rw [l g m]
  exact h
def TabX(w0:Af)(X:Ap):Prop:=∀ w:Af,(∀ b,b<w0.heap.size→b ∉ X→w.heap[b]? = w0.heap[b]?)→Tab w
theorem TabX.of{w0 w:Af}{M:List Res}(h:Tab w0)(f:Below w0.heap.size w0 w)(l:Sep w0.heap.size w M):TabX w (AP M):=fun w' s=>h.keep fun b g=>by
 rw [s b (Nat.lt_of_lt_of_le g f.size) fun e=>?_,f.block b g]
 obtain ⟨r,m,e⟩:=J1.1 e
 have:=((l.1 r m).2.1 b e).1
 omega
theorem Rp(w0:Af)(f:List (List Ag))(v:Ac)(F:Ap)(ho:ownS BK F w0 v f)(x1 r:List Ag)(m:J5 f x1=some r) :
  Calls Tryz.prog 176 [v,.string (AL x1)].toArray w0 fun e w'=>e=.returned (.string (AL r))∧Below w0.heap.size w0 w':=by
 unfold J5 at m
 split at m
 rename_i hc
 cases m
 have hr:=ho.rd
 rcases ho with ⟨rfl,rfl,rfl⟩|⟨g,cap,au,css,Fs,rfl,hg,hl,aw,ax,ht,hz,rfl⟩
 refine (Tryz.strings_Join_none none 0 (AL x1) w0).mono ?_
 rintro e w' ⟨rfl,rfl⟩
 exact ⟨rfl,Below.refl _ _⟩
 have e1:((f.map AL).map (·.data.toList))=f:=by
  rw [List.map_map]
  conv=>rhs; rw [← List.map_id f]
  refine List.map_congr_left fun a _=>?_
  simp [AL]
 have ak:g<w0.heap.size:=by
  rcases Nat.lt_or_ge g w0.heap.size with u|u
  exact u
  rw [Array.getElem?_eq_none u] at hg; cases hg
 have ah:∀(j:Nat) x,(f.map AL)[j]? = some x→w0.cell? ⟨g,0+j,none⟩=some (.string x):=fun j x hx=>by
  rw [List.getElem?_map,Option.map_eq_some_iff] at hx
  obtain ⟨y,s,rfl⟩:=hx
  obtain ⟨a,c,h1,_,l⟩:=hr
  rcases l with l|⟨ad,l,h3⟩
  rw [l] at s; simp at s
  rw [l] at h1
  simp only [Value.slice.injEq,Option.some.injEq] at h1
  obtain ⟨_,cs,am,ap⟩:=h3 j y s
  have ai:=Gl.rd am
  have:=ap 0 (.string (AL y)) (by rw [ai]; rfl)
  rw [← h1.1] at this
  rw [show (BK).sz=1 from rfl,Nat.mul_one,Addr.add_lit,Addr.add_lit,Nat.add_zero] at this
  exact this
 have h:=Tryz.strings_Join g 0 cap (f.map AL) (AL x1) w0 ah ak (by simpa using hc.1) (by simpa using hl) (by rw [e1]; simpa [AL] using hc.2)
 rw [e1] at h
 simp only [List.length_map] at h
 refine h.mono ?_
 rintro e w' ⟨rfl,hb⟩
 exact ⟨by simp [AL],hb⟩
 cases m
theorem EZ(w0:Af)(m:Tab w0)(g:Int)(r:List Ag)(f:Dn g=some r) :
 Calls Tryz.prog 130 [(.int .i64 g)].toArray w0 fun e w'=>e=.returned (.string (AL r))∧Below w0.heap.size w0 w':=by
 unfold Dn at f
 split at f
 rename_i h
 cases f
 refine (Tryz.strconv_Itoa g h.1 h.2 w0 m).mono ?_
 rintro e w' ⟨l,k,os,rfl⟩
 exact ⟨l,Lib.below_grow _ w0 (Nat.le_refl _) k os⟩
 cases f
theorem Ad2{l:List Int}{r:List Ag}(h:W8 l=some r):l=Lt r:=by
 unfold W8 at h
 split at h
 rename_i f
 cases h
 unfold Lt
 rw [List.map_map]
 conv=>lhs; rw [← List.map_id l]
 apply List.map_congr_left
 intro x e
 have:=List.all_eq_true.1 f x e
 simp only [C9] at this
 simp only [Function.comp,id]
 rw [UInt8.toNat_ofNat']
 omega
 cases h
theorem UT(w0 w:Af)(b:Nat)(p v:Ac)(hp:p=.pointer none∨p=.pointer (some ⟨b,0,none⟩))(F:Ap)(l:List Int){M:List Res}(u:Below w0.heap.size w0 w)(h:Sep w0.heap.size w (Av b 66 [p,v]::Ab H2 F v l::M))(r:List Ag)(hr:W8 l=some r) :
 Calls Tryz.prog 49 [(.pointer (some ⟨b,0,none⟩))].toArray w fun e w'=>e=.returned (.string (AL r))∧Below w0.heap.size w0 w':=by
 have hl:=Ad2 hr
 have hb:w.heap[b]? = some (.cells [p,v].toArray 66 (0,0)):=h.ok (i:=0) rfl
 have aj:=(h.get (i:=0) rfl).2.1 b (by simp [Av])
 have ho:ownS H2 F w v l:=h.ok (i:=1) rfl
 have ar:=h.disj (i:=0) (j:=1) rfl rfl rfl b (by simp [Av])
 have ag:(l.map TG).flatten=Lib.byteCells r:=by
  rw [hl]
  exact (SP (f:=TG) (fun _=>rfl) r).symm
 have an:(Lib.byteCells r).length=l.length:=by rw [hl]; simp [Lib.byteCells,Lt]
 have s:w.ownsRow w0.heap.size 5 1 v (Lib.byteCells r).length (Lib.byteCells r)∧v.ownBlock≠some b:=by
  rw [an,← ag]
  rcases (HU RH).1 ho with ⟨h1,m,h3⟩|⟨g,cap,aq,h1,m,h3,h4,h5,h6,h7⟩
  exact ⟨⟨by rw [m]; rfl,.inl ⟨h1,by rw [m]; rfl⟩⟩,by rw [h1]; simp [Value.ownBlock]⟩
  refine ⟨⟨Og TG 1 (fun _=>rfl) l,.inr ⟨g,cap,aq,h1,((h.get (i:=1) rfl).2.1 g (by show g ∈ F; rw [h7]; simp)).1,m,h3,h4,h5,h6⟩⟩,?_⟩
  rw [h1]
  simp only [Value.ownBlock,ne_eq,Option.some.injEq]
  intro e
  apply ar
  show b ∈ F
  rw [h7,← e]
  simp
 have ad:∀ q,q=p→Lib.BuilderAt 66 5 w0.heap.size b q (Lib.byteCells r) w:=fun q hq=>by
  subst hq
  exact ⟨aj.1,v,hb,s.1,s.2⟩
 have hi:Lib.IsBuilder 66 5 w0.heap.size b (Lib.byteCells r) w:=by
  rcases hp with rfl|rfl
  exact .inl (ad _ rfl)
  exact .inr (ad _ rfl)
 refine (Tryz.Builder_String_any w0.heap.size b r w hi u.size).mono ?_
 rintro e w' ⟨he,am⟩
 exact ⟨he,u.trans am⟩
end Go.Proofs.YtellehgihceicaaGreatDoor
