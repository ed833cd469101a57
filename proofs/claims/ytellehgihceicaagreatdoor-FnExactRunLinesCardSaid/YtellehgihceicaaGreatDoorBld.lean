/-
 strings.Builder: copyCheck, WriteString, String (the builder's own block, and its bytes, owned). Numbers are the seat's.
-/
import Derived.Test.YtellehgihceicaaGreatDoorH
import Derived.Test.YtellehgihceicaaGreatDoorShelf
import Derived.Lib.AppendIntMem
import Derived.Lib.SmallJoins
import Derived.Lib.Builder
import Derived.Lib.AppendStr
import Derived.Lib.UnsafeStr
import Derived.Laws.Externs
import Derived.Laws.Pointers
set_option linter.unusedVariables false
set_option linter.unusedSimpArgs false
set_option maxRecDepth 100000
namespace Go.Proofs.YtellehgihceicaaGreatDoor
open Go Go.RowKit
section
variable {P:Program} {α:Type} {n:Nat} {ds:List (Af Tmp)} {d:Nat} {T U TB:TypeId} {pos:String} {af:Array Edge} {rest:List Oper} {x y z:Operand} {σ:E1} {w w0:Ae} {Q:Exit → Act → Ae → Prop} {L M:List Res} {base:Nat}
theorem VN {p:Af Addr} (l:P.underlying T = some (.pointer (P.pointee T))) (f:Nat.blt d n = true) (m:B2 σ x = some (.pointer p)) (g:B2 σ y = some (.pointer none)) (h:WL P n ds rest ((d,.bool p.isNone) :: σ) w Q) :
  WL P n ds (⟨some d,.binOp .eql T x y U,TB,pos,af,none⟩ :: rest) σ w Q :=
 Cx f (fun ρ e=>by simp [execOp,e _ _ m,e _ _ g,eqGuard,run_eql_pointer_nil _ T p l]) h
theorem Ya {a:Addr} {e:TypeId} {j:TypeInfo} (s:P.underlying T = some (.pointer e)) (m:P.info? e = some j) (g:Nat.blt d n = true) (u:B2 σ x = some (.pointer (some a))) (l:B2 σ y = some (.pointer (some a))) (h:WL P n ds rest ((d,.bool false) :: σ) w Q) :
  WL P n ds (⟨some d,.binOp .neq T x y U,TB,pos,af,none⟩ :: rest) σ w Q :=
 Cx g (fun ρ f=>by simp [execOp,f _ _ u,f _ _ l,eqGuard,Lib.run_neq_ptr_same w a s m]) h
theorem Z9 {b:Nat} {e f:Ac} {i:Nat} (l:Sep base w L) (g:Eo L i = some (A5 b T [e,f])):w.shape? b = some (T,2):=by
 have h:w.heap[b]? = some (.cells [e,f].toArray T (0,0)):=l.ok g
 simp [World.shape?,h]
theorem Xl {a:Addr} {t e:TypeId} {j:TypeInfo} {f:Nat} (v:P.underlying T = some (.pointer t)) (u:P.underlying U = some .unsafePointer) (m:P.info? t = some j) (g:j.size ≠ 0) (ab:w.shape? a.block = some (e,f)) (aa:a.off < f)
  (l:Nat.blt d n = true) (hx:B2 σ x = some (.pointer (some a))) (h:WL P n ds rest ((d,.pointer (some a)) :: σ) w Q):WL P n ds (⟨some d,.convert T U x,TB,pos,af,none⟩ :: rest) σ w Q :=
 Cx l (fun ρ s=>by simp [execOp,s _ _ hx,Lib.run_to_unsafe w a v u m g ab aa]) h
theorem Vo {a:Addr} {u e:TypeId} {j:TypeInfo} {f:Nat} (hs:P.underlying T = some .unsafePointer) (v:P.underlying U = some (.pointer u)) (m:P.info? u = some j) (ab:w.shape? a.block = some (e,f)) (hl:liesAt P P.depth e (f / P.cellsOf e) a.off u 1 = true)
  (g:Nat.blt d n = true) (l:B2 σ x = some (.pointer (some a))) (h:WL P n ds rest ((d,.pointer (some a)) :: σ) w Q):WL P n ds (⟨some d,.convert T U x,TB,pos,af,none⟩ :: rest) σ w Q :=
 Cx g (fun ρ s=>by simp [execOp,s _ _ l,Lib.run_from_unsafe w a hs v m ab hl]) h
theorem S4 {t u l e:TypeId} {i:TypeInfo} (ht:P.underlying t = some (.slice e)) (m:P.underlying u = some .string) (hi:P.info? e = some i) (hz:i.zero = some (.int .u8 0)) (ae:i.size = 1) (ad:i.bytes = 1)
  {v h:Ac} {n:Nat} {xs:List Ac} (ab:w.ownsRow base e 1 v n xs) {s:ByteArray} (aq:n + s.size ≤ 140737488355328) {w':Ae} (f:(Builtin.append_ #[t,u] l #[v,.string s]).run P w = .ok h w') (an:h = .slice none 0 0 ↔ v = .slice none 0 0 ∧ s.size = 0) :
  h.ownBlock = v.ownBlock ∨ h.ownBlock = some w.heap.size:=by
 have ak:xs.length = n:=by simpa using ab.1
 rcases ab.2 with ⟨rfl,rfl⟩ | ⟨g,cap,ai,rfl,av,hg,au,ao,ap,ar⟩
 ·by_cases hm:s.size = 0
  ·left; rw [an.2 ⟨rfl,hm⟩]
  ·right
   rw [run_append_nil_string w t u l e i (.int .u8 0) ht m hi hz s (by omega) (by omega) (by rw [ad]; omega)] at f
   injection f with h1 _
   rw [← h1]; rfl
 ·by_cases ah:n + s.size ≤ cap
  ·left
   rw [Lib.run_append_room_string w t u l e i ht m hi ae g n cap ai hg s ah (by omega)] at f
   injection f with h1 _
   rw [← h1]; rfl
  ·right
   have al:∀ j u,xs[j]? = some u → w.cell? ((⟨g,0,none⟩:Addr).add j) = some u:=ab.cells (g:=g) rfl
   rw [Lib.run_append_grow_string w t u l e i (.int .u8 0) ht m hi hz ⟨g,0,none⟩ n cap xs (by rw [ae]; simpa using ak) al s (by omega) (by omega) (by rw [ad]; exact growslice_fits (by omega) (by omega))] at f
   injection f with h1 _
   rw [← h1]; rfl
theorem QR {f:Int → List Ac} (e:∀ x,f x = [.int .u8 x]):∀ s:List Ai,s.map (fun b=>Value.int .u8 (b.toNat:Int)) = ((Ka s).map f).flatten
 | []=>rfl
 | a :: s=>by
  have:=QR e s
  unfold Ka at this ⊢
  simp only [List.map_cons,List.flatten_cons,e,List.singleton_append,this]
theorem VO {e:Ty P Int} {f:Int → List Ac} (hf:Flat e f) (bf:∀ x,f x = [.int .u8 x]) (an:e.sz = 1) {ab:TypeInfo} (hi:P.info? e.tid = some ab) (hz:ab.zero = some (.int .u8 0)) (a0:ab.size = 1) (av:ab.bytes = 1)
  {V:TypeId} {F:Al} {v:Ac} {l r:List Int} {s:List Ai} {i:Nat} (hu:P.underlying U = some (.slice e.tid)) (hV:P.underlying V = some .string) (hn:Nat.blt d n = true)
  (hx:B2 σ x = some v) (hy:B2 σ y = some (.string (B1 s))) (hB:Below w0.heap.size w0 w) (hS:Sep w0.heap.size w L) (hg:Eo L i = some (Ab e F v l)) (al:XT l s = some r)
  (h:∀ v' F' w',(w.heap.size ≤ w'.heap.size ∧ (∀ b,b < w.heap.size → b ∉ F → w'.heap[b]? = w.heap[b]?) ∧ ∀ b ∈ F',b ∈ F ∨ w.heap.size ≤ b) → Below w0.heap.size w0 w' → Sep w0.heap.size w' (Md L i (Ab e F' v' r)) → WL P n ds rest ((d,v') :: σ) w' Q) :
  WL P n ds (⟨some d,.call ⟨.builtin .append,#[x,y],#[U,V]⟩,T,pos,af,none⟩ :: rest) σ w Q:=by
 unfold XT at al
 split at al
 ·rename_i a7
  cases al
  have ho:ownS e F w v l:=hS.ok hg
  have bb:=fun x=>hf.len w x
  have a1:w.ownsRow w0.heap.size e.tid 1 v l.length (l.map f).flatten:=by
   refine ⟨by rw [MB f e.sz bb l,an],?_⟩
   rcases (Hg hf).1 ho with ⟨h1,m,h3⟩ | ⟨g,cap,ai,h1,m,h3,h4,h5,h6,h7⟩
   ·exact .inl ⟨h1,by rw [m]; rfl⟩
   ·rw [an] at h5 h6
    exact .inr ⟨g,cap,ai,h1,((hS.get hg).2.1 g (by show g ∈ F; rw [h7]; simp)).1,m,h3,h4,h5,h6⟩
  have ak:(B1 s).size = s.length:=by simp [B1,ByteArray.size]
  have ao:∀ k,v.ownBlock = some k → k ∈ F:=by
   intro k hk
   rcases (Hg hf).1 ho with ⟨h1,m,h3⟩ | ⟨g,cap,ai,h1,m,h3,h4,h5,h6,h7⟩
   ·rw [h1] at hk; cases hk
   ·rw [h1] at hk
    simp [Value.ownBlock] at hk
    rw [h7,← hk]; simp
  obtain ⟨v',w',aw,a2,ar,bd⟩:=Lib.run_append_own_string w w0.heap.size U V T e.tid ab hu hV hi hz a0 av v l.length _ a1 (B1 s) (by rw [ak]; simp only [maxLen]; omega) (by rw [ak]; exact a7) hB.size
  have bl:=S4 hu hV hi hz a0 av a1 (by rw [ak]; exact a7) aw bd
  have be:(l.map f).flatten ++ Lib.strCells (B1 s) = ((l ++ Ka s).map f).flatten:=by
   rw [List.map_append,List.flatten_append]
   rw [← QR bf s]
   rfl
  rw [be,ak] at a2
  have am:(l ++ Ka s).length = l.length + s.length:=by simp [Ka]
  obtain ⟨F',bc,bk,hF⟩:∃ F',ownS e F' w' v' (l ++ Ka s) ∧ F'.Nodup ∧ ∀ b ∈ F',b ∈ F ∨ (w.heap.size ≤ b ∧ b < w'.heap.size):=by
   rcases a2.2 with ⟨h1,m⟩ | ⟨g,cap,ai,h1,bm,m,h3,h4,h5,h6⟩
   ·have:l ++ Ka s = []:=List.eq_nil_of_length_eq_zero (by rw [am]; exact m)
    exact ⟨[],(Hg hf).2 (.inl ⟨h1,this,rfl⟩),.nil,fun b u=>by cases u⟩
   ·refine ⟨[g],(Hg hf).2 (.inr ⟨g,cap,ai,by rw [am]; exact h1,m,by rw [am]; exact h3,h4,by rw [an]; exact h5,by rw [am,an]; exact h6,rfl⟩),by simp,fun b u=>?_⟩
    rw [List.mem_singleton] at u
    subst u
    rcases bl with h | h
    ·exact .inl (ao b (by rw [← h,h1]; rfl))
    ·rw [h1] at h
     simp [Value.ownBlock] at h
     exact .inr ⟨by omega,(Array.getElem?_eq_some_iff.1 m).1⟩
  obtain ⟨bg,bi⟩:=UT hS hg hB bc ar bk hF ao
  exact Cx hn (fun ρ hρ=>by simp [execOp,resolve,invoke,builtin,hρ _ _ hx,hρ _ _ hy,aw]) (h v' F' w' ⟨ar.size,fun b ba u=>ar.block b ba fun e=>u (ao b e.symm),fun b u=>(hF b u).imp id fun h=>h.1⟩ bg bi)
 ·cases al
end

theorem WS:TF Tryz.prog 64 1 false (.pointer none):=⟨Tryz.sizeOf64,Tryz.isAgg64,Tryz.zeroValue64,by decide,by decide⟩
theorem Y8:Fm Tryz.prog 66 0 0 = true:=by kernel_rfl
theorem Abf:Fm Tryz.prog 66 1 1 = true:=by kernel_rfl
theorem Q2 (w0:Ae) (b:Nat) (p v:Ac) (hp:p = .pointer none ∨ p = .pointer (some ⟨b,0,none⟩)) (aa:Sep 0 w0 [A5 b 66 [p,v]]) (h1:Ones [v]) :
 Calls Tryz.prog 67 [(.pointer (some ⟨b,0,none⟩))].toArray w0 fun e w'=>e = .returned (PE []) ∧ Below 0 (wE w0) w' ∧ Sep 0 w' [A6 w0 (Be [A5 b 66 [p,v]]),A5 b 66 [.pointer (some ⟨b,0,none⟩),v]]:=by
 refine Ij Tryz.func67 rfl Tryz.ntmps67 rfl rfl fun Q l hQ hP=>?_
 have s:Below (wE w0).heap.size (wE w0) w0:=Ej w0
 have g:Sep (wE w0).heap.size w0 [A6 w0 (Be [A5 b 66 [p,v]]),A5 b 66 [p,v]]:=aa.rest
 have u:=Z9 (i:=1) g rfl
 refine Qb fun K1 m=>As (Ku rfl rfl (BC rfl rfl (M1 (o:=0) (off':=0) Y8 rfl rfl rfl (J2 (i:=1) (vs:=[p]) (v:=p) WS rfl rfl g rfl rfl rfl ?_))))
 rcases hp with rfl | rfl
 ·refine VN (p:=none) Tryz.underlying64 rfl rfl rfl (Ah fun a f=>m _ _ (Rb rfl (fun _=>?_) (fun h=>by cases h)) a f)
  refine As (Ku rfl rfl (Ku rfl rfl (Xl (a:=⟨b,0,none⟩) Tryz.underlying64 Tryz.underlying115 Tryz.type66 (by decide) u (Nat.zero_lt_succ 1) rfl rfl ?_)))
  refine VM (vs:=[.pointer (some ⟨b,0,none⟩)]) (v:=.pointer (some ⟨b,0,none⟩)) (e:=Extern.AbiNoEscape.same) rfl Tryz.func87 rfl rfl (by kernel_rfl) (by kernel_rfl) rfl (Lib.run_noEscape _ _) ?_
  refine Vo (a:=⟨b,0,none⟩) Tryz.underlying115 Tryz.underlying64 Tryz.type66 u (by kernel_rfl) rfl rfl ?_
  refine BC rfl rfl (M1 (o:=0) (off':=0) Y8 rfl rfl rfl (B9 (i:=1) (vs:=[.pointer (some ⟨b,0,none⟩)]) (cs':=[.pointer (some ⟨b,0,none⟩),v]) WS rfl rfl rfl rfl s g rfl rfl ⟨rfl,trivial⟩ rfl ?_))
  intro w1 hk ac ab
  exact Ah (LW (vs:=[]) l rfl trivial ⟨rfl,ac,ab⟩)
 ·refine VN (p:=some ⟨b,0,none⟩) Tryz.underlying64 rfl rfl rfl (Ah fun a f=>m _ _ (Rb rfl (fun h=>by cases h) (fun _=>?_)) a f)
  refine Qb fun K2 ae=>As (Ku rfl rfl (BC rfl rfl (M1 (o:=0) (off':=0) Y8 rfl rfl rfl (J2 (i:=1) (vs:=[.pointer (some ⟨b,0,none⟩)]) (v:=.pointer (some ⟨b,0,none⟩)) WS rfl rfl g rfl rfl rfl ?_))))
  refine Ku rfl rfl (Ya (a:=⟨b,0,none⟩) Tryz.underlying64 Tryz.type66 rfl rfl rfl (Ah fun a f=>ae _ _ (Rb rfl (fun h=>by cases h) (fun _=>?_)) a f))
  exact Au (LW (vs:=[]) l rfl trivial ⟨rfl,s,g⟩)
theorem Z7:TF Tryz.prog 46 1 false (.slice none 0 0):=⟨Tryz.sizeOf46,Tryz.isAgg46,Tryz.zeroValue46,by decide,by decide⟩
theorem PA (w0:Ae) (b:Nat) (p v:Ac) (hp:p = .pointer none ∨ p = .pointer (some ⟨b,0,none⟩)) (F:Al) (l:List Int) (s:List Ai) (ap:Sep 0 w0 [A5 b 66 [p,v],Ab L7 F v l]) (u:List Int) (hu:XT l s = some u) :
 Calls Tryz.prog 48 [(.pointer (some ⟨b,0,none⟩)),(.string (B1 s))].toArray w0 fun e w'=>e = .returned (PE [.int .i64 (s.length:Int),.nilIface]) ∧ Below 0 (wE w0) w' ∧
  ∃ g F',Sep 0 w' [A6 w0 (Be [A5 b 66 [p,v],Ab L7 F v l]),A5 b 66 [.pointer (some ⟨b,0,none⟩),g],Ab L7 F' g u] ∧ w0.heap.size ≤ w'.heap.size:=by
 refine G4 Tryz.func48 rfl Tryz.ntmps48 rfl rfl fun Q hQ hP=>?_
 have hB:Below (wE w0).heap.size (wE w0) w0:=Ej w0
 have h:Sep (wE w0).heap.size w0 [A6 w0 (Be [A5 b 66 [p,v],Ab L7 F v l]),A5 b 66 [p,v],Ab L7 F v l]:=ap.rest
 have ax:(B1 s).size = s.length:=by simp [B1,ByteArray.size]
 refine Qb fun K1 ag=>As (Oo rfl rfl (Oo rfl rfl (Ah fun a f=>ag _ _ (Qb fun K2 am=>?_) a f)))
 refine As (Ku rfl rfl (A7 rfl Tryz.call67 (Q2 w0 b p v hp (h.sel [1] rfl).base0 (by exact ⟨((h.own_ro (i:=2) rfl).one),trivial⟩)) rfl ?_))
 rintro _ w1 ⟨rfl,ar,aa⟩
 refine ⟨_,rfl,?_⟩
 have au:=h.takeB [1] rfl (M:=[A5 b 66 [p,v]]) rfl hB ar aa
 have ab:Sep (wE w0).heap.size w1 [A5 b 66 [.pointer (some ⟨b,0,none⟩),v],A6 w0 (Be [A5 b 66 [p,v],Ab L7 F v l]),Ab L7 F v l]:=h.take [1] [0,2] rfl (M:=[A5 b 66 [p,v]]) rfl aa hB.size
 refine Ah fun a f=>am _ _ (Qb fun K3 ah=>?_) a f
 refine As (Ku rfl rfl (Ku rfl rfl (BC rfl rfl (M1 (o:=1) (off':=1) Abf rfl rfl rfl (J2 (i:=0) (vs:=[v]) (v:=v) Z7 rfl rfl ab rfl rfl rfl (Ku rfl rfl ?_))))))
 refine VO (i:=2) PV (fun _=>rfl) rfl Tryz.type5 rfl rfl rfl Tryz.underlying46 Tryz.underlying9 rfl rfl rfl au ab rfl hu ?_
 intro g F' w2 hk ak m
 refine BC rfl rfl (M1 (o:=1) (off':=1) Abf rfl rfl rfl (B9 (i:=0) (vs:=[g]) (cs':=[.pointer (some ⟨b,0,none⟩),g]) Z7 rfl rfl (Ce (m.own_ro (i:=2) rfl).one) rfl ak m rfl rfl ⟨(m.own_ro (i:=2) rfl).one,trivial⟩ rfl ?_))
 intro w3 aj ae an
 refine Ah fun a f=>ah _ _ (Qb fun K4 ao=>?_) a f
 refine As (Ku rfl rfl (D4 Tryz.underlying9 rfl rfl (Oo rfl rfl (Oo rfl rfl (Ah fun a f=>ao _ _ (Ay ?_) a f)))))
 exact IM (vs:=[.int .i64 (s.length:Int),.nilIface]) hQ rfl ⟨Jk rfl,Jk rfl,trivial⟩ ⟨rfl,ae,g,F',an.sel [1,0,2] rfl,Aw (Aau aa).1 (Aw hk.1 aj.1)⟩
def Tab (w:Ae):Prop:=Lib.TabIs Tryz.prog w "internal/strconv.uint64pow10" .u64 Lib.pow10Tab
theorem Tab.st {w0 w:Ae} (h:Tab w0) (e:Below w0.heap.size w0 w):Tab w:=Lib.tabBelow_of_tabIs h w e
theorem Tab.keep {w0 w:Ae} (h:Tab w0) (m:∀ b,b < w0.heap.size → w.heap[b]? = w0.heap[b]?):Tab w:=by
 unfold Tab Lib.TabIs World.var? at *
 cases f:Tryz.prog.globalNamed "internal/strconv.uint64pow10" with
 | none=>simp [f] at h
 | some g =>
  simp only [f,Aa] at h ⊢
  have l:g < w0.heap.size:=by
   rcases Nat.lt_or_ge g w0.heap.size with e | e
   ·exact e
   ·rw [Array.getElem?_eq_none e] at h; simp at h
  rw [m g l]
  exact h
def TabX (w0:Ae) (X:Al):Prop:=∀ w:Ae,(∀ b,b < w0.heap.size → b ∉ X → w.heap[b]? = w0.heap[b]?) → Tab w
theorem TabX.of {w0 w:Ae} {M:List Res} (h:Tab w0) (f:Below w0.heap.size w0 w) (l:Sep w0.heap.size w M):TabX w (Be M):=fun w' m=>h.keep fun b g=>by
 rw [m b (Nat.lt_of_lt_of_le g f.size) fun e=>?_,f.block b g]
 obtain ⟨r,s,e⟩:=Kv.1 e
 have:=((l.1 r s).2.1 b e).1
 omega
theorem Px (w0:Ae) (f:List (List Ai)) (v:Ac) (F:Al) (ho:ownS Cy F w0 v f) (x1 r:List Ai) (m:Iv f x1 = some r) :
  Calls Tryz.prog 176 [v,.string (B1 x1)].toArray w0 fun e w'=>e = .returned (.string (B1 r)) ∧ Below w0.heap.size w0 w':=by
 unfold Iv at m
 split at m
 ·rename_i hc
  cases m
  have hr:=ho.rd
  rcases ho with ⟨rfl,rfl,rfl⟩ | ⟨g,cap,ar,css,Fs,rfl,hg,hl,aq,av,ht,hz,rfl⟩
  ·refine (Tryz.strings_Join_none none 0 (B1 x1) w0).mono ?_
   rintro e w' ⟨rfl,rfl⟩
   exact ⟨rfl,Below.refl _ _⟩
  ·have e1:((f.map B1).map (·.data.toList)) = f:=by
    rw [List.map_map]
    conv=>rhs; rw [← List.map_id f]
    refine List.map_congr_left fun a _=>?_
    simp [B1]
   have ah:g < w0.heap.size:=by
    rcases Nat.lt_or_ge g w0.heap.size with s | s
    ·exact s
    ·rw [Array.getElem?_eq_none s] at hg; cases hg
   have am:∀ (j:Nat) x,(f.map B1)[j]? = some x → w0.cell? ⟨g,0 + j,none⟩ = some (.string x):=fun j x hx=>by
    rw [List.getElem?_map,Option.map_eq_some_iff] at hx
    obtain ⟨y,u,rfl⟩:=hx
    obtain ⟨a,c,h1,_,l⟩:=hr
    rcases l with l | ⟨ad,l,h3⟩
    ·rw [l] at u; simp at u
    ·rw [l] at h1
     simp only [Value.slice.injEq,Option.some.injEq] at h1
     obtain ⟨_,cs,ak,aj⟩:=h3 j y u
     have al:=I6.rd ak
     have:=aj 0 (.string (B1 y)) (by rw [al]; rfl)
     rw [← h1.1] at this
     rw [show (Cy).sz = 1 from rfl,Nat.mul_one,Addr.add_lit,Addr.add_lit,Nat.add_zero] at this
     exact this
   have h:=Tryz.strings_Join g 0 cap (f.map B1) (B1 x1) w0 am ah (by simpa using hc.1) (by simpa using hl) (by rw [e1]; simpa [B1] using hc.2)
   rw [e1] at h
   simp only [List.length_map] at h
   refine h.mono ?_
   rintro e w' ⟨rfl,hb⟩
   exact ⟨by simp [B1],hb⟩
 ·cases m
theorem E2 (w0:Ae) (m:Tab w0) (g:Int) (r:List Ai) (f:CY g = some r) :
 Calls Tryz.prog 130 [(.int .i64 g)].toArray w0 fun e w'=>e = .returned (.string (B1 r)) ∧ Below w0.heap.size w0 w':=by
 unfold CY at f
 split at f
 ·rename_i h
  cases f
  refine (Tryz.strconv_Itoa g h.1 h.2 w0 m).mono ?_
  rintro e w' ⟨l,k,os,rfl⟩
  exact ⟨l,Lib.below_grow _ w0 (Nat.le_refl _) k os⟩
 ·cases f
theorem Z8 {l:List Int} {r:List Ai} (h:Ut l = some r):l = Ka r:=by
 unfold Ut at h
 split at h
 ·rename_i e
  cases h
  unfold Ka
  rw [List.map_map]
  conv=>lhs; rw [← List.map_id l]
  apply List.map_congr_left
  intro x f
  have:=List.all_eq_true.1 e x f
  simp only [C7] at this
  simp only [Function.comp,id]
  rw [UInt8.toNat_ofNat']
  omega
 ·cases h
theorem SJ (w0 w:Ae) (b:Nat) (p v:Ac) (hp:p = .pointer none ∨ p = .pointer (some ⟨b,0,none⟩)) (F:Al) (l:List Int) {M:List Res} (hB:Below w0.heap.size w0 w) (h:Sep w0.heap.size w (A5 b 66 [p,v] :: Ab L7 F v l :: M)) (r:List Ai) (hr:Ut l = some r) :
 Calls Tryz.prog 49 [(.pointer (some ⟨b,0,none⟩))].toArray w fun e w'=>e = .returned (.string (B1 r)) ∧ Below w0.heap.size w0 w':=by
 have hl:=Z8 hr
 have hb:w.heap[b]? = some (.cells [p,v].toArray 66 (0,0)):=h.ok (i:=0) rfl
 have ar:=(h.get (i:=0) rfl).2.1 b (by simp [A5])
 have ho:ownS L7 F w v l:=h.ok (i:=1) rfl
 have ag:=h.disj (i:=0) (j:=1) rfl rfl rfl b (by simp [A5])
 have ao:(l.map RA).flatten = Lib.byteCells r:=by
  rw [hl]
  exact (QR (f:=RA) (fun _=>rfl) r).symm
 have aw:(Lib.byteCells r).length = l.length:=by rw [hl]; simp [Lib.byteCells,Ka]
 have aa:w.ownsRow w0.heap.size 5 1 v (Lib.byteCells r).length (Lib.byteCells r) ∧ v.ownBlock ≠ some b:=by
  rw [aw,← ao]
  rcases (Hg PV).1 ho with ⟨h1,m,h3⟩ | ⟨g,cap,ah,h1,m,h3,h4,h5,h6,u⟩
  ·exact ⟨⟨by rw [m]; rfl,.inl ⟨h1,by rw [m]; rfl⟩⟩,by rw [h1]; simp [Value.ownBlock]⟩
  ·refine ⟨⟨MB RA 1 (fun _=>rfl) l,.inr ⟨g,cap,ah,h1,((h.get (i:=1) rfl).2.1 g (by show g ∈ F; rw [u]; simp)).1,m,h3,h4,h5,h6⟩⟩,?_⟩
   rw [h1]
   simp only [Value.ownBlock,ne_eq,Option.some.injEq]
   intro e
   apply ag
   show b ∈ F
   rw [u,← e]
   simp
 have s:∀ q,q = p → Lib.BuilderAt 66 5 w0.heap.size b q (Lib.byteCells r) w:=fun q hq=>by
  subst hq
  exact ⟨ar.1,v,hb,aa.1,aa.2⟩
 have hi:Lib.IsBuilder 66 5 w0.heap.size b (Lib.byteCells r) w:=by
  rcases hp with rfl | rfl
  ·exact .inl (s _ rfl)
  ·exact .inr (s _ rfl)
 refine (Tryz.Builder_String_any w0.heap.size b r w hi hB.size).mono ?_
 rintro e w' ⟨he,aj⟩
 exact ⟨he,hB.trans aj⟩
end Go.Proofs.YtellehgihceicaaGreatDoor
