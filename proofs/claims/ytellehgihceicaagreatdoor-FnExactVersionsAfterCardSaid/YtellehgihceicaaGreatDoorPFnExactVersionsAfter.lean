/-
 WHAT THE LAWS ON SHOWS HAND OVER AND TAKE BACK, PLAIN.
-/
import Derived.Test.YtellehgihceicaaGreatDoorPH
import Derived.Test.YtellehgihceicaaGreatDoorPB2
set_option linter.unusedVariables false
set_option linter.unusedSimpArgs false
set_option maxHeartbeats 1600000
namespace Go.Proofs.YtellehgihceicaaGreatDoor
open Go
theorem ZO {α:Type} (f:Nat → List α → Int → Int → Af (List α)) (g:List α) (h:g.length ≤ 9223372036854775807)
  (u:∀ m l y z,f (m + 1) l y z = if (decide (y < z)) = true then Option.bind (AK l z) fun a=>Option.bind (AK l y) fun b=>Option.bind (AK l y) fun _=>Option.bind (AK (BC l y a) z) fun _=>f m (BC (BC l y a) z b) (Ae (y + 1)) (Ae (z - 1)) else some l) :
  f FU g 0 (Ae ((List.length g:Int) - 1)) = some g.reverse:=by
 have aa:∀ (P T:List α) (x:α) (y:Int),y = (P.length:Int) → AK (P ++ x :: T) y = some x:=by
  intro P T x y e; unfold AK; rw [if_pos (by omega),show y.toNat = P.length by omega]; simp
 have ad:∀ (P T:List α) (x z:α) (y:Int),y = (P.length:Int) → BC (P ++ x :: T) y z = P ++ z :: T:=by
  intro P T x z y e; unfold BC; rw [show y.toNat = P.length by omega]; simp
 have am:∀ (n:Nat) (M A B:List α) (m:Nat) (y z:Int),M.length ≤ 2 * n + 1 → n < m → y = (A.length:Int) → z = (A.length:Int) + (M.length:Int) - 1 → A.length + M.length ≤ 9223372036854775807 → f m (A ++ M ++ B) y z = some (A ++ M.reverse ++ B):=by
  intro n
  induction n with
  | zero =>
   intro M A B m y z hn hm v s hl
   cases m with
   | zero=>omega
   | succ m =>
    match M,hn with
    | [],_=>rw [u,if_neg (by simp at s ⊢; omega)]; simp
    | [a],_=>rw [u,if_neg (by simp at s ⊢; omega)]; simp
  | succ n ih =>
   intro M A B m y z hn hm v s hl
   cases m with
   | zero=>omega
   | succ m =>
    match M with
    | []=>rw [u,if_neg (by simp at s ⊢; omega)]; simp
    | a :: M' =>
     rcases List.eq_nil_or_concat M' with rfl | ⟨M2,b,rfl⟩
     ·rw [u,if_neg (by simp at s ⊢; omega)]; simp
     ·rw [List.concat_eq_append] at *
      have ab:z = (A.length:Int) + (M2.length:Int) + 1:=by rw [s]; simp; omega
      have aq:A.length + M2.length + 2 ≤ 9223372036854775807:=by simp at hl; omega
      have e1:A ++ a :: (M2 ++ [b]) ++ B = (A ++ a :: M2) ++ b :: B:=by simp
      have e2:A ++ a :: (M2 ++ [b]) ++ B = A ++ a :: (M2 ++ [b] ++ B):=by simp
      have i1:AK (A ++ a :: (M2 ++ [b]) ++ B) z = some b:=by rw [e1]; exact aa _ _ _ _ (by rw [ab]; simp; omega)
      have i2:AK (A ++ a :: (M2 ++ [b]) ++ B) y = some a:=by rw [e2]; exact aa _ _ _ _ v
      have s1:BC (A ++ a :: (M2 ++ [b]) ++ B) y b = (A ++ b :: M2) ++ b :: B:=by rw [e2,ad _ _ _ _ _ v]; simp
      have i3:AK ((A ++ b :: M2) ++ b :: B) z = some b:=aa _ _ _ _ (by rw [ab]; simp; omega)
      have s2:BC ((A ++ b :: M2) ++ b :: B) z a = (A ++ [b]) ++ M2 ++ a :: B:=by rw [ad _ _ _ _ _ (by rw [ab]; simp; omega)]; simp
      rw [u,if_pos (by simp; omega),i1,Aa,i2,Aa,Aa,s1,i3,Aa,s2,A6 (x:=y + 1) (by omega) (by omega),A6 (x:=z - 1) (by omega) (by omega)]
      have:=ih M2 (A ++ [b]) (a :: B) m (y + 1) (z - 1) (by simp at hn; omega) (by omega) (by simp; omega) (by simp; omega) (by simp; omega)
      rw [this]
      simp
 have:=am (g.length / 2) g [] [] FU 0 (Ae ((List.length g:Int) - 1)) (by omega) (show g.length / 2 < 4611686018427387904 by omega) rfl (by rw [A6 (by omega) (by omega)]; simp) (by simpa using h)
 simpa using this
theorem ZP (x:List Int) (h:x.length < 4611686018427387904):Eo x = some x.reverse:=by
 unfold Eo
 exact ZO CS x (by omega) (fun m l y z=>by rw [CS]; rfl)
def MinSq (l:List (Int × Int)) (v:Int):Prop:=(∃ a b,a < b ∧ b < l.length ∧ v = GO (DY l a) (DY l b)) ∧ ∀ a b,a < b → b < l.length → v ≤ GO (DY l a) (DY l b)
theorem MinSq.uniq {l:List (Int × Int)} {v w:Int} (h:MinSq l v) (h':MinSq l w):v = w:=by
 obtain ⟨⟨a,b,h1,s,h3⟩,e⟩:=h
 obtain ⟨⟨g,b',f,m,g3⟩,u⟩:=h'
 have:=e g b' f m
 have:=u a b h1 s
 omega
def Lw (i k a b:Nat):Prop:=a < b ∧ (a < i ∨ (a = i ∧ b < k))
theorem Yh {l:List (Int × Int)} (hc:Cv l = true) (h2:2 ≤ l.length):∃ v,EC l = some (v,true) ∧ MinSq l v:=by
 have ao:=(Dc hc).2
 have ap:=fun a b (ha:a < l.length) (hb:b < l.length)=>(LO (I8 hc ha) (I8 hc hb)).2
 have al:∃ z:Int × Int,HL l = some z ∧ ∃ a b:Nat,z = ((a:Int),(b:Int)) ∧ a < b ∧ b < l.length ∧ ∀ g f,g < f → f < l.length → GO (DY l a) (DY l b) ≤ GO (DY l g) (DY l f):=by
  unfold HL
  refine Exists.elim (JE (fun (_:Unit) m (z:Int × Int) i=>DS l m z.1 z.2 i) l.length (fun i z=>∃ a b:Nat,z = ((a:Int),(b:Int)) ∧ a < b ∧ b < l.length ∧ ∀ g f,Lw i 0 g f → f < l.length → GO (DY l a) (DY l b) ≤ GO (DY l g) (DY l f))
   (fun _ z=>some z) (by omega) (fun i z _ hi hz=>?_) (fun z hz j m=>?_) (b:=0) (by omega) (s:=(0,1)) ⟨0,1,rfl,by omega,by omega,fun g f h=>by unfold Lw at h; omega⟩) ?_
  ·obtain ⟨a,b,rfl,ac,u,aa⟩:=hz
   refine Exists.elim (JE (fun (nx:Int → Int → Int → Af (Int × Int)) m (z:Int × Int) k=>Ds l (i:Int) nx m z.1 z.2 k) l.length (fun k z=>∃ a b:Nat,z = ((a:Int),(b:Int)) ∧ a < b ∧ b < l.length ∧ ∀ g f,Lw i k g f → f < l.length → GO (DY l a) (DY l b) ≤ GO (DY l g) (DY l f))
    (fun nx z=>nx z.1 z.2 ((i + 1:Nat):Int)) (by omega) (fun k z an hk hz=>?_) (fun z hz j m=>?_) (b:=i + 1) (by omega) (s:=((a:Int),(b:Int))) ⟨a,b,rfl,ac,u,fun g f h ad=>aa g f (by unfold Lw at h ⊢; omega) ad⟩) ?_
   ·obtain ⟨a,b,rfl,ac,u,aa⟩:=hz
    by_cases aj:GO (DY l i) (DY l k) < GO (DY l a) (DY l b)
    ·refine ⟨((i:Int),(k:Int)),⟨i,k,rfl,by omega,hk,fun g f h ad=>?_⟩,fun nx m=>?_⟩
     ·by_cases e:g = i ∧ f = k
      ·rw [e.1,e.2]; exact Int.le_refl _
      ·have:=aa g f (by unfold Lw at h ⊢; omega) ad
       omega
     ·rw [Ds,if_pos (by simp; omega)]
      unfold Gr
      dsimp only
      rw [AY,Dq hi,Aa,AY,Dq hk,Aa,AY,Dq (by omega),Aa,AY,Dq u,Aa,Hp,Aa,Hp,Aa,if_pos (decide_eq_true aj),AD (by omega)]
    ·refine ⟨((a:Int),(b:Int)),⟨a,b,rfl,ac,u,fun g f h ad=>?_⟩,fun nx m=>?_⟩
     ·by_cases e:g = i ∧ f = k
      ·rw [e.1,e.2]; omega
      ·exact aa g f (by unfold Lw at h ⊢; omega) ad
     ·rw [Ds,if_pos (by simp; omega)]
      unfold Gr
      dsimp only
      rw [AY,Dq hi,Aa,AY,Dq hk,Aa,AY,Dq (by omega),Aa,AY,Dq u,Aa,Hp,Aa,Hp,Aa,if_neg (by simpa using aj),AD (by omega)]
   ·rw [Ds,if_neg (by simp),AD (by omega)]
   ·rintro z ⟨⟨a,b,rfl,ac,u,aa⟩,hz⟩
    refine ⟨((a:Int),(b:Int)),⟨a,b,rfl,ac,u,fun g f h ad=>aa g f (by unfold Lw at h ⊢; omega) ad⟩,fun _ m=>?_⟩
    dsimp only at hz ⊢
    rw [DS,if_pos (by simp; omega),AD (by omega)]
    exact hz _
  ·rw [DS,if_neg (by simp)]
  ·rintro z ⟨⟨a,b,rfl,ac,u,aa⟩,hz⟩
   exact ⟨_,hz (),a,b,rfl,ac,u,fun g f h ad=>aa g f (by unfold Lw; omega) ad⟩
 obtain ⟨z,e,a,b,rfl,ac,u,aa⟩:=al
 refine ⟨GO (DY l a) (DY l b),?_,⟨a,b,ac,u,rfl⟩,aa⟩
 unfold EC Bk
 dsimp only
 rw [GU l (by omega),Aa,hc,if_neg (by simp),if_neg (by simp; omega),e,Aa,AY,Dq (by omega),Aa,AY,Dq u,Aa,Hp,Aa]
theorem XW {l:List (Int × Int)} (hc:Cv l = true) (h2:2 ≤ l.length):∃ v,Ee l = some (v,true) ∧ MinSq l v:=by
 have a1:=(Dc hc).2
 have ak:=fun a b (ha:a < l.length) (hb:b < l.length)=>(LO (I8 hc ha) (I8 hc hb)).2.1
 have au:∃ z:Int × Int × Int,JM l = some z ∧ MinSq l z.2.2:=by
  unfold JM
  refine Exists.elim (JE (fun (_:Unit) m (z:Int × Int × Int) i=>Fd l m z.1 z.2.1 z.2.2 i) l.length (fun i z=>(z.2.2 = -1 ∧ i = 0) ∨ ((∃ a b,a < b ∧ b < l.length ∧ z.2.2 = GO (DY l a) (DY l b)) ∧ ∀ g f,Lw i 0 g f → f < l.length → z.2.2 ≤ GO (DY l g) (DY l f)))
   (fun _ z=>some z) (by omega) (fun i z _ hi u=>?_) (fun z u j m=>?_) (b:=0) (by omega) (s:=(0,0,-1)) (.inl ⟨rfl,rfl⟩)) ?_
  ·refine Exists.elim (JE (fun (nx:Int → Int → Int → Int → Af (Int × Int × Int)) m (z:Int × Int × Int) k=>D2 l (DY l i) (i:Int) nx m z.1 z.2.1 z.2.2 k) l.length (fun k z=>(z.2.2 = -1 ∧ i = 0 ∧ k = 1) ∨ ((∃ a b,a < b ∧ b < l.length ∧ z.2.2 = GO (DY l a) (DY l b)) ∧ ∀ g f,Lw i k g f → f < l.length → z.2.2 ≤ GO (DY l g) (DY l f)))
    (fun nx z=>nx z.1 z.2.1 z.2.2 ((i + 1:Nat):Int)) (by omega) (fun k z ay hk u=>?_) (fun z u j m=>?_) (b:=i + 1) (by omega) (s:=z) ?_) ?_
   ·have hs:=ak i k hi hk
    have ai:∀ (nx:Int → Int → Int → Int → Af (Int × Int × Int)) m,D2 l (DY l i) (i:Int) nx (m + 1) z.1 z.2.1 z.2.2 (k:Int) = if z.2.2 < 0 ∨ GO (DY l i) (DY l k) < z.2.2 then D2 l (DY l i) (i:Int) nx m (i:Int) (k:Int) (GO (DY l i) (DY l k)) ((k + 1:Nat):Int) else D2 l (DY l i) (i:Int) nx m z.1 z.2.1 z.2.2 ((k + 1:Nat):Int):=by
     intro nx m
     rw [D2,if_pos (by simp; omega)]
     unfold W0 Bk
     dsimp only
     rw [AY,Dq hk,Aa,L8,Aa,AD (by omega)]
     by_cases h1:z.2.2 < 0
     ·rw [if_pos (decide_eq_true h1),if_pos rfl,if_pos (.inl h1)]
     ·rw [if_neg (by simpa using h1)]
      by_cases h3:GO (DY l i) (DY l k) < z.2.2
      ·rw [if_pos (decide_eq_true h3),if_pos (.inr h3)]
      ·rw [if_neg (by simpa using h3),if_neg (by omega)]
    by_cases an:z.2.2 < 0 ∨ GO (DY l i) (DY l k) < z.2.2
    ·refine ⟨((i:Int),(k:Int),GO (DY l i) (DY l k)),.inr ⟨⟨i,k,by omega,hk,rfl⟩,fun g f h ac=>?_⟩,fun nx m=>?_⟩
     ·dsimp only
      by_cases e:g = i ∧ f = k
      ·rw [e.1,e.2]; exact Int.le_refl _
      ·rcases u with ⟨ah,al,aj⟩ | ⟨⟨a,b,g1,g2,g3⟩,u⟩
       ·unfold Lw at h; omega
       ·have:=u g f (by unfold Lw at h ⊢; omega) ac
        have:=ak a b (by omega) g2
        omega
     ·exact (ai nx m).trans (if_pos an)
    ·refine ⟨z,.inr ⟨?_,fun g f h ac=>?_⟩,fun nx m=>(ai nx m).trans (if_neg an)⟩
     ·rcases u with ⟨ah,al,aj⟩ | ⟨u,_⟩
      ·omega
      ·exact u
     ·rcases u with ⟨ah,al,aj⟩ | ⟨_,u⟩
      ·omega
      ·by_cases e:g = i ∧ f = k
       ·rw [e.1,e.2]; omega
       ·exact u g f (by unfold Lw at h ⊢; omega) ac
   ·rw [D2,if_neg (by simp),AD (by omega)]
   ·rcases u with ⟨h1,h3⟩ | ⟨h1,h3⟩
    ·exact .inl ⟨h1,h3,by omega⟩
    ·exact .inr ⟨h1,fun g f h ac=>h3 g f (by unfold Lw at h ⊢; omega) ac⟩
   ·rintro z' ⟨av,ag⟩
    refine ⟨z',?_,fun _ m=>?_⟩
    ·rcases av with ⟨h1,h3,h4⟩ | ⟨h1,h3⟩
     ·omega
     ·exact .inr ⟨h1,fun g f h ac=>h3 g f (by unfold Lw at h ⊢; omega) ac⟩
    ·rw [Fd,if_pos (by simp; omega),AY,Dq hi,Aa,AD (by omega)]
     exact ag _
  ·rw [Fd,if_neg (by simp)]
  ·rintro z ⟨u,ag⟩
   refine ⟨z,ag (),?_⟩
   rcases u with ⟨h1,h3⟩ | ⟨h1,h3⟩
   ·omega
   ·exact ⟨h1,fun g f h ac=>h3 g f (by unfold Lw; omega) ac⟩
 obtain ⟨z,e,hm⟩:=au
 refine ⟨z.2.2,?_,hm⟩
 unfold Ee Bk
 dsimp only
 rw [J4 l (by omega),Aa,hc,if_neg (by simp),if_neg (by simp; omega),e,Aa]
def Na (l:List (Int × Int)):Int × Bool:=(Ee l).getD (0,false)
theorem S6 {l:List (Int × Int)} (e:Cv l = true):EC l = some (Na l) ∧ Ee l = some (Na l) ∧ 0 ≤ (Na l).1 ∧ (Na l).1 ≤ 100000000:=by
 have ab:=Dc e
 by_cases m:2 ≤ l.length
 ·obtain ⟨v,g,h⟩:=Yh e m
  obtain ⟨w,f,u⟩:=XW e m
  have:=h.uniq u
  subst this
  unfold Na
  rw [g,f]
  obtain ⟨⟨a,b,h1,s,h4⟩,_⟩:=h
  have:=(LO (I8 e (by omega:a < l.length)) (I8 e s)).2
  exact ⟨rfl,rfl,by dsimp only [Option.getD]; omega,by dsimp only [Option.getD]; omega⟩
 ·have g:Ee l = some (0,false):=by
   unfold Ee Bk
   dsimp only
   rw [J4 l (by omega),Aa,e,if_neg (by simp),if_pos (by simp; omega)]
  have f:EC l = some (0,false):=by
   unfold EC Bk
   dsimp only
   rw [GU l (by omega),Aa,e,if_neg (by simp),if_pos (by simp; omega)]
  unfold Na
  rw [g,f]
  exact ⟨rfl,rfl,by simp,by simp⟩
def M0 (q:Int) (t:Nat):Bool:=decide (1000000 * q ≤ 23040000 * ((t:Int) * (t:Int)))
theorem XZ {t:Nat} (f:t ≤ 1000):Ae ((Ae ((Ae (4800 * (t:Int))) * 4800)) * (t:Int)) = 23040000 * ((t:Int) * (t:Int)):=by
 have h1:=Md (x:=(t:Int)) (y:=(t:Int)) (A:=1000) (B:=1000) (by omega) (by omega) (by omega) (by omega)
 rw [A6 (x:=4800 * (t:Int)) (by omega) (by omega),A6 (x:=4800 * (t:Int) * 4800) (by omega) (by omega)]
 have e:4800 * (t:Int) * 4800 * (t:Int) = 23040000 * ((t:Int) * (t:Int)):=by grind
 rw [e,A6 (by omega) (by omega)]
theorem Wh {q:Int} {t t':Nat} (h:t ≤ t') (f:M0 q t = true):M0 q t' = true:=by
 unfold M0 at *
 rw [C9] at *
 have h1:=Nat.mul_le_mul h h
 have e:=Int.ofNat_le.2 h1
 rw [Int.natCast_mul,Int.natCast_mul] at e
 omega
theorem X6 {q:Int} (f:q ≤ 2089984) {t:Nat} (e:302 ≤ t):M0 q t = true:=by
 refine Wh e ?_
 unfold M0
 rw [C9]
 omega
def IsT (q:Int) (v:Nat):Prop:=M0 q v = true ∧ ∀ t,t < v → M0 q t = false
theorem IsT.uniq {q:Int} {v w:Nat} (h:IsT q v) (f:IsT q w):v = w:=by
 rcases Nat.lt_trichotomy v w with e | e | e
 ·have:=f.2 v e; rw [h.1] at this; cases this
 ·exact e
 ·have:=h.2 w e; rw [f.1] at this; cases this
theorem Zp {q:Int} (h0:0 ≤ q) (s:q ≤ 2089984):∃ v:Nat,v ≤ 302 ∧ DH q FU 0 = some (v:Int) ∧ IsT q v:=by
 have u:∀ (d t m:Nat),302 - t = d → t ≤ 302 → d < m → (∀ t',t' < t → M0 q t' = false) → ∃ v:Nat,v ≤ 302 ∧ DH q m (t:Int) = some (v:Int) ∧ IsT q v:=by
  intro d
  induction d with
  | zero =>
   intro t m hd ht hm l
   have:t = 302:=by omega
   subst this
   cases m with
   | zero=>omega
   | succ m =>
    have g:=X6 s (t:=302) (by omega)
    have f:=g
    unfold M0 at f
    rw [C9] at f
    refine ⟨302,by omega,?_,g,l⟩
    rw [DH,XZ (by omega),A6 (x:=1000000 * q) (by omega) (by omega),if_neg (by rw [C9]; omega)]
  | succ d ih =>
   intro t m hd ht hm l
   cases m with
   | zero=>omega
   | succ m =>
    rw [DH,XZ (by omega),A6 (x:=1000000 * q) (by omega) (by omega)]
    cases g:M0 q t with
    | true =>
     have f:=g
     unfold M0 at f
     rw [C9] at f
     rw [if_neg (by rw [C9]; omega)]
     exact ⟨t,by omega,rfl,g,l⟩
    | false =>
     have f:=g
     unfold M0 at f
     rw [decide_eq_false_iff_not] at f
     rw [if_pos (by rw [C9]; omega),AD (by omega)]
     refine ih (t + 1) m (by omega) (by omega) (by omega) (fun t' h=>?_)
     by_cases e:t' = t
     ·rw [e]; exact g
     ·exact l t' (by omega)
 exact u 302 0 FU rfl (by omega) (D4 (by omega)) (fun t' h=>by omega)
theorem YD {q:Int} (h0:0 ≤ q) (hq:q ≤ 2089984):∃ v:Nat,Kl q = some (v:Int) ∧ IsT q v:=by
 have ae:∀ (d e f m:Nat),f - e ≤ d → e ≤ f → f ≤ 1000 → d < m → (∀ t,t < e → M0 q t = false) → M0 q f = true → ∃ v:Nat,EE q m (e:Int) (f:Int) = some (v:Int) ∧ IsT q v:=by
  intro d
  induction d with
  | zero =>
   intro e f m hd h1 h2 hm u s
   have:e = f:=by omega
   subst this
   cases m with
   | zero=>omega
   | succ m=>exact ⟨e,by rw [EE,if_neg (by simp)],s,u⟩
  | succ d ih =>
   intro e f m hd h1 h2 hm u s
   cases m with
   | zero=>omega
   | succ m =>
    rw [EE]
    by_cases aj:e < f
    ·have em:Ae (Int.tdiv (Ae ((e:Int) + (f:Int))) 2) = (((e + f) / 2:Nat):Int):=by
      rw [A6 (x:=(e:Int) + f) (by omega) (by omega),Int.tdiv_eq_ediv_of_nonneg (by omega),A6 (by omega) (by omega)]
      omega
     rw [if_pos (by simp; omega),em,XZ (by omega),A6 (x:=1000000 * q) (by omega) (by omega)]
     cases l:M0 q ((e + f) / 2) with
     | true =>
      have g:=l
      unfold M0 at g
      rw [if_pos g]
      exact ih e _ m (by omega) (by omega) (by omega) (by omega) u l
     | false =>
      have g:=l
      unfold M0 at g
      rw [g,if_neg (by simp),AD (by omega)]
      refine ih ((e + f) / 2 + 1) f m (by omega) (by omega) h2 (by omega) (fun t ht=>?_) s
      cases hx:M0 q t with
      | false=>rfl
      | true=>have:=Wh (t':=(e + f) / 2) (by omega) hx; rw [l] at this; cases this
    ·have:e = f:=by omega
     subst this
     exact ⟨e,by rw [if_neg (by simp)],s,u⟩
 unfold Kl
 exact ae 1000 0 1000 FU (by omega) (by omega) (by omega) (D4 (by omega)) (fun t h=>by omega) (X6 hq (by omega))
def NQ (a b:Int × Int):Int × Bool:=(G7 a b).getD (0,false)
theorem Uu {a b:Int × Int} (e:CX a = true) (f:CX b = true):G7 a b = some (NQ a b) ∧ H4 a b = some (NQ a b) ∧ 0 ≤ (NQ a b).1 ∧ (NQ a b).1 ≤ 302:=by
 obtain ⟨_,h,g⟩:=LO e f
 obtain ⟨v,v1,m,v3⟩:=Zp h g
 obtain ⟨w,w1,l⟩:=YD h g
 have:=v3.uniq l
 subst this
 have u:G7 a b = some ((v:Int),true):=by
  unfold G7 Ke Bk
  dsimp only
  rw [L2,Aa,e,if_neg (by simp),L2,Aa,f,Hp,Aa,m]
  rfl
 have s:H4 a b = some ((v:Int),true):=by
  unfold H4 Mn Lk Bk
  dsimp only
  rw [OQ,Aa,e,if_pos rfl,OQ,Aa,f,L8,Aa,Aa,w1]
  rfl
 unfold NQ
 rw [u,s]
 exact ⟨rfl,rfl,by dsimp only [Option.getD]; omega,by dsimp only [Option.getD]; omega⟩
def MP (load count:Int) (x:BP):Bool:=decide (x.2.1 = load) && (decide (x.2.2.1 ≤ count) && decide (count < x.2.2.2))
def Nh (l:List BP) (load count:Int):Int × Bool:=if (BO load 1 9 && BO count 0 999) = true then (match (List.range l.length).find? fun i=>MP load count (CL l i) with
  | some i=>((CL l i).1,true)
  | none=>(0,false)) else (0,false)
theorem Us {l:List BP} (h:Fw l = true):∀ x ∈ l,L1 x:=by
 intro x e
 have:=Nc.1 ((Hn.1 h).2.1 x e)
 unfold L1
 omega
theorem Ux {l:List BP} {k:Nat} (h:k < l.length):l[k]? = some (CL l k):=by rw [FV h]; exact Cq h
theorem Ud {l:List BP} (h:Fw l = true) (f e:Int):IK l f e = some (Nh l f e):=by
 have u:=(Hn.1 h).1
 unfold IK Bk Nh
 dsimp only
 rw [O9 (by omega) (Us h),Aa,h,CT,Aa,CT,Aa]
 cases BO f 1 9 with
 | false=>rfl
 | true =>
  cases BO e 0 999 with
  | false=>rfl
  | true =>
   rw [if_neg (by simp),if_neg (by simp),if_neg (by simp),if_pos (c:=(true && true) = true) rfl]
   rw [Tp (Ew l f e) l.length (fun i=>MP f e (CL l i)) (fun i=>some ((CL l i).1,true)) (some (0,false)) (by omega) (fun m k s=>?_) (fun m=>?_)]
   ·cases (List.range l.length).find? fun i=>MP f e (CL l i) <;> rfl
   ·rw [Ew,if_pos (by simp; omega),AY,Ux s,Aa,AD (by omega)]
    unfold Bk MP
    dsimp only
    by_cases h1:(CL l k).2.1 = f
    ·rw [if_pos (by simpa using h1),decide_eq_true h1]
     by_cases g:(CL l k).2.2.1 ≤ e
     ·rw [if_pos (by simpa using g),decide_eq_true g]; rfl
     ·rw [if_neg (by simpa using g),decide_eq_false g]; rfl
    ·rw [if_neg (by simpa using h1),decide_eq_false h1]; rfl
   ·rw [Ew,if_neg (by simp)]
theorem YG {l:List BP} (h:Fw l = true) {g f:Int} (hl:1 ≤ g):KC l g 0 f = some (Ue ((List.range l.length).find? fun i=>MP g f (CL l i))):=by
 have u:=(Hn.1 h).1
 unfold KC
 rw [Tp (GF l g 0 f) l.length (fun i=>MP g f (CL l i)) (fun i=>some (i:Int)) (some (-1)) (by omega) (fun m k s=>?_) (fun m=>?_)]
 ·cases (List.range l.length).find? fun i=>MP g f (CL l i) <;> rfl
 ·have v:=Nc.1 ((Hn.1 h).2.1 _ (Ja s))
  rw [GF,if_pos (by simp; omega),AY,Ux s,Aa,AD (by omega)]
  unfold Bk MP
  dsimp only
  rw [if_neg (by simp; omega),if_pos (c:=((0:Int) == 0) = true) rfl,A6 (by omega) (by omega),CU,Aa]
  by_cases h1:(CL l k).2.1 = g
  ·rw [if_pos (by simpa using h1),decide_eq_true h1]
   have e:BO f (CL l k).2.2.1 ((CL l k).2.2.2 - 1) = (decide ((CL l k).2.2.1 ≤ f) && decide (f < (CL l k).2.2.2)):=by
    rw [Bool.eq_iff_iff,DB]
    simp
    omega
   rw [e,Bool.true_and]
  ·rw [if_neg (by simpa using h1),decide_eq_false h1]; rfl
 ·rw [GF,if_neg (by simp)]
theorem TO {l:List BP} (h:Fw l = true) (f e:Int):ID l f e = some (Nh l f e):=by
 have v:=(Hn.1 h).1
 unfold ID Jj Ln Bk Nh
 dsimp only
 rw [RW (by omega) (Us h),Aa,h,CU,Aa,Aa,CU,Aa,Aa]
 cases s:BO f 1 9 with
 | false=>rfl
 | true =>
  cases BO e 0 999 with
  | false=>rfl
  | true =>
   have m:=DB.1 s
   rw [if_neg (by simp),if_neg (by simp),if_neg (by simp),if_pos (c:=(true && true) = true) rfl,YG h m.1,Aa,Aa]
   cases u:(List.range l.length).find? fun i=>MP f e (CL l i) with
   | none=>rfl
   | some i =>
    have g:i < l.length:=List.mem_range.1 (List.mem_of_find?_eq_some u)
    unfold Ue
    dsimp only
    rw [if_neg (by simp),AY,Ux g,Aa]
theorem Aa8 {l:List BP} (h:Fw l = true) (f e:Int):0 ≤ (Nh l f e).1 ∧ (Nh l f e).1 ≤ 12:=by
 unfold Nh
 split
 ·cases m:(List.range l.length).find? fun i=>MP f e (CL l i) with
  | none=>exact ⟨Int.le_refl _,by show (0:Int) ≤ 12; omega⟩
  | some i =>
   have g:i < l.length:=List.mem_range.1 (List.mem_of_find?_eq_some m)
   have s:=Nc.1 ((Hn.1 h).2.1 _ (Ja g))
   dsimp only
   omega
 ·exact ⟨by decide,by decide⟩
theorem VL {l:List Iq} (h:Hu l = true) {i:Nat} (g:i < l.length):∃ x:Iq,l[i]? = some x ∧ (x.1 = -1 ∨ (0 ≤ x.1 ∧ x.1.toNat < i)) ∧ (0 ≤ x.2.1 ∧ x.2.1 ≤ 7) ∧ 0 ≤ x.2.2 ∧ x.2.2 ≤ 999:=by
 unfold Hu at h
 rw [Cg,List.all_eq_true] at h
 obtain ⟨x,m⟩:∃ x,l[i]? = some x:=⟨_,Cq g⟩
 have f:=h.2 i (List.mem_range.2 g)
 unfold OL at f
 rw [m] at f
 unfold SS at f
 dsimp only at f
 rw [Cg,Cg,DB,DB] at f
 refine ⟨x,m,?_,f.2.1,f.2.2⟩
 by_cases e:i = 0
 ·rw [if_pos e,C9] at f
  exact .inl f.1
 ·rw [if_neg e,DB] at f
  exact .inr (by omega)
theorem M5 {l:List Iq} (h:Hu l = true):1 ≤ l.length ∧ l.length ≤ 60:=by
 unfold Hu at h
 rw [Cg,DB] at h
 omega
theorem Ab5 {l:List Iq} (h:Hu l = true):∀ (d i:Nat),i ≤ d → i < l.length → ∃ u:List Int,(∀ x ∈ u,0 ≤ x ∧ x.toNat < l.length) ∧ u.length ≤ i + 1 ∧
  ∀ (m:Nat) (s e:List Int),i + 1 < m → s.length ≤ 1000 - u.length → e.length ≤ 1000 - u.length → E6 l m (i:Int) s = some ((s ++ u).reverse) ∧ E5 l m (i:Int) e = some (u.reverse ++ e):=by
 have ap:=M5 h
 have ad:∀ i (x:Iq),l[i]? = some x → x.1 = -1 → i < l.length → ∃ u:List Int,(∀ x ∈ u,0 ≤ x ∧ x.toNat < l.length) ∧ u.length ≤ i + 1 ∧
  ∀ (m:Nat) (s e:List Int),i + 1 < m → s.length ≤ 1000 - u.length → e.length ≤ 1000 - u.length → E6 l m (i:Int) s = some ((s ++ u).reverse) ∧ E5 l m (i:Int) e = some (u.reverse ++ e):=by
  intro i x f aa v
  refine ⟨[(i:Int)],fun x f=>?_,by simp,fun m s e hm hs ae=>?_⟩
  ·rw [List.mem_singleton] at f; omega
  obtain ⟨m,rfl⟩:∃ m',m = m' + 2:=⟨m - 2,by omega⟩
  rw [E6,E5,if_pos (by simp),Bt (by simp; omega),Aa,if_pos (by simp),Bt (by simp; omega),Aa,AY,f,Aa,Aa,aa,E6,E5,if_neg (by decide),if_neg (by decide),ZP _ (by simp; omega)]
  exact ⟨rfl,rfl⟩
 intro d
 induction d with
 | zero =>
  intro i am v
  have:i = 0:=by omega
  subst this
  obtain ⟨x,f,g,_⟩:=VL h v
  have aa:x.1 = -1:=by rcases g with g | g; exact g; omega
  exact ad 0 x f aa v
 | succ d ih =>
  intro i am v
  obtain ⟨x,f,g,_⟩:=VL h v
  rcases g with aa | g
  ·exact ad i x f aa v
  ·obtain ⟨u,g1,g2,g3⟩:=ih x.1.toNat (by omega) (by omega)
   refine ⟨(i:Int) :: u,?_,by simp; omega,fun m s e hm hs ae=>?_⟩
   ·intro y hy
    rcases List.mem_cons.1 hy with rfl | hy
    ·omega
    ·exact g1 y hy
   ·obtain ⟨m,rfl⟩:∃ m',m = m' + 1:=⟨m - 1,by omega⟩
    rw [List.length_cons] at hs ae
    obtain ⟨e1,e2⟩:=g3 m (s ++ [(i:Int)]) ((i:Int) :: e) (by omega) (by simp; omega) (by simp; omega)
    have ex:x.1 = ((x.1.toNat:Nat):Int):=by omega
    rw [E6,E5,if_pos (by simp),Bt (by simp; omega),Aa,if_pos (by simp),Bt (by simp; omega),Aa,AY,f,Aa,Aa,ex,e1,List.singleton_append,e2]
    constructor
    ·rw [List.append_assoc]; rfl
    ·rw [List.reverse_cons,List.append_assoc]; rfl
theorem XU (u:List Int) (l:List Iq):∀ (m:Nat) (s:List Int) (k:Int),ET u l m s k = Dl u l m s k:=by
 intro m
 induction m with
 | zero=>intros; rfl
 | succ m e =>
  intro s k
  rw [ET,Dl]
  simp only [e]
def Wl (s:List Int):Prop:=s.length = 8 ∧ ∀ x ∈ s,-1 ≤ x ∧ x ≤ 999
theorem Y8 {l:List Iq} (h:Hu l = true) {u:List Int} (hu:∀ x ∈ u,0 ≤ x ∧ x.toNat < l.length) (hl:u.length ≤ 1000):∃ s,Wl s ∧ Dl u l FU (List.replicate 8 (-1)) 0 = some s:=by
 have ak:=M5 h
 refine Exists.elim (JE (fun (_:Unit) m (z:List Int) k=>Dl u l m z k) u.length (fun _ z=>Wl z) (fun _ z=>some z) (by omega) (fun k z _ v f=>?_) (fun z f j m=>?_) (b:=0) (by omega) (s:=List.replicate 8 (-1)) ⟨by simp,fun x g=>by have:=List.eq_of_mem_replicate g; omega⟩) ?_
 ·obtain ⟨ab,ai⟩:=f
  obtain ⟨g1,g2⟩:=hu _ (List.getElem_mem v)
  obtain ⟨x,g,_,h7,h9⟩:=VL h g2
  have ag:x.2.1.toNat < z.length:=by omega
  refine ⟨BC z x.2.1 x.2.2,⟨by unfold BC; simpa using ab,fun y e=>?_⟩,fun _ m=>?_⟩
  ·unfold BC at e
   rcases List.mem_or_eq_of_mem_set e with e | rfl
   ·exact ai y e
   ·omega
  ·rw [Dl,if_pos (by simp; omega),AY,Cq v,Aa,Iy g1,g,Aa,Aa,Iy h7.1,Cq ag,Aa,AD (by omega)]
 ·rw [Dl,if_neg (by simp)]
 ·rintro z ⟨f,hr⟩
  exact ⟨z,f,hr ()⟩
theorem Sw {l:List Iq} (h:Hu l = true) (i:Int):HK l [i] = some (BO i 0 ((l.length:Int) - 1)):=by
 have g:=M5 h
 unfold HK
 rw [N6 (DR [i] l) [i] (fun x=>BO x 0 ((l.length:Int) - 1)) (some true) (some false) (by simp) (fun m k x e f=>?_) (fun m=>?_)]
 ·rw [List.all_cons,List.all_nil,Bool.and_true]
  cases BO i 0 ((l.length:Int) - 1) <;> rfl
 ·rw [DR,if_pos (by simp at e ⊢; omega),AY,f,Aa,CT,A6 (by omega) (by omega),Aa,AD (by simp at e; omega)]
  cases BO x 0 ((l.length:Int) - 1) <;> rfl
 ·rw [DR,if_neg (by simp),LF (by omega),Aa,h]
theorem Wg (k:Nat):List.replicate k (-1:Int) ++ [-1] = List.replicate (k + 1) (-1):=by rw [List.replicate_succ']
theorem WJ {l:List Iq} (h:Hu l = true) (i:Int):∃ r:List Int × Bool,JV l i = some r ∧ JQ l i = some r ∧ (r.2 = true → Wl r.1):=by
 have aj:=M5 h
 unfold JV JQ Mm Bk
 dsimp only
 rw [Sw h,Aa,OP (by omega),Aa,h,if_pos rfl,CU,A6 (by omega) (by omega),Aa,Aa]
 cases hi:BO i 0 ((l.length:Int) - 1) with
 | false=>exact ⟨([],false),rfl,rfl,fun h=>by cases h⟩
 | true =>
  have ai:=DB.1 hi
  obtain ⟨u,g1,g2,g3⟩:=Ab5 h i.toNat i.toNat (Nat.le_refl _) (by omega)
  obtain ⟨f,e⟩:=g3 FU [] [] (D4 (by omega)) (by simp) (by simp)
  rw [show ((i.toNat:Nat):Int) = i by omega] at f e
  rw [List.nil_append] at f
  rw [List.append_nil] at e
  obtain ⟨s,hs,v⟩:=Y8 h (u:=u.reverse) (fun x hx=>g1 x (List.mem_reverse.1 hx)) (by rw [List.length_reverse]; omega)
  have r1:JR l i = some s:=by
   unfold JR
   refine Eq.trans (EM (fun m (z:List Int) k=>Fi l i m z k) 8 (fun k=>List.replicate k (-1)) (Option.bind (Ld l i) fun g=>Dl g l FU (List.replicate 8 (-1)) 0) (by omega) (j:=0) (by omega) (fun m k _ hk=>?_) (fun m=>?_)) ?_
   ·rw [Fi,if_pos (by simp; omega),Bt (by simp; omega),Aa,AD (by omega),Wg]
   ·rw [Fi,if_neg (by decide)]
   ·unfold Ld
    rw [f,Aa,v]
  have r2:JG l i = some s:=by
   unfold JG
   refine Eq.trans (EM (fun m (z:List Int) (_:Int)=>EU l i m z) 8 (fun k=>List.replicate k (-1)) (Option.bind (KZ l i) fun g=>ET g l FU (List.replicate 8 (-1)) 0) (by omega) (j:=0) (by omega) (fun m k _ hk=>?_) (fun m=>?_)) ?_
   ·rw [EU,if_pos (by simp; omega),Bt (by simp; omega),Aa,Wg]
   ·rw [EU,if_neg (by decide)]
   ·unfold KZ
    rw [e,Aa,XU,v]
  refine ⟨(s,true),?_,?_,fun _=>hs⟩
  ·rw [if_neg (by simp),r1,Aa]
  ·rw [if_neg (by simp),r2,Aa]
theorem Zn (e:List (List Aj)) (w f:List Aj):Lib.join (e ++ [w]) f = if e = [] then w else Lib.join e f ++ f ++ w:=by
 cases e with
 | nil=>rw [List.nil_append,if_pos rfl,Lib.join_one]
 | cons x r =>
  rw [List.cons_append,Lib.join_cons,Lib.join_cons,if_neg (by simp)]
  unfold Lib.joinTail
  rw [List.map_append,List.flatten_append]
  simp [List.append_assoc]
def My (n:Int):List Aj:=if n < 0 then [45] else Lib.decDigits n.toNat
theorem Rt {n:Int} (h:n ≤ 999):(My n).length ≤ 3:=by
 unfold My
 split
 ·simp
 ·exact Hz (k:=2) (by omega)
def Gx (ws:List (List Aj)):List Aj:=Lib.join ws [32]
theorem Yf (e:List (List Aj)) (w:List Aj):Gx (e ++ [w]) = (if e = [] then [] else Gx e ++ [32]) ++ w:=by
 unfold Gx
 rw [Zn]
 split
 ·rfl
 ·rfl
theorem PT (f:List (List Aj)) {k:Nat} (h:k < f.length):Gx (f.take (k + 1)) = (if k = 0 then [] else Gx (f.take k) ++ [32]) ++ f[k]:=by
 rw [List.take_succ_eq_append_getElem h,Yf]
 by_cases e:k = 0
 ·subst e; simp
 ·have l:f.take k ≠ []:=fun g=>by have:=congrArg List.length g; rw [List.length_take,List.length_nil] at this; omega
  rw [if_neg l,if_neg e]
theorem N7 {B:Nat} (e:List (List Aj)) (h:∀ w ∈ e,w.length ≤ B):∀ k,k ≤ e.length → (Gx (e.take k)).length ≤ (B + 1) * k
 | 0,_=>by simp [Gx,Lib.join_nil]
 | k + 1,hk=>by
  have h1:=N7 e h k (by omega)
  have f:=h e[k] (List.getElem_mem _)
  rw [PT e (by omega),CM,Nat.mul_succ]
  split
  ·simp; omega
  ·rw [CM,List.length_singleton]; omega
theorem QR {B:Nat} (e:List (List Aj)) (h:∀ w ∈ e,w.length ≤ B):(Gx e).length ≤ (B + 1) * e.length:=by
 have:=N7 e h e.length (Nat.le_refl _)
 rwa [List.take_length] at this
theorem Wx {e:List (List Aj)} {B:Nat} (h:∀ w ∈ e,w.length ≤ B) (l:B ≤ 1000) (f:e.length ≤ 1000):I0 e [32] = some (Gx e):=by
 have h1:=QR e h
 have g:(B + 1) * e.length ≤ 1001 * 1000:=Nat.mul_le_mul (by omega) f
 unfold Gx at h1
 unfold I0 Gx
 rw [if_pos (by omega)]

theorem VH {n:Int} (h:¬ n < 0) (e:n ≤ 999):CY n = some (My n) ∧ Dd n = some (My n):=by
 unfold My
 rw [if_neg h]
 exact ⟨LD (by omega) (by omega),Ka (by omega) (by omega)⟩
theorem Xu {s:List Int} (h:Wl s):JK s = some (Gx (s.map My)):=by
 obtain ⟨h8,hb⟩:=h
 have g:∀ w ∈ s.map My,w.length ≤ 3:=by
  intro w g
  obtain ⟨n,f,rfl⟩:=List.mem_map.1 g
  exact Rt (hb n f).2
 unfold JK
 refine Eq.trans (EM (D1 s) s.length (fun k=>Gx ((s.map My).take k)) (some (Gx (s.map My))) (by omega) (j:=0) (by omega) (fun m k _ u=>?_) (fun m=>?_)) rfl
 ·have hl:=N7 _ g k (by simp; omega)
  have f:=hb _ (List.getElem_mem u)
  have h3:=Rt f.2
  rw [D1,if_pos (by simp; omega)]
  unfold Bk
  dsimp only
  rw [AY,Cq u,Aa,AD (by omega),PT _ (by simp; omega),List.getElem_map]
  have l:∀ y:List Aj,y.length ≤ 100 → (if decide (s[k] < 0) = true then Option.bind (Cl y [45]) fun ad=>D1 s m ad ((k + 1:Nat):Int) else Option.bind (Dd s[k]) fun ab=>Option.bind (Cl y ab) fun ac=>D1 s m ac ((k + 1:Nat):Int)) = D1 s m (y ++ My s[k]) ((k + 1:Nat):Int):=by
   intro y hy
   by_cases e:s[k] < 0
   ·rw [if_pos (decide_eq_true e),Bt (by simp; omega),Aa]
    unfold My
    rw [if_pos e]
   ·rw [if_neg (by simpa using e),(VH e f.2).2,Aa,Bt (by omega),Aa]
  by_cases v:k = 0
  ·subst v
   rw [if_neg (by simp),l _ (by omega),if_pos rfl]
   simp [Gx,Lib.join_nil]
  ·rw [if_pos (by simp; omega),Bt (by simp; omega),Aa,l _ (by simp; omega),if_neg v]
 ·rw [D1,if_neg (by simp),List.take_of_length_le (by simp)]
theorem Vl {s:List Int} (h:Wl s):Cw (s,true) FU [] 0 = some (Gx (s.map My)):=by
 obtain ⟨v,u⟩:=h
 have f:∀ w ∈ s.map My,w.length ≤ 3:=by
  intro w f
  obtain ⟨n,g,rfl⟩:=List.mem_map.1 f
  exact Rt (u n g).2
 refine Eq.trans (EM (Cw (s,true)) s.length (fun k=>(s.map My).take k) (some (Gx (s.map My))) (by omega) (j:=0) (by omega) (fun m k _ l=>?_) (fun m=>?_)) rfl
 ·have g:=u _ (List.getElem_mem l)
  rw [Cw,if_pos (by simp; omega)]
  unfold Bk
  dsimp only
  rw [AY,Cq l,Aa,AD (by omega),List.take_succ_eq_append_getElem (by simp; omega),List.getElem_map]
  by_cases e:s[k] < 0
  ·rw [if_pos (decide_eq_true e),Bt (by simp; omega),Aa]
   unfold My
   rw [if_pos e]
  ·rw [if_neg (by simpa using e),(VH e g.2).1,Aa,Bt (by simp; omega),Aa]
 ·rw [Cw,if_neg (by simp),List.take_of_length_le (by simp),Wx f (by omega) (by simp; omega),Aa]
def Ox (q:List Int):List Aj:=Lib.decDigits (IU q 0).toNat ++ [45] ++ Lib.decDigits (IU q 1).toNat
def Oa (q:List Int):Prop:=∃ i k:Nat,q = [(i:Int),(k:Int)] ∧ i < 100 ∧ k < 100
theorem Pk {q:List Int} (h:Oa q):1 ≤ (Ox q).length ∧ (Ox q).length ≤ 5:=by
 obtain ⟨i,k,rfl,f,g⟩:=h
 unfold Ox IU
 have h1:=Hz (k:=1) (u:=i) (by omega)
 have e:=Hz (k:=1) (u:=k) (by omega)
 simp
 omega
theorem Zc {q:List Int} (h:Oa q) {R:Type} (f:List Aj → Af R):(Option.bind (AK q 0) fun l=>Option.bind (AK q 1) fun g=>Option.bind (CY l) fun e=>Option.bind (Cl e [45]) fun s=>Option.bind (CY g) fun m=>Option.bind (Cl s m) f) = f (Ox q):=by
 obtain ⟨i,k,rfl,v,hk⟩:=h
 have h1:=Hz (k:=1) (u:=i) (by omega)
 have h2:=Hz (k:=1) (u:=k) (by omega)
 show (Option.bind (some (i:Int)) fun l=>Option.bind (some (k:Int)) fun g=>Option.bind (CY l) fun e=>Option.bind (Cl e [45]) fun s=>Option.bind (CY g) fun m=>Option.bind (Cl s m) f) = _
 rw [Aa,Aa,LD (by omega) (by omega),Aa,Bt (by simp; omega),Aa,LD (by omega) (by omega),Aa,Bt (by simp; omega),Aa]
 rfl
theorem Zb {q:List Int} (h:Oa q) {R:Type} (f:List Aj → Af R):(Option.bind (AK q 0) fun l=>Option.bind (AK q 1) fun g=>Option.bind (Dd l) fun e=>Option.bind (Cl e [45]) fun s=>Option.bind (Dd g) fun m=>Option.bind (Cl s m) f) = f (Ox q):=by
 obtain ⟨i,k,rfl,v,hk⟩:=h
 have h1:=Hz (k:=1) (u:=i) (by omega)
 have h2:=Hz (k:=1) (u:=k) (by omega)
 show (Option.bind (some (i:Int)) fun l=>Option.bind (some (k:Int)) fun g=>Option.bind (Dd l) fun e=>Option.bind (Cl e [45]) fun s=>Option.bind (Dd g) fun m=>Option.bind (Cl s m) f) = _
 rw [Aa,Aa,Ka (by omega) (by omega),Aa,Bt (by simp; omega),Aa,Ka (by omega) (by omega),Aa,Bt (by simp; omega),Aa]
 rfl
def Oi (P:List (List Int)):List Aj:=if P = [] then [110,111,110,101] else Gx (P.map Ox)
theorem Yr {P:List (List Int)} (h:∀ q ∈ P,Oa q) (l:P.length ≤ 1000) (b:Bool):CD (P,b) FU [] 0 = some (Gx (P.map Ox)):=by
 have e:∀ w ∈ P.map Ox,w.length ≤ 5:=by
  intro w e
  obtain ⟨q,g,rfl⟩:=List.mem_map.1 e
  exact (Pk (h q g)).2
 refine Eq.trans (EM (CD (P,b)) P.length (fun k=>(P.map Ox).take k) (some (Gx (P.map Ox))) (by omega) (j:=0) (by omega) (fun m k _ f=>?_) (fun m=>?_)) rfl
 ·rw [CD,if_pos (by simp; omega)]
  unfold Bk
  dsimp only
  rw [AY,Cq f,Aa,Zc (h _ (List.getElem_mem f)),AD (by omega),List.take_succ_eq_append_getElem (by simp; omega),List.getElem_map,Bt (by simp; omega),Aa]
 ·rw [CD,if_neg (by simp),List.take_of_length_le (by simp),Wx e (by omega) (by simp; omega),Aa]
theorem Yq {P:List (List Int)} (h:∀ q ∈ P,Oa q) (hl:P.length ≤ 1000) (b:Bool):CR (P,b) FU [] 0 = some (Oi P):=by
 have f:∀ w ∈ P.map Ox,w.length ≤ 5:=by
  intro w f
  obtain ⟨q,s,rfl⟩:=List.mem_map.1 f
  exact (Pk (h q s)).2
 refine Eq.trans (EM (CR (P,b)) P.length (fun k=>Gx ((P.map Ox).take k)) (some (Oi P)) (by omega) (j:=0) (by omega) (fun m k _ g=>?_) (fun m=>?_)) rfl
 ·have aa:=N7 _ f k (by simp; omega)
  have v:=Pk (h _ (List.getElem_mem g))
  rw [CR,if_pos (by simp; omega)]
  unfold Bk
  dsimp only
  rw [AY,Cq g,Aa,PT _ (by simp; omega),List.getElem_map]
  simp only [Zb (h _ (List.getElem_mem g))]
  by_cases l:k = 0
  ·subst l
   rw [if_neg (by simp),Bt (by omega),Aa,if_pos rfl,AD (by omega)]
   simp [Gx,Lib.join_nil]
  ·rw [if_pos (by simp; omega),Bt (by simp; omega),Aa,Bt (by simp; omega),Aa,if_neg l,AD (by omega)]
 ·rw [CR,if_neg (by simp),List.take_of_length_le (by simp)]
  unfold Oi
  cases P with
  | nil=>rfl
  | cons q P =>
   have u:(Gx ((q :: P).map Ox)) ≠ []:=by
    have v:=Pk (h q (List.mem_cons_self ..))
    unfold Gx
    rw [List.map_cons,Lib.join_cons]
    intro e
    have:=congrArg List.length e
    rw [CM,List.length_nil] at this
    omega
   rw [if_neg (by simpa using u),if_neg (by simp)]
theorem RP {n:Int} (h:0 ≤ n ∧ n ≤ 1280):Jc n = some (MT n):=by
 have h1:=Hz (k:=2) (u:=n.toNat / 8) (by omega)
 have f:=Hz (k:=0) (u:=n.toNat % 8) (by omega)
 unfold Jc MT
 rw [Int.tdiv_eq_ediv_of_nonneg h.1,Int.tmod_eq_emod_of_nonneg h.1,A6 (by omega) (by omega),Ka (by omega) (by omega),Aa,Aa,show (n / 8).toNat = n.toNat / 8 by omega]
 by_cases e:0 < n.toNat % 8
 ·rw [if_neg (by simp; omega),Ka (by omega) (by omega),show (n % 8).toNat = n.toNat % 8 by omega,O7 (by simp; omega),Aa,Aa,O7 (by simp; omega),Aa,if_pos e,List.append_assoc]
  rfl
 ·rw [if_pos (by simp; omega),if_neg e,List.append_nil]
theorem Xf {s:Int × Int} (h:CX s = true):Kk s = some (PH s):=by
 have f:=FM.1 h
 have g:=LM (n:=s.1) (by omega)
 have e:=LM (n:=s.2) (by omega)
 unfold Kk
 rw [RP (by omega),Aa,O7 (by simp; omega),Aa,RP (by omega),Aa,O7 (by simp; omega),Aa]
 unfold PH
 rw [List.append_assoc]
 rfl
def OW (r:Int × Bool):List Aj:=if r.2 = true then Lib.decDigits r.1.toNat else [110,111]
theorem Oj {r:Int × Bool} (h:0 ≤ r.1) (e:r.1 ≤ 9223372036854775807):Fr r.1 r.2 = some (OW r) ∧ Fq r.1 r.2 = some (OW r):=by
 unfold Fr Fq Mo OW
 rw [LD h e,Aa,if_neg (c:=decide (r.1 < 0) = true) (by simp; omega),Ka h e,Aa,Aa]
 cases r.2 <;> exact ⟨rfl,rfl⟩
def N2 (x:GC) (c:Int):Int × Bool:=if BO c 0 (Sk x) = true then (Rv x c,true) else (0,false)
theorem Xr {x:GC} (h:Gi x = true) (c:Int):Ku x c = some (N2 x c):=by
 have e:=(MY h).2.1
 unfold Ku Bk N2
 dsimp only
 rw [QV x (by omega),Aa,h,Vp x (by omega),Aa,CT,Aa,Xp x h]
 cases BO c 0 (Sk x) <;> rfl
theorem Xl {x:GC} (h:Gi x = true) (c:Int):Kt x c = some (N2 x c):=by
 have e:=(MY h).2.1
 unfold Kt LB Bk N2
 dsimp only
 rw [RT x (by omega),Aa,h,Vn x (by omega),Aa,CU,Aa,OR x h]
 cases BO c 0 (Sk x) <;> rfl
theorem ZA {x:GC} (h:Gi x = true) {c:Int} (h1:c ≤ 99999):0 ≤ (N2 x c).1 ∧ (N2 x c).1 ≤ 720000:=by
 unfold N2
 split
 ·rename_i f
  have e:=DB.1 f
  exact Aa9 h e.1 (by omega)
 ·simp
abbrev FW:=Aev × Aev × Int × Aev × (List BP) × (List Iq)
abbrev SpT:=Aev × Aev × Int × Aev × (List BP) × (List Iq) × (List Int) × (List Int) × Int
abbrev CtT:=(List Int) × (List Int) × Int
def EJ (s:FW) (c:CtT):SpT:=(s.1,s.2.1,s.2.2.1,s.2.2.2.1,s.2.2.2.2.1,s.2.2.2.2.2,c.1,c.2.1,c.2.2)
structure JZ (s:FW):Prop where
 ch:Cv s.1 = true
 ke:Cv s.2.1 = true
 mu:Gi s.2.2.2.1 = true
 ca:Fw s.2.2.2.2.1 = true
 ve:Hu s.2.2.2.2.2 = true
def Qk (b:Bool):List Aj:=if b = true then [111,107] else [110,111]
theorem Y0 (b:Bool):I4 b = some (Qk b):=by unfold I4 Qk; cases b <;> rfl
theorem Abn (b:Bool):Jg b = some (Qk b):=by unfold Jg Qk; cases b <;> rfl
def T8 (s:FW) (w:List Aj) (n:List Int) (F:FW → List Aj → List Int → Af (List Aj × FW)):Prop :=
 ∃ ok s',JZ s' ∧ (ok = false → s' = s) ∧ s'.2.2.2.2.1.length ≤ s.2.2.2.2.1.length + 1 ∧ F s w n = some (Qk ok,s') ∧ ∀ c,Cz (EJ s c) w n = some (ok,EJ s' c)
theorem XD {n:List Int} (h:n.length = 1):∃ a,n = [a]:=by
 match n,h with
 | [a],_=>exact ⟨a,rfl⟩
theorem nl2 {n:List Int} (h:n.length = 2):∃ a b,n = [a,b]:=by
 match n,h with
 | [a,b],_=>exact ⟨a,b,rfl⟩
theorem nl3 {n:List Int} (h:n.length = 3):∃ a b c,n = [a,b,c]:=by
 match n,h with
 | [a,b,c],_=>exact ⟨a,b,c,rfl⟩
theorem nl4 {n:List Int} (h:n.length = 4):∃ a b c d,n = [a,b,c,d]:=by
 match n,h with
 | [a,b,c,d],_=>exact ⟨a,b,c,d,rfl⟩
theorem It {α:Type} (a:α) (l:List α):AK (a :: l) 0 = some a:=rfl
theorem Nb {α:Type} (a b:α) (l:List α):AK (a :: b :: l) 1 = some b:=rfl
theorem XH {α:Type} (a b c:α) (l:List α):AK (a :: b :: c :: l) 2 = some c:=rfl
theorem ix3 {α:Type} (a b c d:α) (l:List α):AK (a :: b :: c :: d :: l) 3 = some d:=rfl
def Rs (s:FW) (c:List (Int × Int)):FW:=(c,s.2.1,s.2.2.1,s.2.2.2.1,s.2.2.2.2.1,s.2.2.2.2.2)
theorem M8 (s:FW) (c:List (Int × Int)) (b:Bool):Dj s c b = some (Qk b,if b = true then Rs s c else s) ∧ ∀ k,EF (EJ s k) c b = some (b,EJ (if b = true then Rs s c else s) k):=by
 unfold Dj EF Bk
 dsimp only
 simp only [Y0,Aa]
 cases b
 ·exact ⟨rfl,fun _=>rfl⟩
 ·exact ⟨rfl,fun _=>rfl⟩
theorem Z0 {l:List (Int × Int)} (h:(Pz l).2 = true):Cv (Pz l).1 = true:=by
 unfold Pz at h ⊢
 split
 ·assumption
 ·rename_i e; rw [if_neg e] at h; cases h
theorem YW {l:List (Int × Int)} {p:Int} {a:Int × Int} (h:(L0 l p a).2 = true):Cv (L0 l p a).1 = true:=by
 unfold L0 at h ⊢
 split
 ·rename_i e; rw [if_pos e] at h; exact Z0 h
 ·rename_i e; rw [if_neg e] at h; cases h
theorem Aa2 {s:FW} (h:JZ s) {r:List (Int × Int) × Bool} (f:r.2 = true → Cv r.1 = true):JZ (if r.2 = true then Rs s r.1 else s):=by
 split
 ·rename_i e; exact ⟨f e,h.ke,h.mu,h.ca,h.ve⟩
 ·exact h
theorem Abo {s:FW} (h:JZ s) {n:List Int} (f:n.length = 2):T8 s SP n BK:=by
 obtain ⟨a,b,rfl⟩:=nl2 f
 have g:=Dc h.ch
 refine ⟨(Pz (s.1 ++ [(a,b)])).2,if (Pz (s.1 ++ [(a,b)])).2 = true then Rs s (Pz (s.1 ++ [(a,b)])).1 else s,Aa2 h Z0,(fun e=>by rw [e]; rfl),?_,?_,fun c=>?_⟩
 ·split <;> exact Nat.le_succ _
 ·unfold BK SP Gr
  dsimp only
  rw [if_pos (by rfl),It,Aa,Nb,Aa,Bt (by simp; omega),Aa,List.nil_append,Bt (by simp; omega),Aa,Sa _ (by simp; omega),Aa,(M8 _ _ _).1,Aa]
 ·unfold Cz SP Gr
  dsimp only
  rw [if_pos (by rfl),It,Aa,Nb,Aa,show (EJ s c).1 = s.1 by rfl,N3 _ (by omega),Aa,Bt (by simp; omega),Aa,UP _ (by simp; omega),Aa,(M8 _ _ _).2,Aa]
theorem Aak {s:FW} (h:JZ s) {n:List Int} (f:n.length = 3):T8 s Q8 n BK:=by
 obtain ⟨p,a,b,rfl⟩:=nl3 f
 refine ⟨(L0 s.1 p (a,b)).2,if (L0 s.1 p (a,b)).2 = true then Rs s (L0 s.1 p (a,b)).1 else s,Aa2 h YW,(fun e=>by rw [e]; rfl),?_,?_,fun c=>?_⟩
 ·split <;> exact Nat.le_succ _
 ·unfold BK Q8 Gr
  dsimp only
  rw [if_neg (by decide),if_pos (by rfl),It,Aa,Nb,Aa,XH,Aa,Qw h.ch,Aa,(M8 _ _ _).1,Aa]
 ·unfold Cz Q8 Gr
  dsimp only
  rw [if_neg (by decide),if_pos (by rfl),It,Aa,Nb,Aa,XH,Aa,show (EJ s c).1 = s.1 by rfl,Qv h.ch,Aa,(M8 _ _ _).2,Aa]
theorem Zv {s:FW} (h:JZ s) {n:List Int}:T8 s Pl n BK:=by
 refine ⟨true,Rs s (s.1.map Ni),⟨Acq h.ch,h.ke,h.mu,h.ca,h.ve⟩,(fun e=>by cases e),Nat.le_succ _,?_,fun c=>?_⟩
 ·unfold BK Pl Gr
  dsimp only
  rw [if_neg (by decide),if_neg (by decide),if_pos (by rfl),Sx h.ch,Aa,(M8 _ _ _).1,Aa]
  rfl
 ·unfold Cz Pl Gr
  dsimp only
  rw [if_neg (by decide),if_neg (by decide),if_pos (by rfl),show (EJ s c).1 = s.1 by rfl,Sn h.ch,Aa,(M8 _ _ _).2,Aa]
  rfl
theorem Abp {s:FW} (h:JZ s) {n:List Int}:T8 s SR n BK:=by
 have f:=Dc h.ch
 refine ⟨true,(s.1,s.1,s.2.2.1,s.2.2.2.1,s.2.2.2.2.1,s.2.2.2.2.2),⟨h.ch,h.ch,h.mu,h.ca,h.ve⟩,(fun e=>by cases e),Nat.le_succ _,?_,fun c=>?_⟩
 ·unfold BK SR
  rw [if_neg (by decide),if_neg (by decide),if_neg (by decide),if_pos (by rfl),Bt (by simp; omega),Aa]
  rfl
 ·unfold Cz SR Gr
  dsimp only
  rw [if_neg (by decide),if_neg (by decide),if_neg (by decide),if_pos (by rfl),show (EJ s c).1 = s.1 by rfl,N3 _ (by omega),Aa]
  rfl
theorem Zw {s:FW} (h:JZ s) {n:List Int} (f:n.length = 1):T8 s Pm n BK:=by
 obtain ⟨a,rfl⟩:=XD f
 refine ⟨BO a 1 64,if BO a 1 64 = true then (s.1,s.2.1,a,s.2.2.2.1,s.2.2.2.2.1,s.2.2.2.2.2) else s,?_,(fun e=>by rw [e]; rfl),?_,?_,fun c=>?_⟩
 ·split
  ·exact ⟨h.ch,h.ke,h.mu,h.ca,h.ve⟩
  ·exact h
 ·split <;> exact Nat.le_succ _
 ·unfold BK Pm
  rw [if_neg (by decide),if_neg (by decide),if_neg (by decide),if_neg (by decide),It,Aa,CT,Aa,Aa]
  cases BO a 1 64 <;> rfl
 ·unfold Cz Pm Gr
  dsimp only
  rw [if_neg (by decide),if_neg (by decide),if_neg (by decide),if_neg (by decide),if_pos (by rfl),It,Aa,CU,Aa,Aa]
  cases BO a 1 64 <;> rfl
theorem Yu {s:FW} (h:JZ s) {n:List Int} (f:n.length = 2):T8 s NM n CG:=by
 obtain ⟨a,b,rfl⟩:=nl2 f
 have g:=(MY h.mu).2.1
 refine ⟨Gi (s.2.2.2.1 ++ [(a,b)]),if Gi (s.2.2.2.1 ++ [(a,b)]) = true then (s.1,s.2.1,s.2.2.1,s.2.2.2.1 ++ [(a,b)],s.2.2.2.2.1,s.2.2.2.2.2) else s,?_,(fun e=>by rw [e]; rfl),?_,?_,fun c=>?_⟩
 ·split
  ·rename_i e; exact ⟨h.ch,h.ke,e,h.ca,h.ve⟩
  ·exact h
 ·split <;> exact Nat.le_succ _
 ·unfold CG NM Gr
  dsimp only
  rw [if_pos (by rfl),It,Aa,Nb,Aa,Bt (by simp; omega),Aa,List.nil_append,Bt (by simp; omega),Aa,QV _ (by simp; omega),Aa]
  cases Gi (s.2.2.2.1 ++ [(a,b)]) <;> rfl
 ·unfold Cz NM Gr
  dsimp only
  rw [if_neg (by decide),if_neg (by decide),if_neg (by decide),if_neg (by decide),if_neg (by decide),if_pos (by rfl),It,Aa,Nb,Aa,show (EJ s c).2.2.2.1 = s.2.2.2.1 by rfl,Bt (by simp; omega),Aa,List.nil_append,Bt (by simp; omega),Aa,RT _ (by simp; omega),Aa]
  cases Gi (s.2.2.2.1 ++ [(a,b)]) <;> rfl
theorem Yt {s:FW} (h:JZ s) {n:List Int} (g:n.length = 3):T8 s NK n CG:=by
 obtain ⟨a,b,d,rfl⟩:=nl3 g
 have f:=M5 h.ve
 refine ⟨(L4 s.2.2.2.2.2 (a,b,d)).2,if (L4 s.2.2.2.2.2 (a,b,d)).2 = true then (s.1,s.2.1,s.2.2.1,s.2.2.2.1,s.2.2.2.2.1,(L4 s.2.2.2.2.2 (a,b,d)).1) else s,?_,(fun e=>by rw [e]; rfl),?_,?_,fun c=>?_⟩
 ·split
  ·rename_i e
   refine ⟨h.ch,h.ke,h.mu,h.ca,?_⟩
   unfold L4 at e ⊢
   dsimp only
   split
   ·assumption
   ·rename_i l; rw [if_neg l] at e; cases e
  ·exact h
 ·split <;> exact Nat.le_succ _
 ·unfold CG NK Bk
  dsimp only
  rw [if_neg (by decide),if_neg (by decide),It,Aa,Nb,Aa,XH,Aa,Tx h.ve f.2,Aa,Y0,Aa,Aa]
  cases (L4 s.2.2.2.2.2 (a,b,d)).2 <;> rfl
 ·unfold Cz NK Gr
  dsimp only
  rw [if_neg (by decide),if_neg (by decide),if_neg (by decide),if_neg (by decide),if_neg (by decide),if_neg (by decide),if_neg (by decide),if_pos (by rfl),It,Aa,Nb,Aa,XH,Aa,show (EJ s c).2.2.2.2.2.1 = s.2.2.2.2.2 by rfl,Ta h.ve f.2,Aa]
  cases (L4 s.2.2.2.2.2 (a,b,d)).2 <;> rfl
def Po (n:List Int):Prop:=∀ x ∈ n,0 ≤ x ∧ x ≤ 99999
theorem Aal {s:FW} (h:JZ s) (ai:s.2.2.2.2.1.length ≤ 39) {n:List Int} (hn:n.length = 4) (m:Po n):T8 s QB n CG:=by
 obtain ⟨a,b,d,e,rfl⟩:=nl4 hn
 have ah:=(Hn.1 h.ca).1
 have hK:∀ x ∈ s.2.2.2.2.1 ++ [(a,b,d,e)],L1 x:=by
  intro x f
  rcases AX.1 f with f | f
  ·exact Us h.ca x f
  ·rw [List.mem_singleton] at f
   subst f
   have hb:=m b (by simp)
   have hd:=m d (by simp)
   exact ⟨hb,hd⟩
 obtain ⟨Z,z1,v,z3,u⟩:=Yv (l:=s.2.2.2.2.1 ++ [(a,b,d,e)]) (by simp; omega) hK
 have g:=z1.length_eq
 rw [CM,List.length_singleton] at g
 refine ⟨Fw Z,if Fw Z = true then (s.1,s.2.1,s.2.2.1,s.2.2.2.1,Z,s.2.2.2.2.2) else s,?_,(fun e=>by rw [e]; rfl),?_,?_,fun c=>?_⟩
 ·split
  ·rename_i e; exact ⟨h.ch,h.ke,h.mu,e,h.ve⟩
  ·exact h
 ·split
  ·exact Nat.le_of_eq g
  ·exact Nat.le_succ _
 ·unfold CG QB Gr
  dsimp only
  rw [if_neg (by decide),if_pos (by rfl),It,Aa,Nb,Aa,XH,Aa,ix3,Aa,Bt (by simp; omega),Aa,List.nil_append,Bt (by simp; omega),Aa,v,Aa,z3,Aa]
  cases Fw Z <;> rfl
 ·unfold Cz QB Gr W0
  dsimp only
  rw [if_neg (by decide),if_neg (by decide),if_neg (by decide),if_neg (by decide),if_neg (by decide),if_neg (by decide),if_pos (by rfl),It,Aa,Nb,Aa,XH,Aa,ix3,Aa,show (EJ s c).2.2.2.2.1 = s.2.2.2.2.1 by rfl,Bt (by simp; omega),Aa,List.nil_append,Bt (by simp; omega),Aa,u,Aa]
  cases Fw Z <;> rfl
def Pi (s:FW) (w:List Aj) (n:List Int):Prop:=∃ r,r.length ≤ 1000 ∧ Cb s w n = some r ∧ ∀ c,C3 (EJ s c) w n = some r
theorem Ob {r:Int × Bool} (h:0 ≤ r.1) (e:r.1 ≤ 1000000000):(OW r).length ≤ 1000:=by
 unfold OW
 split
 ·have:=Hz (k:=9) (u:=r.1.toNat) (by omega)
  omega
 ·decide
theorem Aai (e:Int):Lj Ql e = ([],false):=by
 unfold Lj
 rw [Sr]
 rfl
theorem Aaa (e:Int):Mf Ql e = (0,false):=by
 unfold Mf
 rw [Sr]
 rfl
theorem Abc:M6 Ql = (0,false):=by
 unfold M6
 rw [Sr]
 rfl
theorem UZ {a b:List (Int × Int)} {n:Int} (h:(Em a b n).2 = false):(Em a b n).1 = Ql:=by
 unfold Em at *
 split
 ·rename_i e; rw [if_pos e] at h; cases h
 ·rfl
theorem Zl {a b:List (Int × Int)} {n:Int} (h:(Fz a b n).2 = false):(Fz a b n).1 = Ql:=by
 unfold Fz at *
 split
 ·rename_i e; rw [if_pos e] at h; cases h
 ·rfl
theorem Add {s:FW} (h:JZ s) {n:List Int}:Pi s VK n:=by
 have h1:=Dc h.ch
 have m:=Dc h.ke
 have f:=Zk s.2.1 s.1 s.2.2.1
 have e:=Abd (Fz s.2.1 s.1 s.2.2.1).1
 have g:=Oj (r:=M6 (Fz s.2.1 s.1 s.2.2.1).1) e.1 (by omega)
 refine ⟨OW (M6 (Fz s.2.1 s.1 s.2.2.1).1),Ob e.1 (by omega),?_,fun c=>?_⟩
 ·unfold Cb VK Wz
  dsimp only
  rw [if_pos (by rfl),PU (by omega) (by omega),Aa,show ((Fz s.2.1 s.1 s.2.2.1).1.1,(Fz s.2.1 s.1 s.2.2.1).1.2.1,(Fz s.2.1 s.1 s.2.2.1).1.2.2.1,(Fz s.2.1 s.1 s.2.2.1).1.2.2.2) = (Fz s.2.1 s.1 s.2.2.1).1 by rfl,f.sum.1,Aa,g.1,Aa]
 ·unfold C3 VK jK5
  dsimp only
  rw [if_pos (by rfl),show (EJ s c).1 = s.1 by rfl,show (EJ s c).2.1 = s.2.1 by rfl,show (EJ s c).2.2.1 = s.2.2.1 by rfl,PI (by omega) (by omega),Aa,show ((Fz s.2.1 s.1 s.2.2.1).1.1,(Fz s.2.1 s.1 s.2.2.1).1.2.1,(Fz s.2.1 s.1 s.2.2.1).1.2.2.1,(Fz s.2.1 s.1 s.2.2.1).1.2.2.2) = (Fz s.2.1 s.1 s.2.2.1).1 by rfl]
  cases l:(Fz s.2.1 s.1 s.2.2.1).2 with
  | true=>rw [if_neg (by simp),f.sum.2,Aa,g.2,Aa]
  | false =>
   rw [if_pos (by rfl),Zl l,Abc]
   rfl
theorem Yo {t:BX} (h:SmT t) (f:Int):(∀ q ∈ (Lj t f).1,Oa q) ∧ (Lj t f).1.length ≤ 144:=by
 have:=h.h1
 unfold Lj
 split
 ·refine ⟨fun q e=>?_,?_⟩
  ·obtain ⟨i,k,h1,g,m,l,_⟩:=Zd e
   exact ⟨i,k,h1,by omega,by omega⟩
  ·have h1:=QP (XM t f) t.1.length t.1.length
   have g:t.1.length * t.1.length ≤ 12 * 12:=Nat.mul_le_mul this this
   dsimp only
   omega
 ·exact ⟨(fun q e=>by cases e),by simp⟩
theorem Ys {P:List (List Int)} (h:∀ q ∈ P,Oa q) (g:P.length ≤ 144):(Oi P).length ≤ 1000:=by
 unfold Oi
 split
 ·decide
 ·have:=QR (B:=5) (P.map Ox) (fun w f=>by
   obtain ⟨q,e,rfl⟩:=List.mem_map.1 f
   exact (Pk (h q e)).2)
  rw [List.length_map] at this
  omega
theorem Aas {s:FW} (h:JZ s) {n:List Int} (l:n.length = 1):Pi s QA n:=by
 obtain ⟨a,rfl⟩:=XD l
 have h1:=Dc h.ch
 have u:=Dc h.ke
 have f:=UY s.2.1 s.1 s.2.2.1
 obtain ⟨e,g⟩:=Yo f a
 refine ⟨if (Lj (Em s.2.1 s.1 s.2.2.1).1 a).2 = true then Oi (Lj (Em s.2.1 s.1 s.2.2.1).1 a).1 else [110,111],?_,?_,fun c=>?_⟩
 ·split
  ·exact Ys e g
  ·decide
 ·unfold Cb QA GN Wz
  dsimp only
  rw [if_neg (by decide),if_pos (by rfl),It,Aa,Mh (by omega) (by omega),Aa,show ((Em s.2.1 s.1 s.2.2.1).1.1,(Em s.2.1 s.1 s.2.2.1).1.2.1,(Em s.2.1 s.1 s.2.2.1).1.2.2.1,(Em s.2.1 s.1 s.2.2.1).1.2.2.2) = (Em s.2.1 s.1 s.2.2.1).1 by rfl,QW f,Aa]
  generalize Lj (Em s.2.1 s.1 s.2.2.1).1 a = r at *
  obtain ⟨P,b⟩:=r
  cases b with
  | false=>rfl
  | true =>
   dsimp only at e g ⊢
   rw [if_neg (by simp),if_pos rfl]
   unfold Oi
   cases P with
   | nil=>rfl
   | cons q P =>
    rw [if_neg (by simp; omega),Yr e (by omega),Aa,if_neg (by simp)]
 ·unfold C3 QA Ht ED Bk
  dsimp only
  rw [if_neg (by decide),if_pos (by rfl),It,Aa,show (EJ s c).1 = s.1 by rfl,show (EJ s c).2.1 = s.2.1 by rfl,show (EJ s c).2.2.1 = s.2.2.1 by rfl,LW (by omega) (by omega),Aa,Aa,QG f,Aa]
  cases m:(Em s.2.1 s.1 s.2.2.1).2 with
  | false =>
   rw [UZ m,Aai]
   rfl
  | true =>
   generalize Lj (Em s.2.1 s.1 s.2.2.1).1 a = r at *
   obtain ⟨P,b⟩:=r
   cases b with
   | false=>rfl
   | true =>
    dsimp only at e g ⊢
    rw [if_neg (by simp),if_neg (by simp),Yq e (by omega),Aa,if_pos rfl]
theorem Abv {s:FW} (h:JZ s) {n:List Int} (l:n.length = 1):Pi s SQ n:=by
 obtain ⟨a,rfl⟩:=XD l
 have h1:=Dc h.ch
 have u:=Dc h.ke
 have f:=UY s.2.1 s.1 s.2.2.1
 have e:=Aab (Em s.2.1 s.1 s.2.2.1).1 a
 have g:=Oj (r:=Mf (Em s.2.1 s.1 s.2.2.1).1 a) e.1 (by omega)
 refine ⟨OW (Mf (Em s.2.1 s.1 s.2.2.1).1 a),Ob e.1 (by omega),?_,fun c=>?_⟩
 ·unfold Cb SQ Wz
  dsimp only
  rw [if_neg (by decide),if_neg (by decide),if_pos (by rfl),Mh (by omega) (by omega),Aa,It,Aa,show ((Em s.2.1 s.1 s.2.2.1).1.1,(Em s.2.1 s.1 s.2.2.1).1.2.1,(Em s.2.1 s.1 s.2.2.1).1.2.2.1,(Em s.2.1 s.1 s.2.2.1).1.2.2.2) = (Em s.2.1 s.1 s.2.2.1).1 by rfl,Tw f,Aa,g.1,Aa]
 ·unfold C3 SQ ED
  rw [if_neg (by decide),if_neg (by decide),if_pos (by rfl),show (EJ s c).1 = s.1 by rfl,show (EJ s c).2.1 = s.2.1 by rfl,show (EJ s c).2.2.1 = s.2.2.1 by rfl,LW (by omega) (by omega),Aa,Aa,It,Aa]
  cases m:(Em s.2.1 s.1 s.2.2.1).2 with
  | true=>rw [if_neg (by simp),SZ f,Aa,g.2,Aa]
  | false =>
   rw [if_pos (by rfl),UZ m,Aaa]
   rfl
theorem Aar {s:FW} (h:JZ s) {n:List Int}:Pi s Q9 n:=by
 obtain ⟨l,g,e,m⟩:=S6 h.ch
 have f:=Oj (r:=Na s.1) e (by omega)
 refine ⟨OW (Na s.1),Ob e (by omega),?_,fun c=>?_⟩
 ·unfold Cb Q9
  rw [if_neg (by decide),if_neg (by decide),if_neg (by decide),if_pos (by rfl),l,Aa,f.1,Aa]
 ·unfold C3 Q9
  rw [if_neg (by decide),if_neg (by decide),if_neg (by decide),if_pos (by rfl),show (EJ s c).1 = s.1 by rfl,g,Aa,f.2,Aa]
theorem Abt {s:FW} (h:JZ s) {n:List Int} (l:n.length = 1) (m:Po n):Pi s SN n:=by
 obtain ⟨a,rfl⟩:=XD l
 have g:=m a (by simp)
 have e:=ZA h.mu (c:=a) g.2
 have f:=Oj (r:=N2 s.2.2.2.1 a) e.1 (by omega)
 refine ⟨OW (N2 s.2.2.2.1 a),Ob e.1 (by omega),?_,fun c=>?_⟩
 ·unfold Cb SN
  rw [if_neg (by decide),if_neg (by decide),if_neg (by decide),if_neg (by decide),if_neg (by decide),if_neg (by decide),if_pos (by rfl),It,Aa,Xr h.mu,Aa,f.1,Aa]
 ·unfold C3 SN
  rw [if_neg (by decide),if_neg (by decide),if_neg (by decide),if_neg (by decide),if_pos (by rfl),It,Aa,show (EJ s c).2.2.2.1 = s.2.2.2.1 by rfl,Xl h.mu,Aa,f.2,Aa]
theorem Adc {s:FW} (h:JZ s) {n:List Int} (f:n.length = 2):Pi s VJ n:=by
 obtain ⟨a,b,rfl⟩:=nl2 f
 have e:=Aa8 h.ca a b
 refine ⟨if (Nh s.2.2.2.2.1 a b).2 = true then Lib.decDigits (Nh s.2.2.2.2.1 a b).1.toNat else [110,111,110,101],?_,?_,fun c=>?_⟩
 ·split
  ·have:=Hz (k:=1) (u:=(Nh s.2.2.2.2.1 a b).1.toNat) (by omega)
   omega
  ·decide
 ·unfold Cb VJ
  rw [if_neg (by decide),if_neg (by decide),if_neg (by decide),if_neg (by decide),if_neg (by decide),if_neg (by decide),if_neg (by decide),if_pos (by rfl),It,Aa,Nb,Aa,Ud h.ca,Aa,LD e.1 (by omega),Aa]
  cases (Nh s.2.2.2.2.1 a b).2 <;> rfl
 ·unfold C3 VJ
  rw [if_neg (by decide),if_neg (by decide),if_neg (by decide),if_neg (by decide),if_neg (by decide),if_pos (by rfl),It,Aa,Nb,Aa,show (EJ s c).2.2.2.2.1 = s.2.2.2.2.1 by rfl,TO h.ca,Aa,Ka e.1 (by omega),Aa]
  cases (Nh s.2.2.2.2.1 a b).2 <;> rfl
theorem Aap {s:FW} (h:JZ s) {n:List Int} (e:n.length = 1):Pi s Q7 n:=by
 obtain ⟨a,rfl⟩:=XD e
 obtain ⟨⟨z,b⟩,v,m,f⟩:=WJ h.ve a
 refine ⟨if b = true then Gx (z.map My) else [110,111],?_,?_,fun c=>?_⟩
 ·split
  ·rename_i g
   obtain ⟨l,g⟩:=f g
   have:=QR (B:=3) (z.map My) (fun w u=>by
    obtain ⟨n,e,rfl⟩:=List.mem_map.1 u
    exact Rt (g n e).2)
   rw [List.length_map] at this
   dsimp only at l
   omega
  ·decide
 ·unfold Cb Q7 Fx
  rw [if_neg (by decide),if_neg (by decide),if_neg (by decide),if_neg (by decide),if_neg (by decide),if_neg (by decide),if_neg (by decide),if_neg (by decide),It,Aa,v,Aa]
  cases b with
  | false=>rfl
  | true =>
   rw [if_neg (by simp),Vl (f rfl),Aa]
   rfl
 ·unfold C3 Q7
  rw [if_neg (by decide),if_neg (by decide),if_neg (by decide),if_neg (by decide),if_neg (by decide),if_neg (by decide),if_pos (by rfl),It,Aa,show (EJ s c).2.2.2.2.2.1 = s.2.2.2.2.2 by rfl,m,Aa]
  cases b with
  | false=>rfl
  | true =>
   rw [if_neg (by simp),Xu (f rfl),Aa]
   rfl
theorem Abu {s:FW} (h:JZ s) {n:List Int} (g:n.length = 1) (l:Po n):Pi s SO n:=by
 obtain ⟨a,rfl⟩:=XD g
 have f:=l a (by simp)
 have h1:=Dc h.ch
 refine ⟨if (s.1.length:Int) ≤ a then [110,111] else PH (DY s.1 a.toNat),?_,?_,fun c=>?_⟩
 ·split
  ·decide
  ·have:=YA (I8 h.ch (i:=a.toNat) (by omega))
   omega
 ·unfold Cb SO
  rw [if_neg (by decide),if_neg (by decide),if_neg (by decide),if_neg (by decide),if_pos (by rfl),It,Aa,Aa]
  by_cases e:(s.1.length:Int) ≤ a
  ·rw [if_pos (decide_eq_true e),if_pos e]
  ·rw [if_neg (by simpa using e),if_neg e,Iy f.1,Dq (by omega),Aa,Vq (I8 h.ch (by omega)),Aa]
 ·unfold C3 SO
  rw [if_neg (by decide),if_neg (by decide),if_neg (by decide),if_neg (by decide),if_neg (by decide),if_neg (by decide),if_neg (by decide)]
  obtain ⟨m,u⟩:∃ m,FU = m + 2:=⟨FU - 2,rfl⟩
  rw [u,CA,if_pos (by simp),It,Aa,show (EJ s c).1 = s.1 by rfl]
  by_cases e:(s.1.length:Int) ≤ a
  ·rw [if_pos (decide_eq_true e),if_pos e]
  ·rw [if_neg (by simpa using e),if_neg e,show Ae (0 + 1) = 1 by decide,CA,if_neg (by simp),if_pos (by rfl),It,Aa,show (EJ s c).1 = s.1 by rfl,Iy f.1,Dq (by omega),Aa,Xf (I8 h.ch (by omega)),Aa]
theorem Aaq {s:FW} (h:JZ s) {n:List Int} (hn:n.length = 2) (v:Po n):Pi s NL n:=by
 obtain ⟨a,b,rfl⟩:=nl2 hn
 have u:=v a (by simp)
 have hb:=v b (by simp)
 have h1:=Dc h.ch
 by_cases e:(s.1.length:Int) ≤ Fy a b
 ·have ah:(s.1.length:Int) ≤ a ∨ (s.1.length:Int) ≤ b:=by unfold Fy at e; split at e <;> omega
  refine ⟨[110,111],by decide,?_,fun c=>?_⟩
  ·unfold Cb NL
   rw [if_neg (by decide),if_neg (by decide),if_neg (by decide),if_neg (by decide),if_neg (by decide),if_pos (by rfl),It,Aa,Nb,Aa,if_pos (decide_eq_true e)]
  ·unfold C3 NL
   rw [if_neg (by decide),if_neg (by decide),if_neg (by decide),if_neg (by decide),if_neg (by decide),if_neg (by decide),if_neg (by decide)]
   obtain ⟨m,g⟩:∃ m,FU = m + 3:=⟨FU - 3,rfl⟩
   rw [g,CA,if_pos (by simp),It,Aa,show (EJ s c).1 = s.1 by rfl]
   by_cases f:(s.1.length:Int) ≤ a
   ·rw [if_pos (decide_eq_true f)]
   ·rw [if_neg (by simpa using f),show Ae (0 + 1) = 1 by decide,CA,if_pos (by simp),Nb,Aa,show (EJ s c).1 = s.1 by rfl,if_pos (decide_eq_true (by omega))]
 ·have f:¬ (s.1.length:Int) ≤ a:=by unfold Fy at e; split at e <;> omega
  have ac:¬ (s.1.length:Int) ≤ b:=by unfold Fy at e; split at e <;> omega
  obtain ⟨e1,e2,l,b2⟩:=Uu (I8 h.ch (i:=a.toNat) (by omega)) (I8 h.ch (i:=b.toNat) (by omega))
  have nb:=Oj (r:=NQ (DY s.1 a.toNat) (DY s.1 b.toNat)) l (by omega)
  refine ⟨OW (NQ (DY s.1 a.toNat) (DY s.1 b.toNat)),Ob l (by omega),?_,fun c=>?_⟩
  ·unfold Cb NL
   rw [if_neg (by decide),if_neg (by decide),if_neg (by decide),if_neg (by decide),if_neg (by decide),if_pos (by rfl),It,Aa,Nb,Aa,if_neg (by simpa using e),Aa,Iy u.1,Dq (by omega),Aa,Aa,Iy hb.1,Dq (by omega),Aa,e1,Aa,nb.1,Aa]
  ·unfold C3 NL
   rw [if_neg (by decide),if_neg (by decide),if_neg (by decide),if_neg (by decide),if_neg (by decide),if_neg (by decide),if_neg (by decide)]
   obtain ⟨m,g⟩:∃ m,FU = m + 3:=⟨FU - 3,rfl⟩
   rw [g,CA,if_pos (by simp),It,Aa,show (EJ s c).1 = s.1 by rfl,if_neg (by simpa using f),show Ae (0 + 1) = 1 by decide,CA,if_pos (by simp),Nb,Aa,show (EJ s c).1 = s.1 by rfl,if_neg (by simpa using ac),show Ae (1 + 1) = 2 by decide,CA,if_neg (by simp),if_neg (by decide),It,Aa,show (EJ s c).1 = s.1 by rfl,Iy u.1,Dq (by omega),Aa,Nb,Aa,Iy hb.1,Dq (by omega),Aa,e2,Aa,nb.2,Aa]
structure VF (s:FW) (l:List Aj) (r:List Aj) (s':FW):Prop where
 ok:JZ s'
 len:r.length ≤ 1000
 car:s'.2.2.2.2.1.length ≤ s.2.2.2.2.1.length + 1
 im:Dv s l = some (r,s')
 sp:∀ c,Ed (EJ s c) l = some (r,EJ s' c)
 no:r = [110,111] ∨ r = [119,104,97,116] → s' = s
theorem ZE (c:Aj) (l:List Aj):∃ w e,CZ c l = w :: e:=by
 cases h:CZ c l with
 | nil=>have:=Jn c l; rw [h] at this; simp at this
 | cons w e=>exact ⟨w,e,rfl⟩
theorem Acm {b:Bool} (h:Qk b = [110,111] ∨ Qk b = [119,104,97,116]):b = false:=by
 cases b with
 | false=>rfl
 | true=>rcases h with h | h <;> exact absurd h (by decide)
theorem YB (c:Aj):∀ (m:List Aj),∀ b ∈ CZ c m,b.length ≤ m.length:=by
 intro m
 induction m with
 | nil=>intro b e; simp [CZ] at e; simp [e]
 | cons x m f =>
  intro b e
  rw [CZ] at e
  split at e
  ·rcases List.mem_cons.1 e with rfl | e
   ·simp
   ·have:=f b e; simp; omega
  ·cases g:CZ c m with
   | nil=>have:=Jn c m; rw [g] at this; simp at this
   | cons a t =>
    rw [g] at e f
    rcases List.mem_cons.1 e with rfl | e
    ·have:=f a (List.mem_cons_self ..); simp; omega
    ·have:=f b (List.mem_cons_of_mem _ e); simp; omega
theorem XS {s:FW} (h:JZ s) (u:s.2.2.2.2.1.length ≤ 39) {w:List Aj} {f:List Int} (g:Po f) (l:Pd w = (f.length:Int)) :
  (∃ F,T8 s w f F ∧ (w ∈ IZ ∧ F = BK ∨ w ∈ Pe ∧ F = CG)) ∨ (w ∈ LL ∧ Pi s w f):=by
 have m:=ZZ (w:=w) (by rw [l]; omega)
 have len:∀ k:Nat,Pd w = (k:Int) → f.length = k:=fun k e=>by rw [e] at l; omega
 simp only [IZ,Pe,LL,List.cons_append,List.nil_append,List.mem_cons,List.not_mem_nil,or_false] at m
 rcases m with rfl | rfl | rfl | rfl | rfl | rfl | rfl | rfl | rfl | rfl | rfl | rfl | rfl | rfl | rfl | rfl | rfl
 ·exact .inl ⟨_,Abo h (len 2 rfl),.inl ⟨by simp [IZ],rfl⟩⟩
 ·exact .inl ⟨_,Aak h (len 3 rfl),.inl ⟨by simp [IZ],rfl⟩⟩
 ·exact .inl ⟨_,Zv h,.inl ⟨by simp [IZ],rfl⟩⟩
 ·exact .inl ⟨_,Abp h,.inl ⟨by simp [IZ],rfl⟩⟩
 ·exact .inl ⟨_,Zw h (len 1 rfl),.inl ⟨by simp [IZ],rfl⟩⟩
 ·exact .inl ⟨_,Yu h (len 2 rfl),.inr ⟨by simp [Pe],rfl⟩⟩
 ·exact .inl ⟨_,Aal h u (len 4 rfl) g,.inr ⟨by simp [Pe],rfl⟩⟩
 ·exact .inl ⟨_,Yt h (len 3 rfl),.inr ⟨by simp [Pe],rfl⟩⟩
 ·exact .inr ⟨by simp [LL],Add h⟩
 ·exact .inr ⟨by simp [LL],Aas h (len 1 rfl)⟩
 ·exact .inr ⟨by simp [LL],Abv h (len 1 rfl)⟩
 ·exact .inr ⟨by simp [LL],Aar h⟩
 ·exact .inr ⟨by simp [LL],Abt h (len 1 rfl) g⟩
 ·exact .inr ⟨by simp [LL],Adc h (len 2 rfl)⟩
 ·exact .inr ⟨by simp [LL],Aap h (len 1 rfl)⟩
 ·exact .inr ⟨by simp [LL],Abu h (len 1 rfl) g⟩
 ·exact .inr ⟨by simp [LL],Aaq h (len 2 rfl) g⟩
theorem ZQ {l:List (List Aj)} {f:List Int} (h:IW Pq l = some f):Po f:=by
 refine Wt (fun x y e=>?_) h
 unfold Pq at e
 split at e
 ·rename_i g
  cases e
  exact DB.1 g
 ·cases e
theorem ZJ (s:FW) (w:List Aj) {f:List (List Aj)} (hl:f.length ≤ 2000) (hm:∀ a ∈ f,a.length ≤ 2000):BU f s w FU [] 0 = match IW Pq f with
  | none=>some ([119,104,97,116],s)
  | some g=>BU f s w 1 g (f.length:Int):=by
 refine (VB (BU f s w) f Pq (fun g=>BU f s w 1 g (f.length:Int)) (some ([119,104,97,116],s)) (by omega) (fun m k ad x l ha=>?_) (fun m ad ha=>?_)).trans (by cases IW Pq f <;> rfl)
 ·have hk:=(List.getElem?_eq_some_iff.1 l).1
  have ag:=hm x (List.mem_of_getElem? l)
  rw [BU,if_pos (by simp; omega),AY,l,Aa,W1 x (by omega),Aa,AD (by omega)]
  unfold Bk Pq
  dsimp only
  cases u:BO (Li x) 0 99999 with
  | true =>
   obtain ⟨e,v⟩:=Xn u
   rw [e,if_neg (by simp),if_neg (by simp; omega),Bt (by simp; omega),Aa,if_pos rfl]
  | false =>
   rw [if_neg (c:=false = true) (by simp)]
   cases hb:(Mc x).2 with
   | false=>rw [if_pos (by rfl),if_pos rfl]
   | true =>
    have v:99999 < (Mc x).1:=by
     rcases Wn u with h | h
     ·rw [hb] at h; cases h
     ·exact h
    rw [if_neg (by simp),if_pos (decide_eq_true v)]
 ·rw [BU,BU,if_neg (by simp),if_neg (by simp)]
theorem Zj (x:SpT) (u:List (List Aj)) {e:List (List Aj)} (hl:e.length ≤ 2000) (l:∀ a ∈ e,a.length ≤ 2000):BT e x u FU [] 0 = match IW Pq e with
  | none=>some ([119,104,97,116],x)
  | some g=>BT e x u 1 g (e.length:Int):=by
 refine (VB (BT e x u) e Pq (fun g=>BT e x u 1 g (e.length:Int)) (some ([119,104,97,116],x)) (by omega) (fun m k s y f h=>?_) (fun m s h=>?_)).trans (by cases IW Pq e <;> rfl)
 ·have v:=(List.getElem?_eq_some_iff.1 f).1
  have aa:=l y (List.mem_of_getElem? f)
  rw [BT,if_pos (by simp; omega),AY,f,Aa,Zm y (by omega),Aa,CU,Aa,AD (by omega),Bt (by simp; omega),Aa]
  unfold Pq
  cases BO (Li y) 0 99999 <;> rfl
 ·rw [BT,BT,if_neg (by simp),if_neg (by simp)]
theorem Va {s:FW} (h:JZ s) (ax:s.2.2.2.2.1.length ≤ 39) {l:List Aj} (hl:l.length ≤ 2000):∃ r s',VF s l r s':=by
 obtain ⟨w,f,ah⟩:=ZE 32 l
 have am:f.length ≤ 2000:=by
  have h1:=Jn 32 l
  have h2:l.count 32 ≤ l.length:=List.count_le_length
  rw [ah,List.length_cons] at h1
  omega
 have aw:∀ a ∈ f,a.length ≤ 2000:=fun a ha=>by
  have:=YB 32 l a (by rw [ah]; exact List.mem_cons_of_mem _ ha)
  omega
 have ay:Gd l [32] = some (w :: f):=by rw [← ah]; exact X4 l 32 (by omega)
 have a1:FO l 32 = some (w :: f):=by rw [← ah]; exact SX l 32 (by omega)
 have ar:sl (w :: f) 1 (((w :: f).length:Nat):Int) = some f:=Tc (w :: f) (k:=1) (by simp)
 have im:Dv s l = match IW Pq f with
  | none=>some ([119,104,97,116],s)
  | some m=>BU f s w 1 m (f.length:Int):=by
  unfold Dv
  rw [ay,Aa,It,Aa,ar,Aa,ZJ s w am aw]
 have sp:∀ c,Ed (EJ s c) l = if (f.length:Int) ≠ Pd w then some ([119,104,97,116],EJ s c) else match IW Pq f with
  | none=>some ([119,104,97,116],EJ s c)
  | some m=>BT f (EJ s c) (w :: f) 1 m (f.length:Int):=by
  intro c
  unfold Ed
  rw [a1,Aa,It,Aa,Tz,Aa,ar,Aa,Zj _ _ am aw,A6 (by rw [List.length_cons]; omega) (by rw [List.length_cons]; omega),show (((w :: f).length:Nat):Int) - 1 = (f.length:Int) by simp]
  by_cases e:(f.length:Int) = Pd w
  ·rw [if_neg (by simpa using e),if_neg (by simpa using e)]
  ·rw [if_pos (by simpa using e),if_pos e]
 have av:(∀ c,Ed (EJ s c) l = some ([119,104,97,116],EJ s c)) → Dv s l = some ([119,104,97,116],s) → ∃ r s',VF s l r s':=fun a b=>⟨_,s,h,by decide,Nat.le_succ _,b,a,fun _=>rfl⟩
 cases ad:IW Pq f with
 | none =>
  rw [ad] at im
  refine av (fun c=>?_) im
  rw [sp c,ad]
  split <;> rfl
 | some m =>
  have aq:=Wu ad
  rw [ad] at im
  dsimp only at im
  rw [BU,if_neg (by simp),TJ,Aa] at im
  by_cases hc:Pd w = (m.length:Int)
  ·rw [if_neg (by simp [hc])] at im
   have ap:∀ c,Ed (EJ s c) l = BT f (EJ s c) (w :: f) 1 m (f.length:Int):=fun c=>by
    rw [sp c,if_neg (by rw [hc,aq]; simp),ad]
   rcases XS h ax (ZQ ad) hc with ⟨F,⟨ok,s',g1,g2,g3,g4,g5⟩,hF⟩ | ⟨g,r,g1,g2,g3⟩
   ·refine ⟨Qk ok,s',g1,by cases ok <;> decide,g3,?_,fun c=>?_,fun e=>g2 (Acm e)⟩
    ·rw [im]
     rcases hF with ⟨g,rfl⟩ | ⟨g,rfl⟩
     ·simp only [IZ,List.mem_cons,List.not_mem_nil,or_false] at g
      have ab:(Option.bind (BK s w m) fun u=>some (u.1,u.2)) = some (Qk ok,s'):=by rw [g4]; rfl
      rcases g with rfl | rfl | rfl | rfl | rfl <;> exact ab
     ·simp only [Pe,List.mem_cons,List.not_mem_nil,or_false] at g
      have ab:(Option.bind (CG s w m) fun u=>some (u.1,u.2)) = some (Qk ok,s'):=by rw [g4]; rfl
      rcases g with rfl | rfl | rfl <;> exact ab
    ·rw [ap c,BT,if_neg (by simp)]
     have ab:(Option.bind (Cz (EJ s c) w m) fun u=>Option.bind (Jg u.1) fun v=>some (v,u.2)) = some (Qk ok,EJ s' c):=by rw [g5,Aa,Abn]; rfl
     have au:w ∈ IZ ++ Pe:=by
      rcases hF with ⟨g,_⟩ | ⟨g,_⟩
      ·exact At _ g
      ·exact Bi _ g
     simp only [IZ,Pe,List.cons_append,List.nil_append,List.mem_cons,List.not_mem_nil,or_false] at au
     rcases au with rfl | rfl | rfl | rfl | rfl | rfl | rfl | rfl <;> exact ab
   ·refine ⟨r,s,h,g1,Nat.le_succ _,?_,fun c=>?_,fun _=>rfl⟩
    ·rw [im]
     have ab:(Option.bind (Cb s w m) fun u=>some (u,s)) = some (r,s):=by rw [g2]; rfl
     simp only [LL,List.mem_cons,List.not_mem_nil,or_false] at g
     rcases g with rfl | rfl | rfl | rfl | rfl | rfl | rfl | rfl | rfl <;> exact ab
    ·rw [ap c,BT,if_neg (by simp)]
     have ab:(Option.bind (C3 (EJ s c) w m) fun u=>some (u,EJ s c)) = some (r,EJ s c):=by rw [g3]; rfl
     simp only [LL,List.mem_cons,List.not_mem_nil,or_false] at g
     rcases g with rfl | rfl | rfl | rfl | rfl | rfl | rfl | rfl | rfl <;> exact ab
  ·rw [if_pos (by simpa using fun e=>hc e.symm)] at im
   refine av (fun c=>?_) im
   rw [sp c,if_pos (by rw [← aq]; exact fun e=>hc e.symm)]
def LU (s:FW) (l:List Aj):List Aj × FW:=(Dv s l).getD ([],s)
def LG (s:FW):List (List Aj) → FW
 | []=>s
 | l :: ls=>LG (LU s l).2 ls
def Ls (s:FW):List (List Aj) → List (List Aj)
 | []=>[]
 | l :: ls=>(LU s l).1 :: Ls (LU s l).2 ls
theorem OB (l:List Aj):∀ (e:List (List Aj)) (s:FW),LG s (e ++ [l]) = (LU (LG s e) l).2
 | [],s=>rfl
 | a :: e,s=>OB l e (LU s a).2
theorem QJ (l:List Aj):∀ (e:List (List Aj)) (s:FW),Ls s (e ++ [l]) = Ls s e ++ [(LU (LG s e) l).1]
 | [],s=>rfl
 | a :: e,s=>by rw [List.cons_append,Ls,QJ l e,Ls,LG]; rfl
theorem Sq:∀ (e:List (List Aj)) (s:FW),(Ls s e).length = e.length
 | [],s=>rfl
 | a :: e,s=>by rw [Ls,List.length_cons,Sq e,List.length_cons]
def KQ:FW:=([(0,0)],[(0,0)],8,[(4,120)],[],[((-1),0,0)])
theorem Acb:JZ KQ:=⟨by decide,by decide,by decide,by decide,by decide⟩
theorem X0 {s:FW} {l r:List Aj} {e:FW} (h:VF s l r e):LU s l = (r,e):=by unfold LU; rw [h.im]; rfl
structure Aei (ls:List (List Aj)) (k:Nat):Prop where
 ok:JZ (LG KQ (ls.take k))
 car:(LG KQ (ls.take k)).2.2.2.2.1.length ≤ k
 rep:∀ r ∈ Ls KQ (ls.take k),r.length ≤ 1000
theorem MS {α:Type} (l:List α) {k:Nat} (h:k < l.length):l.take (k + 1) = l.take k ++ [l[k]]:=List.take_succ_eq_append_getElem h
theorem O3 {l:List (List Aj)} (v:l.length ≤ 40) (s:∀ a ∈ l,a.length ≤ 2000):∀ k,k ≤ l.length → Aei l k
 | 0,_=>⟨Acb,Nat.le_refl _,fun r u=>by cases u⟩
 | k + 1,h=>by
  have f:=O3 v s k (by omega)
  have hc:=f.car
  obtain ⟨r,s',g⟩:=Va f.ok (by omega) (s l[k] (List.getElem_mem _))
  have e:=X0 g
  refine ⟨?_,?_,?_⟩
  ·rw [MS l (by omega),OB,e]; exact g.ok
  ·rw [MS l (by omega),OB,e]; exact Ay g.car (by omega)
  ·rw [MS l (by omega),QJ,e]
   intro x m
   rcases AX.1 m with m | m
   ·exact f.rep x m
   ·rw [List.mem_singleton] at m; rw [m]; exact g.len
theorem We {e:List (List Aj)} (l:e.length ≤ 40) (h:∀ a ∈ e,a.length ≤ 2000) {k:Nat} (m:k < e.length):VF (LG KQ (e.take k)) e[k] (LU (LG KQ (e.take k)) e[k]).1 (LG KQ (e.take (k + 1))):=by
 have f:=O3 l h k (by omega)
 have s:=f.car
 obtain ⟨r,u,g⟩:=Va f.ok (by omega) (h e[k] (List.getElem_mem _))
 rw [MS e m,OB,X0 g]
 exact g
theorem UU (e:List (List Aj)) {k:Nat} (f:k < e.length):Ls KQ (e.take (k + 1)) = Ls KQ (e.take k) ++ [(LU (LG KQ (e.take k)) e[k]).1]:=by rw [MS e f,QJ]
def Oh (p:List Aj → Bool) (rs:List (List Aj)):List Int:=((List.range rs.length).filter fun i=>p ((rs[i]?).getD [])).map fun (i:Nat)=>(i:Int) + 1
theorem Vd (p:List Aj → Bool) (e:List (List Aj)) (r:List Aj):Oh p (e ++ [r]) = Oh p e ++ if p r = true then [(e.length:Int) + 1] else []:=by
 unfold Oh
 rw [CM,List.length_singleton,List.range_succ,List.filter_append,List.map_append]
 have l:(List.range e.length).filter (fun i=>p (((e ++ [r])[i]?).getD [])) = (List.range e.length).filter fun i=>p ((e[i]?).getD []):=by
  refine List.filter_congr fun i g=>?_
  rw [List.getElem?_append_left (List.mem_range.1 g)]
 rw [l,List.filter_cons]
 have h:(e ++ [r])[e.length]? = some r:=by simp
 rw [h]
 cases f:p r <;> simp [f]
def XC (r:List Aj):Bool:=r == [110,111]
def VG (r:List Aj):Bool:=r == [119,104,97,116]
theorem W3 (p:List Aj → Bool) (e:List (List Aj)):(Oh p e).length ≤ e.length:=by
 unfold Oh
 rw [List.length_map]
 exact Ay (List.length_filter_le _ _) (by simp)
structure Aeh (l:List Aj):Prop where
 n40:(D5 l).length ≤ 40
 each:∀ a ∈ D5 l,a.length ≤ 2000
theorem QI {l:List Aj} (h:GT l = true):Aeh l:=by
 obtain ⟨h1,f,g⟩:=GS.1 h
 exact ⟨by rw [PQ f]; exact g,fun a e=>Ay (Ye e) h1⟩
def Un (l:List Aj):FW:=LG KQ (D5 l)
def QK (l:List Aj):List (List Aj):=Ls KQ (D5 l)
theorem Ua {l:List Aj} (s:l.length ≤ 4194304):II l = some (if GT l = true then ((true,Un l),QK l,true) else ((false,([],[],0,[],[],[])),[],false)):=by
 unfold II
 rw [TQ l s,Aa]
 unfold NE
 cases h:GT l with
 | false=>rfl
 | true =>
  have f:=QI h
  rw [if_pos rfl,if_neg (by simp),if_pos rfl]
  unfold KM
  rw [Aa]
  refine Eq.trans (EM (fun m (z:FW × List (List Aj)) k=>Eu (D5 l,true) m z.1 z.2 k) (D5 l).length (fun k=>(LG KQ ((D5 l).take k),Ls KQ ((D5 l).take k))) (some ((true,Un l),QK l,true)) (by have:=f.n40; omega) (j:=0) (by omega) (fun m k _ e=>?_) (fun m=>?_)) rfl
  ·have g:=We f.n40 f.each e
   have u:=Sq ((D5 l).take k) KQ
   rw [List.length_take,Nat.min_eq_left (by omega)] at u
   have v:=f.n40
   rw [Eu,if_pos (by simp; omega),AY,Cq e,Aa,g.im,Aa,Bt (by simp; omega),Aa,AD (by omega),UU _ e]
  ·rw [Eu,if_neg (by simp),List.take_length]
   rfl
def ctK (rs:List (List Aj)):CtT:=(Oh XC rs,Oh VG rs,0)
theorem XY {l:List Aj} (hl:l.length ≤ 4194304):Lb l = some (if GT l = true then (EJ (Un l) (Oh XC (QK l),Oh VG (QK l),((D5 l).length:Int)),KJ (QK l),true) else (EJ KQ ([],[],0),[],false)):=by
 unfold Lb Ll
 rw [Yn l hl,Aa,Aa]
 unfold NE
 cases h:GT l with
 | false=>rfl
 | true =>
  have f:=QI h
  have ai:=f.n40
  rw [if_pos rfl,if_neg (by simp),if_pos rfl]
  refine Eq.trans (EM (fun m (z:SpT × List Aj) k=>Gf (D5 l,true) m z.1 z.2 k) (D5 l).length (fun k=>(EJ (LG KQ ((D5 l).take k)) (ctK (Ls KQ ((D5 l).take k))),KJ (Ls KQ ((D5 l).take k)))) (some (EJ (Un l) (Oh XC (QK l),Oh VG (QK l),((D5 l).length:Int)),KJ (QK l),true)) (by omega) (j:=0) (by omega) (fun m k _ hk=>?_) (fun m=>?_)) rfl
  ·have g:=We f.n40 f.each hk
   have hr:=Sq ((D5 l).take k) KQ
   have ac:=(O3 f.n40 f.each k (by omega)).rep
   rw [List.length_take,Nat.min_eq_left (by omega)] at hr
   have hj:=Vb 1000 _ ac
   have h1:=W3 XC (Ls KQ ((D5 l).take k))
   have h2:=W3 VG (Ls KQ ((D5 l).take k))
   have ah:=g.len
   rw [Gf,if_pos (by simp; omega),AY,Cq hk,Aa,g.sp,Aa,UU _ hk]
   generalize (LU (LG KQ ((D5 l).take k)) (D5 l)[k]).1 = r at *
   unfold Bk ctK EJ
   dsimp only
   rw [Wy,Vd,Vd,hr,AD (by omega)]
   have ej:KJ [r] = r ++ [10]:=by unfold KJ; simp
   rw [ej]
   by_cases e:r = [110,111]
   ·have v:XC r = true:=by rw [e]; rfl
    have s:VG r = false:=by rw [e]; rfl
    rw [if_pos (by rw [e]; rfl),v,s,if_pos rfl,if_neg (c:=false = true) (by simp),List.append_nil,Bt (by simp; omega),Aa,Bt (by simp; omega),Aa,Bt (by simp; omega),Aa]
    rfl
   ·have v:XC r = false:=beq_eq_false_iff_ne.2 e
    rw [if_neg (by simpa using e),v,if_neg (c:=false = true) (by simp),List.append_nil]
    by_cases u:r = [119,104,97,116]
    ·have s:VG r = true:=by rw [u]; rfl
     rw [if_pos (by rw [u]; rfl),s,if_pos rfl,Bt (by simp; omega),Aa,Bt (by simp; omega),Aa,Bt (by simp; omega),Aa]
     rfl
    ·have s:VG r = false:=beq_eq_false_iff_ne.2 u
     rw [if_neg (by simpa using u),s,if_neg (c:=false = true) (by simp),List.append_nil,Bt (by simp; omega),Aa,Bt (by simp; omega),Aa]
  ·rw [Gf,if_neg (by simp),List.take_length]
   rfl
def Oy (l:List Aj):(List Iq) × Bool:=if GT l = true then ((Un l).2.2.2.2.2,true) else ([],false)
theorem QU {l:List Aj} (e:l.length ≤ 4194304):FSx l = some (Oy l):=by
 unfold FSx Oy
 rw [Ua e,Aa]
 cases GT l <;> rfl
theorem QF {l:List Aj} (e:l.length ≤ 4194304):GX l = some (Oy l):=by
 unfold GX Oy
 rw [XY e,Aa]
 cases GT l <;> rfl
theorem Abm {l:List Aj} (h:GT l = true):JZ (Un l):=by
 have f:=QI h
 have g:=(O3 f.n40 f.each _ (Nat.le_refl _)).ok
 rwa [List.take_length] at g
theorem Y5 (l:List Aj):(Oy l).1.length ≤ 60:=by
 unfold Oy
 cases h:GT l with
 | false=>simp
 | true=>exact (M5 (Abm h).ve).2
theorem Nd (l:List Aj) {G:Prop} (_:G):Gh l = some true:=by
 unfold Gh
 by_cases h:1048576 < (l.length:Int)
 ·rw [if_pos (decide_eq_true h)]
 ·have hl:=Y5 l
  obtain ⟨g,v,e,u,s,dr,f⟩:=Xo (Oy l).1 (by omega) 1 (by decide) (by unfold Ng; omega)
  have q:=Xt (Oy l).1 ⟨by omega,fun _ _=>trivial⟩
  have m:¬ g < 0:=by omega
  rw [if_neg (by simpa using h),QF (by omega),Aa,QU (by omega)]
  simp [Bk,q,e,f,m]
end Go.Proofs.YtellehgihceicaaGreatDoor
