/-
 WHAT THE LAWS ON SHOWS HAND OVER AND TAKE BACK, PLAIN.
-/
import Derived.Test.YtellehgihceicaaGreatDoorPH
import Derived.Test.YtellehgihceicaaGreatDoorPB2
set_option linter.unusedVariables false
set_option linter.unusedSimpArgs false
set_option maxHeartbeats 1600000
namespace Go.Proofs.YtellehgihceicaaGreatDoor
open Go
theorem ZL {α:Type} (f:Nat → List α → Int → Int → Ae (List α)) (g:List α) (h:g.length ≤ 9223372036854775807)
  (u:∀ m l y z,f (m + 1) l y z = if (decide (y < z)) = true then Option.bind (AL l z) fun a=>Option.bind (AL l y) fun b=>Option.bind (AL l y) fun _=>Option.bind (AL (BD l y a) z) fun _=>f m (BD (BD l y a) z b) (Ag (y + 1)) (Ag (z - 1)) else some l) :
  f FU g 0 (Ag ((List.length g:Int) - 1)) = some g.reverse:=by
 have ab:∀ (P T:List α) (x:α) (y:Int),y = (P.length:Int) → AL (P ++ x :: T) y = some x:=by
  intro P T x y e; unfold AL; rw [if_pos (by omega),show y.toNat = P.length by omega]; simp
 have ad:∀ (P T:List α) (x z:α) (y:Int),y = (P.length:Int) → BD (P ++ x :: T) y z = P ++ z :: T:=by
  intro P T x z y e; unfold BD; rw [show y.toNat = P.length by omega]; simp
 have ai:∀ (n:Nat) (M A B:List α) (m:Nat) (y z:Int),M.length ≤ 2 * n + 1 → n < m → y = (A.length:Int) → z = (A.length:Int) + (M.length:Int) - 1 → A.length + M.length ≤ 9223372036854775807 → f m (A ++ M ++ B) y z = some (A ++ M.reverse ++ B):=by
  intro n
  induction n with
  | zero =>
   intro M A B m y z v hm hy s hl
   cases m with
   | zero=>omega
   | succ m =>
    match M,v with
    | [],_=>rw [u,if_neg (by simp at s ⊢; omega)]; simp
    | [a],_=>rw [u,if_neg (by simp at s ⊢; omega)]; simp
  | succ n ih =>
   intro M A B m y z v hm hy s hl
   cases m with
   | zero=>omega
   | succ m =>
    match M with
    | []=>rw [u,if_neg (by simp at s ⊢; omega)]; simp
    | a :: M' =>
     rcases List.eq_nil_or_concat M' with rfl | ⟨M2,b,rfl⟩
     ·rw [u,if_neg (by simp at s ⊢; omega)]; simp
     ·rw [List.concat_eq_append] at *
      have aa:z = (A.length:Int) + (M2.length:Int) + 1:=by rw [s]; simp; omega
      have aq:A.length + M2.length + 2 ≤ 9223372036854775807:=by simp at hl; omega
      have e1:A ++ a :: (M2 ++ [b]) ++ B = (A ++ a :: M2) ++ b :: B:=by simp
      have e2:A ++ a :: (M2 ++ [b]) ++ B = A ++ a :: (M2 ++ [b] ++ B):=by simp
      have i1:AL (A ++ a :: (M2 ++ [b]) ++ B) z = some b:=by rw [e1]; exact ab _ _ _ _ (by rw [aa]; simp; omega)
      have i2:AL (A ++ a :: (M2 ++ [b]) ++ B) y = some a:=by rw [e2]; exact ab _ _ _ _ hy
      have s1:BD (A ++ a :: (M2 ++ [b]) ++ B) y b = (A ++ b :: M2) ++ b :: B:=by rw [e2,ad _ _ _ _ _ hy]; simp
      have i3:AL ((A ++ b :: M2) ++ b :: B) z = some b:=ab _ _ _ _ (by rw [aa]; simp; omega)
      have s2:BD ((A ++ b :: M2) ++ b :: B) z a = (A ++ [b]) ++ M2 ++ a :: B:=by rw [ad _ _ _ _ _ (by rw [aa]; simp; omega)]; simp
      rw [u,if_pos (by simp; omega),i1,Aa,i2,Aa,Aa,s1,i3,Aa,s2,A6 (x:=y + 1) (by omega) (by omega),A6 (x:=z - 1) (by omega) (by omega)]
      have:=ih M2 (A ++ [b]) (a :: B) m (y + 1) (z - 1) (by simp at v; omega) (by omega) (by simp; omega) (by simp; omega) (by simp; omega)
      rw [this]
      simp
 have:=ai (g.length / 2) g [] [] FU 0 (Ag ((List.length g:Int) - 1)) (by omega) (show g.length / 2 < 4611686018427387904 by omega) rfl (by rw [A6 (by omega) (by omega)]; simp) (by simpa using h)
 simpa using this
theorem ZM (x:List Int) (h:x.length < 4611686018427387904):Em x = some x.reverse:=by
 unfold Em
 exact ZL CS x (by omega) (fun m l y z=>by rw [CS]; rfl)
def MinSq (l:List (Int × Int)) (v:Int):Prop:=(∃ a b,a < b ∧ b < l.length ∧ v = GK (DW l a) (DW l b)) ∧ ∀ a b,a < b → b < l.length → v ≤ GK (DW l a) (DW l b)
theorem MinSq.uniq {l:List (Int × Int)} {v w:Int} (h:MinSq l v) (m:MinSq l w):v = w:=by
 obtain ⟨⟨a,b,h1,g,h3⟩,e⟩:=h
 obtain ⟨⟨s,b',g1,u,g3⟩,f⟩:=m
 have:=e s b' g1 u
 have:=f a b h1 g
 omega
def Ls (i k a b:Nat):Prop:=a < b ∧ (a < i ∨ (a = i ∧ b < k))
theorem Yf {l:List (Int × Int)} (hc:Cv l = true) (h2:2 ≤ l.length):∃ v,EC l = some (v,true) ∧ MinSq l v:=by
 have an:=(CY hc).2
 have ao:=fun a b (ha:a < l.length) (hb:b < l.length)=>(LL (I6 hc ha) (I6 hc hb)).2
 have ak:∃ z:Int × Int,HK l = some z ∧ ∃ a b:Nat,z = ((a:Int),(b:Int)) ∧ a < b ∧ b < l.length ∧ ∀ g f,g < f → f < l.length → GK (DW l a) (DW l b) ≤ GK (DW l g) (DW l f):=by
  unfold HK
  refine Exists.elim (JB (fun (_:Unit) m (z:Int × Int) i=>DQ l m z.1 z.2 i) l.length (fun i z=>∃ a b:Nat,z = ((a:Int),(b:Int)) ∧ a < b ∧ b < l.length ∧ ∀ g f,Ls i 0 g f → f < l.length → GK (DW l a) (DW l b) ≤ GK (DW l g) (DW l f))
   (fun _ z=>some z) (by omega) (fun i z _ hi hz=>?_) (fun z hz j m=>?_) (b:=0) (by omega) (s:=(0,1)) ⟨0,1,rfl,by omega,by omega,fun g f h=>by unfold Ls at h; omega⟩) ?_
  ·obtain ⟨a,b,rfl,ad,u,aa⟩:=hz
   refine Exists.elim (JB (fun (nx:Int → Int → Int → Ae (Int × Int)) m (z:Int × Int) k=>Ds l (i:Int) nx m z.1 z.2 k) l.length (fun k z=>∃ a b:Nat,z = ((a:Int),(b:Int)) ∧ a < b ∧ b < l.length ∧ ∀ g f,Ls i k g f → f < l.length → GK (DW l a) (DW l b) ≤ GK (DW l g) (DW l f))
    (fun nx z=>nx z.1 z.2 ((i + 1:Nat):Int)) (by omega) (fun k z aq hk hz=>?_) (fun z hz j m=>?_) (b:=i + 1) (by omega) (s:=((a:Int),(b:Int))) ⟨a,b,rfl,ad,u,fun g f h ac=>aa g f (by unfold Ls at h ⊢; omega) ac⟩) ?_
   ·obtain ⟨a,b,rfl,ad,u,aa⟩:=hz
    by_cases ai:GK (DW l i) (DW l k) < GK (DW l a) (DW l b)
    ·refine ⟨((i:Int),(k:Int)),⟨i,k,rfl,by omega,hk,fun g f h ac=>?_⟩,fun nx m=>?_⟩
     ·by_cases e:g = i ∧ f = k
      ·rw [e.1,e.2]; exact Int.le_refl _
      ·have:=aa g f (by unfold Ls at h ⊢; omega) ac
       omega
     ·rw [Ds,if_pos (by simp; omega)]
      unfold Gl
      dsimp only
      rw [AY,Dq hi,Aa,AY,Dq hk,Aa,AY,Dq (by omega),Aa,AY,Dq u,Aa,Ho,Aa,Ho,Aa,if_pos (decide_eq_true ai),AD (by omega)]
    ·refine ⟨((a:Int),(b:Int)),⟨a,b,rfl,ad,u,fun g f h ac=>?_⟩,fun nx m=>?_⟩
     ·by_cases e:g = i ∧ f = k
      ·rw [e.1,e.2]; omega
      ·exact aa g f (by unfold Ls at h ⊢; omega) ac
     ·rw [Ds,if_pos (by simp; omega)]
      unfold Gl
      dsimp only
      rw [AY,Dq hi,Aa,AY,Dq hk,Aa,AY,Dq (by omega),Aa,AY,Dq u,Aa,Ho,Aa,Ho,Aa,if_neg (by simpa using ai),AD (by omega)]
   ·rw [Ds,if_neg (by simp),AD (by omega)]
   ·rintro z ⟨⟨a,b,rfl,ad,u,aa⟩,hz⟩
    refine ⟨((a:Int),(b:Int)),⟨a,b,rfl,ad,u,fun g f h ac=>aa g f (by unfold Ls at h ⊢; omega) ac⟩,fun _ m=>?_⟩
    dsimp only at hz ⊢
    rw [DQ,if_pos (by simp; omega),AD (by omega)]
    exact hz _
  ·rw [DQ,if_neg (by simp)]
  ·rintro z ⟨⟨a,b,rfl,ad,u,aa⟩,hz⟩
   exact ⟨_,hz (),a,b,rfl,ad,u,fun g f h ac=>aa g f (by unfold Ls; omega) ac⟩
 obtain ⟨z,e,a,b,rfl,ad,u,aa⟩:=ak
 refine ⟨GK (DW l a) (DW l b),?_,⟨a,b,ad,u,rfl⟩,aa⟩
 unfold EC Bk
 dsimp only
 rw [GQ l (by omega),Aa,hc,if_neg (by simp),if_neg (by simp; omega),e,Aa,AY,Dq (by omega),Aa,AY,Dq u,Aa,Ho,Aa]
theorem XU {l:List (Int × Int)} (hc:Cv l = true) (h2:2 ≤ l.length):∃ v,Ec l = some (v,true) ∧ MinSq l v:=by
 have ax:=(CY hc).2
 have ai:=fun a b (ha:a < l.length) (hb:b < l.length)=>(LL (I6 hc ha) (I6 hc hb)).2.1
 have ao:∃ z:Int × Int × Int,JJ l = some z ∧ MinSq l z.2.2:=by
  unfold JJ
  refine Exists.elim (JB (fun (_:Unit) m (z:Int × Int × Int) i=>Fd l m z.1 z.2.1 z.2.2 i) l.length (fun i z=>(z.2.2 = -1 ∧ i = 0) ∨ ((∃ a b,a < b ∧ b < l.length ∧ z.2.2 = GK (DW l a) (DW l b)) ∧ ∀ g f,Ls i 0 g f → f < l.length → z.2.2 ≤ GK (DW l g) (DW l f)))
   (fun _ z=>some z) (by omega) (fun i z _ hi u=>?_) (fun z u j m=>?_) (b:=0) (by omega) (s:=(0,0,-1)) (.inl ⟨rfl,rfl⟩)) ?_
  ·refine Exists.elim (JB (fun (nx:Int → Int → Int → Int → Ae (Int × Int × Int)) m (z:Int × Int × Int) k=>D2 l (DW l i) (i:Int) nx m z.1 z.2.1 z.2.2 k) l.length (fun k z=>(z.2.2 = -1 ∧ i = 0 ∧ k = 1) ∨ ((∃ a b,a < b ∧ b < l.length ∧ z.2.2 = GK (DW l a) (DW l b)) ∧ ∀ g f,Ls i k g f → f < l.length → z.2.2 ≤ GK (DW l g) (DW l f)))
    (fun nx z=>nx z.1 z.2.1 z.2.2 ((i + 1:Nat):Int)) (by omega) (fun k z a3 hk u=>?_) (fun z u j m=>?_) (b:=i + 1) (by omega) (s:=z) ?_) ?_
   ·have hs:=ai i k hi hk
    have am:∀ (nx:Int → Int → Int → Int → Ae (Int × Int × Int)) m,D2 l (DW l i) (i:Int) nx (m + 1) z.1 z.2.1 z.2.2 (k:Int) = if z.2.2 < 0 ∨ GK (DW l i) (DW l k) < z.2.2 then D2 l (DW l i) (i:Int) nx m (i:Int) (k:Int) (GK (DW l i) (DW l k)) ((k + 1:Nat):Int) else D2 l (DW l i) (i:Int) nx m z.1 z.2.1 z.2.2 ((k + 1:Nat):Int):=by
     intro nx m
     rw [D2,if_pos (by simp; omega)]
     unfold W0 Bk
     dsimp only
     rw [AY,Dq hk,Aa,L5,Aa,AD (by omega)]
     by_cases h1:z.2.2 < 0
     ·rw [if_pos (decide_eq_true h1),if_pos rfl,if_pos (.inl h1)]
     ·rw [if_neg (by simpa using h1)]
      by_cases h3:GK (DW l i) (DW l k) < z.2.2
      ·rw [if_pos (decide_eq_true h3),if_pos (.inr h3)]
      ·rw [if_neg (by simpa using h3),if_neg (by omega)]
    by_cases ak:z.2.2 < 0 ∨ GK (DW l i) (DW l k) < z.2.2
    ·refine ⟨((i:Int),(k:Int),GK (DW l i) (DW l k)),.inr ⟨⟨i,k,by omega,hk,rfl⟩,fun g f h ac=>?_⟩,fun nx m=>?_⟩
     ·dsimp only
      by_cases e:g = i ∧ f = k
      ·rw [e.1,e.2]; exact Int.le_refl _
      ·rcases u with ⟨an,aj,ah⟩ | ⟨⟨a,b,g1,g2,g3⟩,u⟩
       ·unfold Ls at h; omega
       ·have:=u g f (by unfold Ls at h ⊢; omega) ac
        have:=ai a b (by omega) g2
        omega
     ·exact (am nx m).trans (if_pos ak)
    ·refine ⟨z,.inr ⟨?_,fun g f h ac=>?_⟩,fun nx m=>(am nx m).trans (if_neg ak)⟩
     ·rcases u with ⟨an,aj,ah⟩ | ⟨u,_⟩
      ·omega
      ·exact u
     ·rcases u with ⟨an,aj,ah⟩ | ⟨_,u⟩
      ·omega
      ·by_cases e:g = i ∧ f = k
       ·rw [e.1,e.2]; omega
       ·exact u g f (by unfold Ls at h ⊢; omega) ac
   ·rw [D2,if_neg (by simp),AD (by omega)]
   ·rcases u with ⟨h1,h3⟩ | ⟨h1,h3⟩
    ·exact .inl ⟨h1,h3,by omega⟩
    ·exact .inr ⟨h1,fun g f h ac=>h3 g f (by unfold Ls at h ⊢; omega) ac⟩
   ·rintro z' ⟨ap,ae⟩
    refine ⟨z',?_,fun _ m=>?_⟩
    ·rcases ap with ⟨h1,h3,h4⟩ | ⟨h1,h3⟩
     ·omega
     ·exact .inr ⟨h1,fun g f h ac=>h3 g f (by unfold Ls at h ⊢; omega) ac⟩
    ·rw [Fd,if_pos (by simp; omega),AY,Dq hi,Aa,AD (by omega)]
     exact ae _
  ·rw [Fd,if_neg (by simp)]
  ·rintro z ⟨u,ae⟩
   refine ⟨z,ae (),?_⟩
   rcases u with ⟨h1,h3⟩ | ⟨h1,h3⟩
   ·omega
   ·exact ⟨h1,fun g f h ac=>h3 g f (by unfold Ls; omega) ac⟩
 obtain ⟨z,e,hm⟩:=ao
 refine ⟨z.2.2,?_,hm⟩
 unfold Ec Bk
 dsimp only
 rw [J1 l (by omega),Aa,hc,if_neg (by simp),if_neg (by simp; omega),e,Aa]
def MU (l:List (Int × Int)):Int × Bool:=(Ec l).getD (0,false)
theorem Sz {l:List (Int × Int)} (e:Cv l = true):EC l = some (MU l) ∧ Ec l = some (MU l) ∧ 0 ≤ (MU l).1 ∧ (MU l).1 ≤ 100000000:=by
 have ab:=CY e
 by_cases h:2 ≤ l.length
 ·obtain ⟨v,f,m⟩:=Yf e h
  obtain ⟨w,g,u⟩:=XU e h
  have:=m.uniq u
  subst this
  unfold MU
  rw [f,g]
  obtain ⟨⟨a,b,h1,s,h4⟩,_⟩:=m
  have:=(LL (I6 e (by omega:a < l.length)) (I6 e s)).2
  exact ⟨rfl,rfl,by dsimp only [Option.getD]; omega,by dsimp only [Option.getD]; omega⟩
 ·have f:Ec l = some (0,false):=by
   unfold Ec Bk
   dsimp only
   rw [J1 l (by omega),Aa,e,if_neg (by simp),if_pos (by simp; omega)]
  have g:EC l = some (0,false):=by
   unfold EC Bk
   dsimp only
   rw [GQ l (by omega),Aa,e,if_neg (by simp),if_pos (by simp; omega)]
  unfold MU
  rw [f,g]
  exact ⟨rfl,rfl,by simp,by simp⟩
def Mw (q:Int) (t:Nat):Bool:=decide (1000000 * q ≤ 23040000 * ((t:Int) * (t:Int)))
theorem XX {t:Nat} (f:t ≤ 1000):Ag ((Ag ((Ag (4800 * (t:Int))) * 4800)) * (t:Int)) = 23040000 * ((t:Int) * (t:Int)):=by
 have h1:=Ma (x:=(t:Int)) (y:=(t:Int)) (A:=1000) (B:=1000) (by omega) (by omega) (by omega) (by omega)
 rw [A6 (x:=4800 * (t:Int)) (by omega) (by omega),A6 (x:=4800 * (t:Int) * 4800) (by omega) (by omega)]
 have e:4800 * (t:Int) * 4800 * (t:Int) = 23040000 * ((t:Int) * (t:Int)):=by grind
 rw [e,A6 (by omega) (by omega)]
theorem Wh {q:Int} {t t':Nat} (h:t ≤ t') (f:Mw q t = true):Mw q t' = true:=by
 unfold Mw at *
 rw [CC] at *
 have h1:=Nat.mul_le_mul h h
 have e:=Int.ofNat_le.2 h1
 rw [Int.natCast_mul,Int.natCast_mul] at e
 omega
theorem X4 {q:Int} (f:q ≤ 2089984) {t:Nat} (e:302 ≤ t):Mw q t = true:=by
 refine Wh e ?_
 unfold Mw
 rw [CC]
 omega
def IsT (q:Int) (v:Nat):Prop:=Mw q v = true ∧ ∀ t,t < v → Mw q t = false
theorem IsT.uniq {q:Int} {v w:Nat} (h:IsT q v) (f:IsT q w):v = w:=by
 rcases Nat.lt_trichotomy v w with e | e | e
 ·have:=f.2 v e; rw [h.1] at this; cases this
 ·exact e
 ·have:=h.2 w e; rw [f.1] at this; cases this
theorem Zm {q:Int} (h0:0 ≤ q) (hq:q ≤ 2089984):∃ v:Nat,v ≤ 302 ∧ DF q FU 0 = some (v:Int) ∧ IsT q v:=by
 have s:∀ (d t m:Nat),302 - t = d → t ≤ 302 → d < m → (∀ t',t' < t → Mw q t' = false) → ∃ v:Nat,v ≤ 302 ∧ DF q m (t:Int) = some (v:Int) ∧ IsT q v:=by
  intro d
  induction d with
  | zero =>
   intro t m hd u hm l
   have:t = 302:=by omega
   subst this
   cases m with
   | zero=>omega
   | succ m =>
    have g:=X4 hq (t:=302) (by omega)
    have f:=g
    unfold Mw at f
    rw [CC] at f
    refine ⟨302,by omega,?_,g,l⟩
    rw [DF,XX (by omega),A6 (x:=1000000 * q) (by omega) (by omega),if_neg (by rw [CC]; omega)]
  | succ d ih =>
   intro t m hd u hm l
   cases m with
   | zero=>omega
   | succ m =>
    rw [DF,XX (by omega),A6 (x:=1000000 * q) (by omega) (by omega)]
    cases g:Mw q t with
    | true =>
     have f:=g
     unfold Mw at f
     rw [CC] at f
     rw [if_neg (by rw [CC]; omega)]
     exact ⟨t,by omega,rfl,g,l⟩
    | false =>
     have f:=g
     unfold Mw at f
     rw [decide_eq_false_iff_not] at f
     rw [if_pos (by rw [CC]; omega),AD (by omega)]
     refine ih (t + 1) m (by omega) (by omega) (by omega) (fun t' h=>?_)
     by_cases e:t' = t
     ·rw [e]; exact g
     ·exact l t' (by omega)
 exact s 302 0 FU rfl (by omega) (D4 (by omega)) (fun t' h=>by omega)
theorem YA {q:Int} (h0:0 ≤ q) (hq:q ≤ 2089984):∃ v:Nat,Kk q = some (v:Int) ∧ IsT q v:=by
 have ac:∀ (d e f m:Nat),f - e ≤ d → e ≤ f → f ≤ 1000 → d < m → (∀ t,t < e → Mw q t = false) → Mw q f = true → ∃ v:Nat,EE q m (e:Int) (f:Int) = some (v:Int) ∧ IsT q v:=by
  intro d
  induction d with
  | zero =>
   intro e f m hd h1 h2 hm u s
   have:e = f:=by omega
   subst this
   cases m with
   | zero=>omega
   | succ m=>exact ⟨e,by rw [EE,if_neg (by simp)],s,u⟩
  | succ d ih =>
   intro e f m hd h1 h2 hm u s
   cases m with
   | zero=>omega
   | succ m =>
    rw [EE]
    by_cases al:e < f
    ·have em:Ag (Int.tdiv (Ag ((e:Int) + (f:Int))) 2) = (((e + f) / 2:Nat):Int):=by
      rw [A6 (x:=(e:Int) + f) (by omega) (by omega),Int.tdiv_eq_ediv_of_nonneg (by omega),A6 (by omega) (by omega)]
      omega
     rw [if_pos (by simp; omega),em,XX (by omega),A6 (x:=1000000 * q) (by omega) (by omega)]
     cases l:Mw q ((e + f) / 2) with
     | true =>
      have g:=l
      unfold Mw at g
      rw [if_pos g]
      exact ih e _ m (by omega) (by omega) (by omega) (by omega) u l
     | false =>
      have g:=l
      unfold Mw at g
      rw [g,if_neg (by simp),AD (by omega)]
      refine ih ((e + f) / 2 + 1) f m (by omega) (by omega) h2 (by omega) (fun t ht=>?_) s
      cases hx:Mw q t with
      | false=>rfl
      | true=>have:=Wh (t':=(e + f) / 2) (by omega) hx; rw [l] at this; cases this
    ·have:e = f:=by omega
     subst this
     exact ⟨e,by rw [if_neg (by simp)],s,u⟩
 unfold Kk
 exact ac 1000 0 1000 FU (by omega) (by omega) (by omega) (D4 (by omega)) (fun t h=>by omega) (X4 hq (by omega))
def NM (a b:Int × Int):Int × Bool:=(Gz a b).getD (0,false)
theorem Ut {a b:Int × Int} (e:CX a = true) (f:CX b = true):Gz a b = some (NM a b) ∧ H3 a b = some (NM a b) ∧ 0 ≤ (NM a b).1 ∧ (NM a b).1 ≤ 302:=by
 obtain ⟨_,h,g⟩:=LL e f
 obtain ⟨v,v1,m,u⟩:=Zm h g
 obtain ⟨w,w1,s⟩:=YA h g
 have:=u.uniq s
 subst this
 have l:Gz a b = some ((v:Int),true):=by
  unfold Gz Kd Bk
  dsimp only
  rw [Ly,Aa,e,if_neg (by simp),Ly,Aa,f,Ho,Aa,m]
  rfl
 have e2:H3 a b = some ((v:Int),true):=by
  unfold H3 Mk Lg Bk
  dsimp only
  rw [OM,Aa,e,if_pos rfl,OM,Aa,f,L5,Aa,Aa,w1]
  rfl
 unfold NM
 rw [l,e2]
 exact ⟨rfl,rfl,by dsimp only [Option.getD]; omega,by dsimp only [Option.getD]; omega⟩
def MJ (load count:Int) (x:BO):Bool:=decide (x.2.1 = load) && (decide (x.2.2.1 ≤ count) && decide (count < x.2.2.2))
def MY (l:List BO) (load count:Int):Int × Bool:=if (BM load 1 9 && BM count 0 999) = true then (match (List.range l.length).find? fun i=>MJ load count (CL l i) with
  | some i=>((CL l i).1,true)
  | none=>(0,false)) else (0,false)
theorem Ur {l:List BO} (h:Fw l = true):∀ x ∈ l,Lx x:=by
 intro x e
 have:=MW.1 ((Hm.1 h).2.1 x e)
 unfold Lx
 omega
theorem Uw {l:List BO} {k:Nat} (h:k < l.length):l[k]? = some (CL l k):=by rw [FR h]; exact Cp h
theorem Ua {l:List BO} (h:Fw l = true) (e f:Int):IJ l e f = some (MY l e f):=by
 have u:=(Hm.1 h).1
 unfold IJ Bk MY
 dsimp only
 rw [O6 (by omega) (Ur h),Aa,h,CT,Aa,CT,Aa]
 cases BM e 1 9 with
 | false=>rfl
 | true =>
  cases BM f 0 999 with
  | false=>rfl
  | true =>
   rw [if_neg (by simp),if_neg (by simp),if_neg (by simp),if_pos (c:=(true && true) = true) rfl]
   rw [Tl (Ew l e f) l.length (fun i=>MJ e f (CL l i)) (fun i=>some ((CL l i).1,true)) (some (0,false)) (by omega) (fun m k s=>?_) (fun m=>?_)]
   ·cases (List.range l.length).find? fun i=>MJ e f (CL l i) <;> rfl
   ·rw [Ew,if_pos (by simp; omega),AY,Uw s,Aa,AD (by omega)]
    unfold Bk MJ
    dsimp only
    by_cases h1:(CL l k).2.1 = e
    ·rw [if_pos (by simpa using h1),decide_eq_true h1]
     by_cases g:(CL l k).2.2.1 ≤ f
     ·rw [if_pos (by simpa using g),decide_eq_true g]; rfl
     ·rw [if_neg (by simpa using g),decide_eq_false g]; rfl
    ·rw [if_neg (by simpa using h1),decide_eq_false h1]; rfl
   ·rw [Ew,if_neg (by simp)]
theorem YD {l:List BO} (h:Fw l = true) {g f:Int} (v:1 ≤ g):K1 l g 0 f = some (Ub ((List.range l.length).find? fun i=>MJ g f (CL l i))):=by
 have aa:=(Hm.1 h).1
 unfold K1
 rw [Tl (GA l g 0 f) l.length (fun i=>MJ g f (CL l i)) (fun i=>some (i:Int)) (some (-1)) (by omega) (fun m k s=>?_) (fun m=>?_)]
 ·cases (List.range l.length).find? fun i=>MJ g f (CL l i) <;> rfl
 ·have u:=MW.1 ((Hm.1 h).2.1 _ (IX s))
  rw [GA,if_pos (by simp; omega),AY,Uw s,Aa,AD (by omega)]
  unfold Bk MJ
  dsimp only
  rw [if_neg (by simp; omega),if_pos (c:=((0:Int) == 0) = true) rfl,A6 (by omega) (by omega),CU,Aa]
  by_cases h1:(CL l k).2.1 = g
  ·rw [if_pos (by simpa using h1),decide_eq_true h1]
   have e:BM f (CL l k).2.2.1 ((CL l k).2.2.2 - 1) = (decide ((CL l k).2.2.1 ≤ f) && decide (f < (CL l k).2.2.2)):=by
    rw [Bool.eq_iff_iff,D9]
    simp
    omega
   rw [e,Bool.true_and]
  ·rw [if_neg (by simpa using h1),decide_eq_false h1]; rfl
 ·rw [GA,if_neg (by simp)]
theorem TL {l:List BO} (h:Fw l = true) (e f:Int):IC l e f = some (MY l e f):=by
 have v:=(Hm.1 h).1
 unfold IC Jg Lj Bk MY
 dsimp only
 rw [RQ (by omega) (Ur h),Aa,h,CU,Aa,Aa,CU,Aa,Aa]
 cases m:BM e 1 9 with
 | false=>rfl
 | true =>
  cases BM f 0 999 with
  | false=>rfl
  | true =>
   have g:=D9.1 m
   rw [if_neg (by simp),if_neg (by simp),if_neg (by simp),if_pos (c:=(true && true) = true) rfl,YD h g.1,Aa,Aa]
   cases s:(List.range l.length).find? fun i=>MJ e f (CL l i) with
   | none=>rfl
   | some i =>
    have u:i < l.length:=List.mem_range.1 (List.mem_of_find?_eq_some s)
    unfold Ub
    dsimp only
    rw [if_neg (by simp),AY,Uw u,Aa]
theorem Aa7 {l:List BO} (h:Fw l = true) (e f:Int):0 ≤ (MY l e f).1 ∧ (MY l e f).1 ≤ 12:=by
 unfold MY
 split
 ·cases g:(List.range l.length).find? fun i=>MJ e f (CL l i) with
  | none=>exact ⟨Int.le_refl _,by show (0:Int) ≤ 12; omega⟩
  | some i =>
   have m:i < l.length:=List.mem_range.1 (List.mem_of_find?_eq_some g)
   have s:=MW.1 ((Hm.1 h).2.1 _ (IX m))
   dsimp only
   omega
 ·exact ⟨by decide,by decide⟩
theorem VL {l:List IA} (h:Ht l = true) {i:Nat} (g:i < l.length):∃ x:IA,l[i]? = some x ∧ (x.1 = -1 ∨ (0 ≤ x.1 ∧ x.1.toNat < i)) ∧ (0 ≤ x.2.1 ∧ x.2.1 ≤ 7) ∧ 0 ≤ x.2.2 ∧ x.2.2 ≤ 999:=by
 unfold Ht at h
 rw [Cg,List.all_eq_true] at h
 obtain ⟨x,m⟩:∃ x,l[i]? = some x:=⟨_,Cp g⟩
 have f:=h.2 i (List.mem_range.2 g)
 unfold OI at f
 rw [m] at f
 unfold SN at f
 dsimp only at f
 rw [Cg,Cg,D9,D9] at f
 refine ⟨x,m,?_,f.2.1,f.2.2⟩
 by_cases e:i = 0
 ·rw [if_pos e,CC] at f
  exact .inl f.1
 ·rw [if_neg e,D9] at f
  exact .inr (by omega)
theorem NI {l:List IA} (h:Ht l = true):1 ≤ l.length ∧ l.length ≤ 60:=by
 unfold Ht at h
 rw [Cg,D9] at h
 omega
theorem Ab5 {l:List IA} (h:Ht l = true):∀ (d i:Nat),i ≤ d → i < l.length → ∃ u:List Int,(∀ x ∈ u,0 ≤ x ∧ x.toNat < l.length) ∧ u.length ≤ i + 1 ∧
  ∀ (m:Nat) (s e:List Int),i + 1 < m → s.length ≤ 1000 - u.length → e.length ≤ 1000 - u.length → E6 l m (i:Int) s = some ((s ++ u).reverse) ∧ E5 l m (i:Int) e = some (u.reverse ++ e):=by
 have ap:=NI h
 have ad:∀ i (x:IA),l[i]? = some x → x.1 = -1 → i < l.length → ∃ u:List Int,(∀ x ∈ u,0 ≤ x ∧ x.toNat < l.length) ∧ u.length ≤ i + 1 ∧
  ∀ (m:Nat) (s e:List Int),i + 1 < m → s.length ≤ 1000 - u.length → e.length ≤ 1000 - u.length → E6 l m (i:Int) s = some ((s ++ u).reverse) ∧ E5 l m (i:Int) e = some (u.reverse ++ e):=by
  intro i x f aa v
  refine ⟨[(i:Int)],fun x f=>?_,by simp,fun m s e hm hs ae=>?_⟩
  ·rw [List.mem_singleton] at f; omega
  obtain ⟨m,rfl⟩:∃ m',m = m' + 2:=⟨m - 2,by omega⟩
  rw [E6,E5,if_pos (by simp),Bt (by simp; omega),Aa,if_pos (by simp),Bt (by simp; omega),Aa,AY,f,Aa,Aa,aa,E6,E5,if_neg (by decide),if_neg (by decide),ZM _ (by simp; omega)]
  exact ⟨rfl,rfl⟩
 intro d
 induction d with
 | zero =>
  intro i al v
  have:i = 0:=by omega
  subst this
  obtain ⟨x,f,g,_⟩:=VL h v
  have aa:x.1 = -1:=by rcases g with g | g; exact g; omega
  exact ad 0 x f aa v
 | succ d ih =>
  intro i al v
  obtain ⟨x,f,g,_⟩:=VL h v
  rcases g with aa | g
  ·exact ad i x f aa v
  ·obtain ⟨u,g1,g2,g3⟩:=ih x.1.toNat (by omega) (by omega)
   refine ⟨(i:Int) :: u,?_,by simp; omega,fun m s e hm hs ae=>?_⟩
   ·intro y hy
    rcases List.mem_cons.1 hy with rfl | hy
    ·omega
    ·exact g1 y hy
   ·obtain ⟨m,rfl⟩:∃ m',m = m' + 1:=⟨m - 1,by omega⟩
    rw [List.length_cons] at hs ae
    obtain ⟨e1,e2⟩:=g3 m (s ++ [(i:Int)]) ((i:Int) :: e) (by omega) (by simp; omega) (by simp; omega)
    have ex:x.1 = ((x.1.toNat:Nat):Int):=by omega
    rw [E6,E5,if_pos (by simp),Bt (by simp; omega),Aa,if_pos (by simp),Bt (by simp; omega),Aa,AY,f,Aa,Aa,ex,e1,List.singleton_append,e2]
    constructor
    ·rw [List.append_assoc]; rfl
    ·rw [List.reverse_cons,List.append_assoc]; rfl
theorem XS (u:List Int) (l:List IA):∀ (m:Nat) (s:List Int) (k:Int),ET u l m s k = Dl u l m s k:=by
 intro m
 induction m with
 | zero=>intros; rfl
 | succ m e =>
  intro s k
  rw [ET,Dl]
  simp only [e]
def Wl (s:List Int):Prop:=s.length = 8 ∧ ∀ x ∈ s,-1 ≤ x ∧ x ≤ 999
theorem Y5 {l:List IA} (h:Ht l = true) {u:List Int} (hu:∀ x ∈ u,0 ≤ x ∧ x.toNat < l.length) (hl:u.length ≤ 1000):∃ s,Wl s ∧ Dl u l FU (List.replicate 8 (-1)) 0 = some s:=by
 have aj:=NI h
 refine Exists.elim (JB (fun (_:Unit) m (z:List Int) k=>Dl u l m z k) u.length (fun _ z=>Wl z) (fun _ z=>some z) (by omega) (fun k z _ v e=>?_) (fun z e j m=>?_) (b:=0) (by omega) (s:=List.replicate 8 (-1)) ⟨by simp,fun x g=>by have:=List.eq_of_mem_replicate g; omega⟩) ?_
 ·obtain ⟨ah,aa⟩:=e
  obtain ⟨g1,g2⟩:=hu _ (List.getElem_mem v)
  obtain ⟨x,g,_,h7,h9⟩:=VL h g2
  have ae:x.2.1.toNat < z.length:=by omega
  refine ⟨BD z x.2.1 x.2.2,⟨by unfold BD; simpa using ah,fun y f=>?_⟩,fun _ m=>?_⟩
  ·unfold BD at f
   rcases List.mem_or_eq_of_mem_set f with f | rfl
   ·exact aa y f
   ·omega
  ·rw [Dl,if_pos (by simp; omega),AY,Cp v,Aa,Iv g1,g,Aa,Aa,Iv h7.1,Cp ae,Aa,AD (by omega)]
 ·rw [Dl,if_neg (by simp)]
 ·rintro z ⟨e,hr⟩
  exact ⟨z,e,hr ()⟩
theorem Sq {l:List IA} (h:Ht l = true) (i:Int):HJ l [i] = some (BM i 0 ((l.length:Int) - 1)):=by
 have g:=NI h
 unfold HJ
 rw [Ny (DP [i] l) [i] (fun x=>BM x 0 ((l.length:Int) - 1)) (some true) (some false) (by simp) (fun m k x e f=>?_) (fun m=>?_)]
 ·rw [List.all_cons,List.all_nil,Bool.and_true]
  cases BM i 0 ((l.length:Int) - 1) <;> rfl
 ·rw [DP,if_pos (by simp at e ⊢; omega),AY,f,Aa,CT,A6 (by omega) (by omega),Aa,AD (by simp at e; omega)]
  cases BM x 0 ((l.length:Int) - 1) <;> rfl
 ·rw [DP,if_neg (by simp),LC (by omega),Aa,h]
theorem Wg (k:Nat):List.replicate k (-1:Int) ++ [-1] = List.replicate (k + 1) (-1):=by rw [List.replicate_succ']
theorem WJ {l:List IA} (h:Ht l = true) (i:Int):∃ r:List Int × Bool,JT l i = some r ∧ JN l i = some r ∧ (r.2 = true → Wl r.1):=by
 have aj:=NI h
 unfold JT JN Mj Bk
 dsimp only
 rw [Sq h,Aa,OL (by omega),Aa,h,if_pos rfl,CU,A6 (by omega) (by omega),Aa,Aa]
 cases hi:BM i 0 ((l.length:Int) - 1) with
 | false=>exact ⟨([],false),rfl,rfl,fun h=>by cases h⟩
 | true =>
  have ah:=D9.1 hi
  obtain ⟨u,g1,g2,g3⟩:=Ab5 h i.toNat i.toNat (Nat.le_refl _) (by omega)
  obtain ⟨e,f⟩:=g3 FU [] [] (D4 (by omega)) (by simp) (by simp)
  rw [show ((i.toNat:Nat):Int) = i by omega] at e f
  rw [List.nil_append] at e
  rw [List.append_nil] at f
  obtain ⟨s,hs,v⟩:=Y5 h (u:=u.reverse) (fun x hx=>g1 x (List.mem_reverse.1 hx)) (by rw [List.length_reverse]; omega)
  have r1:JP l i = some s:=by
   unfold JP
   refine Eq.trans (EM (fun m (z:List Int) k=>Fi l i m z k) 8 (fun k=>List.replicate k (-1)) (Option.bind (KZ l i) fun g=>Dl g l FU (List.replicate 8 (-1)) 0) (by omega) (j:=0) (by omega) (fun m k _ hk=>?_) (fun m=>?_)) ?_
   ·rw [Fi,if_pos (by simp; omega),Bt (by simp; omega),Aa,AD (by omega),Wg]
   ·rw [Fi,if_neg (by decide)]
   ·unfold KZ
    rw [e,Aa,v]
  have r2:JD l i = some s:=by
   unfold JD
   refine Eq.trans (EM (fun m (z:List Int) (_:Int)=>EU l i m z) 8 (fun k=>List.replicate k (-1)) (Option.bind (KV l i) fun g=>ET g l FU (List.replicate 8 (-1)) 0) (by omega) (j:=0) (by omega) (fun m k _ hk=>?_) (fun m=>?_)) ?_
   ·rw [EU,if_pos (by simp; omega),Bt (by simp; omega),Aa,Wg]
   ·rw [EU,if_neg (by decide)]
   ·unfold KV
    rw [f,Aa,XS,v]
  refine ⟨(s,true),?_,?_,fun _=>hs⟩
  ·rw [if_neg (by simp),r1,Aa]
  ·rw [if_neg (by simp),r2,Aa]
theorem Zk (e:List (List Aj)) (w f:List Aj):Lib.join (e ++ [w]) f = if e = [] then w else Lib.join e f ++ f ++ w:=by
 cases e with
 | nil=>rw [List.nil_append,if_pos rfl,Lib.join_one]
 | cons x r =>
  rw [List.cons_append,Lib.join_cons,Lib.join_cons,if_neg (by simp)]
  unfold Lib.joinTail
  rw [List.map_append,List.flatten_append]
  simp [List.append_assoc]
def Mu (n:Int):List Aj:=if n < 0 then [45] else Lib.decDigits n.toNat
theorem Ro {n:Int} (h:n ≤ 999):(Mu n).length ≤ 3:=by
 unfold Mu
 split
 ·simp
 ·exact Hy (k:=2) (by omega)
def Gr (ws:List (List Aj)):List Aj:=Lib.join ws [32]
theorem Yd (e:List (List Aj)) (w:List Aj):Gr (e ++ [w]) = (if e = [] then [] else Gr e ++ [32]) ++ w:=by
 unfold Gr
 rw [Zk]
 split
 ·rfl
 ·rfl
theorem PS (f:List (List Aj)) {k:Nat} (h:k < f.length):Gr (f.take (k + 1)) = (if k = 0 then [] else Gr (f.take k) ++ [32]) ++ f[k]:=by
 rw [List.take_succ_eq_append_getElem h,Yd]
 by_cases e:k = 0
 ·subst e; simp
 ·have g:f.take k ≠ []:=fun l=>by have:=congrArg List.length l; rw [List.length_take,List.length_nil] at this; omega
  rw [if_neg g,if_neg e]
theorem Nz {B:Nat} (e:List (List Aj)) (h:∀ w ∈ e,w.length ≤ B):∀ k,k ≤ e.length → (Gr (e.take k)).length ≤ (B + 1) * k
 | 0,_=>by simp [Gr,Lib.join_nil]
 | k + 1,hk=>by
  have h1:=Nz e h k (by omega)
  have f:=h e[k] (List.getElem_mem _)
  rw [PS e (by omega),CM,Nat.mul_succ]
  split
  ·simp; omega
  ·rw [CM,List.length_singleton]; omega
theorem QN {B:Nat} (e:List (List Aj)) (h:∀ w ∈ e,w.length ≤ B):(Gr e).length ≤ (B + 1) * e.length:=by
 have:=Nz e h e.length (Nat.le_refl _)
 rwa [List.take_length] at this
theorem Wx {e:List (List Aj)} {B:Nat} (h:∀ w ∈ e,w.length ≤ B) (l:B ≤ 1000) (f:e.length ≤ 1000):Iy e [32] = some (Gr e):=by
 have h1:=QN e h
 have g:(B + 1) * e.length ≤ 1001 * 1000:=Nat.mul_le_mul (by omega) f
 unfold Gr at h1
 unfold Iy Gr
 rw [if_pos (by omega)]

theorem VH {n:Int} (h:¬ n < 0) (e:n ≤ 999):CZ n = some (Mu n) ∧ Dd n = some (Mu n):=by
 unfold Mu
 rw [if_neg h]
 exact ⟨LA (by omega) (by omega),JY (by omega) (by omega)⟩
theorem Xs {s:List Int} (h:Wl s):JH s = some (Gr (s.map Mu)):=by
 obtain ⟨h8,v⟩:=h
 have g:∀ w ∈ s.map Mu,w.length ≤ 3:=by
  intro w g
  obtain ⟨n,f,rfl⟩:=List.mem_map.1 g
  exact Ro (v n f).2
 unfold JH
 refine Eq.trans (EM (D1 s) s.length (fun k=>Gr ((s.map Mu).take k)) (some (Gr (s.map Mu))) (by omega) (j:=0) (by omega) (fun m k _ hk=>?_) (fun m=>?_)) rfl
 ·have hl:=Nz _ g k (by simp; omega)
  have f:=v _ (List.getElem_mem hk)
  have h3:=Ro f.2
  rw [D1,if_pos (by simp; omega)]
  unfold Bk
  dsimp only
  rw [AY,Cp hk,Aa,AD (by omega),PS _ (by simp; omega),List.getElem_map]
  have l:∀ y:List Aj,y.length ≤ 100 → (if decide (s[k] < 0) = true then Option.bind (Cm y [45]) fun ab=>D1 s m ab ((k + 1:Nat):Int) else Option.bind (Dd s[k]) fun ac=>Option.bind (Cm y ac) fun ad=>D1 s m ad ((k + 1:Nat):Int)) = D1 s m (y ++ Mu s[k]) ((k + 1:Nat):Int):=by
   intro y hy
   by_cases e:s[k] < 0
   ·rw [if_pos (decide_eq_true e),Bt (by simp; omega),Aa]
    unfold Mu
    rw [if_pos e]
   ·rw [if_neg (by simpa using e),(VH e f.2).2,Aa,Bt (by omega),Aa]
  by_cases u:k = 0
  ·subst u
   rw [if_neg (by simp),l _ (by omega),if_pos rfl]
   simp [Gr,Lib.join_nil]
  ·rw [if_pos (by simp; omega),Bt (by simp; omega),Aa,l _ (by simp; omega),if_neg u]
 ·rw [D1,if_neg (by simp),List.take_of_length_le (by simp)]
theorem Vk {s:List Int} (h:Wl s):Cw (s,true) FU [] 0 = some (Gr (s.map Mu)):=by
 obtain ⟨v,l⟩:=h
 have f:∀ w ∈ s.map Mu,w.length ≤ 3:=by
  intro w f
  obtain ⟨n,g,rfl⟩:=List.mem_map.1 f
  exact Ro (l n g).2
 refine Eq.trans (EM (Cw (s,true)) s.length (fun k=>(s.map Mu).take k) (some (Gr (s.map Mu))) (by omega) (j:=0) (by omega) (fun m k _ u=>?_) (fun m=>?_)) rfl
 ·have g:=l _ (List.getElem_mem u)
  rw [Cw,if_pos (by simp; omega)]
  unfold Bk
  dsimp only
  rw [AY,Cp u,Aa,AD (by omega),List.take_succ_eq_append_getElem (by simp; omega),List.getElem_map]
  by_cases e:s[k] < 0
  ·rw [if_pos (decide_eq_true e),Bt (by simp; omega),Aa]
   unfold Mu
   rw [if_pos e]
  ·rw [if_neg (by simpa using e),(VH e g.2).1,Aa,Bt (by simp; omega),Aa]
 ·rw [Cw,if_neg (by simp),List.take_of_length_le (by simp),Wx f (by omega) (by simp; omega),Aa]
def Ow (q:List Int):List Aj:=Lib.decDigits (IQ q 0).toNat ++ [45] ++ Lib.decDigits (IQ q 1).toNat
def NW (q:List Int):Prop:=∃ i k:Nat,q = [(i:Int),(k:Int)] ∧ i < 100 ∧ k < 100
theorem Ph {q:List Int} (h:NW q):1 ≤ (Ow q).length ∧ (Ow q).length ≤ 5:=by
 obtain ⟨i,k,rfl,e,f⟩:=h
 unfold Ow IQ
 have h1:=Hy (k:=1) (u:=i) (by omega)
 have g:=Hy (k:=1) (u:=k) (by omega)
 simp
 omega
theorem YZ {q:List Int} (h:NW q) {R:Type} (f:List Aj → Ae R):(Option.bind (AL q 0) fun e=>Option.bind (AL q 1) fun s=>Option.bind (CZ e) fun m=>Option.bind (Cm m [45]) fun g=>Option.bind (CZ s) fun l=>Option.bind (Cm g l) f) = f (Ow q):=by
 obtain ⟨i,k,rfl,hi,hk⟩:=h
 have h1:=Hy (k:=1) (u:=i) (by omega)
 have v:=Hy (k:=1) (u:=k) (by omega)
 show (Option.bind (some (i:Int)) fun e=>Option.bind (some (k:Int)) fun s=>Option.bind (CZ e) fun m=>Option.bind (Cm m [45]) fun g=>Option.bind (CZ s) fun l=>Option.bind (Cm g l) f) = _
 rw [Aa,Aa,LA (by omega) (by omega),Aa,Bt (by simp; omega),Aa,LA (by omega) (by omega),Aa,Bt (by simp; omega),Aa]
 rfl
theorem YY {q:List Int} (h:NW q) {R:Type} (f:List Aj → Ae R):(Option.bind (AL q 0) fun e=>Option.bind (AL q 1) fun s=>Option.bind (Dd e) fun m=>Option.bind (Cm m [45]) fun g=>Option.bind (Dd s) fun l=>Option.bind (Cm g l) f) = f (Ow q):=by
 obtain ⟨i,k,rfl,hi,hk⟩:=h
 have h1:=Hy (k:=1) (u:=i) (by omega)
 have v:=Hy (k:=1) (u:=k) (by omega)
 show (Option.bind (some (i:Int)) fun e=>Option.bind (some (k:Int)) fun s=>Option.bind (Dd e) fun m=>Option.bind (Cm m [45]) fun g=>Option.bind (Dd s) fun l=>Option.bind (Cm g l) f) = _
 rw [Aa,Aa,JY (by omega) (by omega),Aa,Bt (by simp; omega),Aa,JY (by omega) (by omega),Aa,Bt (by simp; omega),Aa]
 rfl
def Oe (P:List (List Int)):List Aj:=if P = [] then [110,111,110,101] else Gr (P.map Ow)
theorem Yo {P:List (List Int)} (h:∀ q ∈ P,NW q) (l:P.length ≤ 1000) (b:Bool):CF (P,b) FU [] 0 = some (Gr (P.map Ow)):=by
 have e:∀ w ∈ P.map Ow,w.length ≤ 5:=by
  intro w e
  obtain ⟨q,g,rfl⟩:=List.mem_map.1 e
  exact (Ph (h q g)).2
 refine Eq.trans (EM (CF (P,b)) P.length (fun k=>(P.map Ow).take k) (some (Gr (P.map Ow))) (by omega) (j:=0) (by omega) (fun m k _ f=>?_) (fun m=>?_)) rfl
 ·rw [CF,if_pos (by simp; omega)]
  unfold Bk
  dsimp only
  rw [AY,Cp f,Aa,YZ (h _ (List.getElem_mem f)),AD (by omega),List.take_succ_eq_append_getElem (by simp; omega),List.getElem_map,Bt (by simp; omega),Aa]
 ·rw [CF,if_neg (by simp),List.take_of_length_le (by simp),Wx e (by omega) (by simp; omega),Aa]
theorem Yn {P:List (List Int)} (h:∀ q ∈ P,NW q) (hl:P.length ≤ 1000) (b:Bool):CR (P,b) FU [] 0 = some (Oe P):=by
 have f:∀ w ∈ P.map Ow,w.length ≤ 5:=by
  intro w f
  obtain ⟨q,v,rfl⟩:=List.mem_map.1 f
  exact (Ph (h q v)).2
 refine Eq.trans (EM (CR (P,b)) P.length (fun k=>Gr ((P.map Ow).take k)) (some (Oe P)) (by omega) (j:=0) (by omega) (fun m k _ g=>?_) (fun m=>?_)) rfl
 ·have ab:=Nz _ f k (by simp; omega)
  have s:=Ph (h _ (List.getElem_mem g))
  rw [CR,if_pos (by simp; omega)]
  unfold Bk
  dsimp only
  rw [AY,Cp g,Aa,PS _ (by simp; omega),List.getElem_map]
  simp only [YY (h _ (List.getElem_mem g))]
  by_cases l:k = 0
  ·subst l
   rw [if_neg (by simp),Bt (by omega),Aa,if_pos rfl,AD (by omega)]
   simp [Gr,Lib.join_nil]
  ·rw [if_pos (by simp; omega),Bt (by simp; omega),Aa,Bt (by simp; omega),Aa,if_neg l,AD (by omega)]
 ·rw [CR,if_neg (by simp),List.take_of_length_le (by simp)]
  unfold Oe
  cases P with
  | nil=>rfl
  | cons q P =>
   have u:(Gr ((q :: P).map Ow)) ≠ []:=by
    have s:=Ph (h q (List.mem_cons_self ..))
    unfold Gr
    rw [List.map_cons,Lib.join_cons]
    intro e
    have:=congrArg List.length e
    rw [CM,List.length_nil] at this
    omega
   rw [if_neg (by simpa using u),if_neg (by simp)]
theorem RJ {n:Int} (h:0 ≤ n ∧ n ≤ 1280):IZ n = some (MN n):=by
 have h1:=Hy (k:=2) (u:=n.toNat / 8) (by omega)
 have f:=Hy (k:=0) (u:=n.toNat % 8) (by omega)
 unfold IZ MN
 rw [Int.tdiv_eq_ediv_of_nonneg h.1,Int.tmod_eq_emod_of_nonneg h.1,A6 (by omega) (by omega),JY (by omega) (by omega),Aa,Aa,show (n / 8).toNat = n.toNat / 8 by omega]
 by_cases e:0 < n.toNat % 8
 ·rw [if_neg (by simp; omega),JY (by omega) (by omega),show (n % 8).toNat = n.toNat % 8 by omega,O4 (by simp; omega),Aa,Aa,O4 (by simp; omega),Aa,if_pos e,List.append_assoc]
  rfl
 ·rw [if_pos (by simp; omega),if_neg e,List.append_nil]
theorem Xf {s:Int × Int} (h:CX s = true):Kj s = some (PG s):=by
 have f:=FM.1 h
 have g:=LJ (n:=s.1) (by omega)
 have e:=LJ (n:=s.2) (by omega)
 unfold Kj
 rw [RJ (by omega),Aa,O4 (by simp; omega),Aa,RJ (by omega),Aa,O4 (by simp; omega),Aa]
 unfold PG
 rw [List.append_assoc]
 rfl
def OT (r:Int × Bool):List Aj:=if r.2 = true then Lib.decDigits r.1.toNat else [110,111]
theorem Of {r:Int × Bool} (h:0 ≤ r.1) (e:r.1 ≤ 9223372036854775807):Fr r.1 r.2 = some (OT r) ∧ Fq r.1 r.2 = some (OT r):=by
 unfold Fr Fq Ml OT
 rw [LA h e,Aa,if_neg (c:=decide (r.1 < 0) = true) (by simp; omega),JY h e,Aa,Aa]
 cases r.2 <;> exact ⟨rfl,rfl⟩
def Nu (x:G7) (c:Int):Int × Bool:=if BM c 0 (Se x) = true then (Rq x c,true) else (0,false)
theorem Xq {x:G7} (h:Gd x = true) (c:Int):Ku x c = some (Nu x c):=by
 have e:=(MS h).2.1
 unfold Ku Bk Nu
 dsimp only
 rw [QQ x (by omega),Aa,h,Vo x (by omega),Aa,CT,Aa,Xo x h]
 cases BM c 0 (Se x) <;> rfl
theorem Xl {x:G7} (h:Gd x = true) (c:Int):Ks x c = some (Nu x c):=by
 have e:=(MS h).2.1
 unfold Ks L8 Bk Nu
 dsimp only
 rw [RN x (by omega),Aa,h,Vm x (by omega),Aa,CU,Aa,OO x h]
 cases BM c 0 (Se x) <;> rfl
theorem Z7 {x:G7} (h:Gd x = true) {c:Int} (h1:c ≤ 99999):0 ≤ (Nu x c).1 ∧ (Nu x c).1 ≤ 720000:=by
 unfold Nu
 split
 ·rename_i e
  have f:=D9.1 e
  exact Aa8 h f.1 (by omega)
 ·simp
abbrev FSx:=Aev × Aev × Int × Aev × (List BO) × (List IA)
abbrev SpT:=Aev × Aev × Int × Aev × (List BO) × (List IA) × (List Int) × (List Int) × Int
abbrev CtT:=(List Int) × (List Int) × Int
def EJ (s:FSx) (c:CtT):SpT:=(s.1,s.2.1,s.2.2.1,s.2.2.2.1,s.2.2.2.2.1,s.2.2.2.2.2,c.1,c.2.1,c.2.2)
structure JX (s:FSx):Prop where
 ch:Cv s.1 = true
 ke:Cv s.2.1 = true
 mu:Gd s.2.2.2.1 = true
 ca:Fw s.2.2.2.2.1 = true
 ve:Ht s.2.2.2.2.2 = true
def Qi (b:Bool):List Aj:=if b = true then [111,107] else [110,111]
theorem Yy (b:Bool):I2 b = some (Qi b):=by unfold I2 Qi; cases b <;> rfl
theorem Abn (b:Bool):Jd b = some (Qi b):=by unfold Jd Qi; cases b <;> rfl
def T5 (s:FSx) (w:List Aj) (n:List Int) (F:FSx → List Aj → List Int → Ae (List Aj × FSx)):Prop :=
 ∃ ok s',JX s' ∧ (ok = false → s' = s) ∧ s'.2.2.2.2.1.length ≤ s.2.2.2.2.1.length + 1 ∧ F s w n = some (Qi ok,s') ∧ ∀ c,Cz (EJ s c) w n = some (ok,EJ s' c)
theorem XB {n:List Int} (h:n.length = 1):∃ a,n = [a]:=by
 match n,h with
 | [a],_=>exact ⟨a,rfl⟩
theorem nl2 {n:List Int} (h:n.length = 2):∃ a b,n = [a,b]:=by
 match n,h with
 | [a,b],_=>exact ⟨a,b,rfl⟩
theorem nl3 {n:List Int} (h:n.length = 3):∃ a b c,n = [a,b,c]:=by
 match n,h with
 | [a,b,c],_=>exact ⟨a,b,c,rfl⟩
theorem nl4 {n:List Int} (h:n.length = 4):∃ a b c d,n = [a,b,c,d]:=by
 match n,h with
 | [a,b,c,d],_=>exact ⟨a,b,c,d,rfl⟩
theorem Iq {α:Type} (a:α) (l:List α):AL (a :: l) 0 = some a:=rfl
theorem MV {α:Type} (a b:α) (l:List α):AL (a :: b :: l) 1 = some b:=rfl
theorem XF {α:Type} (a b c:α) (l:List α):AL (a :: b :: c :: l) 2 = some c:=rfl
theorem ix3 {α:Type} (a b c d:α) (l:List α):AL (a :: b :: c :: d :: l) 3 = some d:=rfl
def Rn (s:FSx) (c:List (Int × Int)):FSx:=(c,s.2.1,s.2.2.1,s.2.2.2.1,s.2.2.2.2.1,s.2.2.2.2.2)
theorem M1 (s:FSx) (c:List (Int × Int)) (b:Bool):Dj s c b = some (Qi b,if b = true then Rn s c else s) ∧ ∀ k,EF (EJ s k) c b = some (b,EJ (if b = true then Rn s c else s) k):=by
 unfold Dj EF Bk
 dsimp only
 simp only [Yy,Aa]
 cases b
 ·exact ⟨rfl,fun _=>rfl⟩
 ·exact ⟨rfl,fun _=>rfl⟩
theorem Zx {l:List (Int × Int)} (h:(Pw l).2 = true):Cv (Pw l).1 = true:=by
 unfold Pw at h ⊢
 split
 ·assumption
 ·rename_i e; rw [if_neg e] at h; cases h
theorem YT {l:List (Int × Int)} {p:Int} {a:Int × Int} (h:(Lw l p a).2 = true):Cv (Lw l p a).1 = true:=by
 unfold Lw at h ⊢
 split
 ·rename_i e; rw [if_pos e] at h; exact Zx h
 ·rename_i e; rw [if_neg e] at h; cases h
theorem Aa1 {s:FSx} (h:JX s) {r:List (Int × Int) × Bool} (f:r.2 = true → Cv r.1 = true):JX (if r.2 = true then Rn s r.1 else s):=by
 split
 ·rename_i e; exact ⟨f e,h.ke,h.mu,h.ca,h.ve⟩
 ·exact h
theorem Abo {s:FSx} (h:JX s) {n:List Int} (f:n.length = 2):T5 s SK n BI:=by
 obtain ⟨a,b,rfl⟩:=nl2 f
 have g:=CY h.ch
 refine ⟨(Pw (s.1 ++ [(a,b)])).2,if (Pw (s.1 ++ [(a,b)])).2 = true then Rn s (Pw (s.1 ++ [(a,b)])).1 else s,Aa1 h Zx,(fun e=>by rw [e]; rfl),?_,?_,fun c=>?_⟩
 ·split <;> exact Nat.le_succ _
 ·unfold BI SK Gl
  dsimp only
  rw [if_pos (by rfl),Iq,Aa,MV,Aa,Bt (by simp; omega),Aa,List.nil_append,Bt (by simp; omega),Aa,RU _ (by simp; omega),Aa,(M1 _ _ _).1,Aa]
 ·unfold Cz SK Gl
  dsimp only
  rw [if_pos (by rfl),Iq,Aa,MV,Aa,show (EJ s c).1 = s.1 by rfl,Nv _ (by omega),Aa,Bt (by simp; omega),Aa,UO _ (by simp; omega),Aa,(M1 _ _ _).2,Aa]
theorem Aaj {s:FSx} (h:JX s) {n:List Int} (f:n.length = 3):T5 s Q5 n BI:=by
 obtain ⟨p,a,b,rfl⟩:=nl3 f
 refine ⟨(Lw s.1 p (a,b)).2,if (Lw s.1 p (a,b)).2 = true then Rn s (Lw s.1 p (a,b)).1 else s,Aa1 h YT,(fun e=>by rw [e]; rfl),?_,?_,fun c=>?_⟩
 ·split <;> exact Nat.le_succ _
 ·unfold BI Q5 Gl
  dsimp only
  rw [if_neg (by decide),if_pos (by rfl),Iq,Aa,MV,Aa,XF,Aa,Qu h.ch,Aa,(M1 _ _ _).1,Aa]
 ·unfold Cz Q5 Gl
  dsimp only
  rw [if_neg (by decide),if_pos (by rfl),Iq,Aa,MV,Aa,XF,Aa,show (EJ s c).1 = s.1 by rfl,Qt h.ch,Aa,(M1 _ _ _).2,Aa]
theorem Zs {s:FSx} (h:JX s) {n:List Int}:T5 s Pi n BI:=by
 refine ⟨true,Rn s (s.1.map MZ),⟨Acp h.ch,h.ke,h.mu,h.ca,h.ve⟩,(fun e=>by cases e),Nat.le_succ _,?_,fun c=>?_⟩
 ·unfold BI Pi Gl
  dsimp only
  rw [if_neg (by decide),if_neg (by decide),if_pos (by rfl),Sr h.ch,Aa,(M1 _ _ _).1,Aa]
  rfl
 ·unfold Cz Pi Gl
  dsimp only
  rw [if_neg (by decide),if_neg (by decide),if_pos (by rfl),show (EJ s c).1 = s.1 by rfl,Si h.ch,Aa,(M1 _ _ _).2,Aa]
  rfl
theorem Abp {s:FSx} (h:JX s) {n:List Int}:T5 s SM n BI:=by
 have f:=CY h.ch
 refine ⟨true,(s.1,s.1,s.2.2.1,s.2.2.2.1,s.2.2.2.2.1,s.2.2.2.2.2),⟨h.ch,h.ch,h.mu,h.ca,h.ve⟩,(fun e=>by cases e),Nat.le_succ _,?_,fun c=>?_⟩
 ·unfold BI SM
  rw [if_neg (by decide),if_neg (by decide),if_neg (by decide),if_pos (by rfl),Bt (by simp; omega),Aa]
  rfl
 ·unfold Cz SM Gl
  dsimp only
  rw [if_neg (by decide),if_neg (by decide),if_neg (by decide),if_pos (by rfl),show (EJ s c).1 = s.1 by rfl,Nv _ (by omega),Aa]
  rfl
theorem Zt {s:FSx} (h:JX s) {n:List Int} (f:n.length = 1):T5 s Pj n BI:=by
 obtain ⟨a,rfl⟩:=XB f
 refine ⟨BM a 1 64,if BM a 1 64 = true then (s.1,s.2.1,a,s.2.2.2.1,s.2.2.2.2.1,s.2.2.2.2.2) else s,?_,(fun e=>by rw [e]; rfl),?_,?_,fun c=>?_⟩
 ·split
  ·exact ⟨h.ch,h.ke,h.mu,h.ca,h.ve⟩
  ·exact h
 ·split <;> exact Nat.le_succ _
 ·unfold BI Pj
  rw [if_neg (by decide),if_neg (by decide),if_neg (by decide),if_neg (by decide),Iq,Aa,CT,Aa,Aa]
  cases BM a 1 64 <;> rfl
 ·unfold Cz Pj Gl
  dsimp only
  rw [if_neg (by decide),if_neg (by decide),if_neg (by decide),if_neg (by decide),if_pos (by rfl),Iq,Aa,CU,Aa,Aa]
  cases BM a 1 64 <;> rfl
theorem Ys {s:FSx} (h:JX s) {n:List Int} (f:n.length = 2):T5 s NH n CI:=by
 obtain ⟨a,b,rfl⟩:=nl2 f
 have g:=(MS h.mu).2.1
 refine ⟨Gd (s.2.2.2.1 ++ [(a,b)]),if Gd (s.2.2.2.1 ++ [(a,b)]) = true then (s.1,s.2.1,s.2.2.1,s.2.2.2.1 ++ [(a,b)],s.2.2.2.2.1,s.2.2.2.2.2) else s,?_,(fun e=>by rw [e]; rfl),?_,?_,fun c=>?_⟩
 ·split
  ·rename_i e; exact ⟨h.ch,h.ke,e,h.ca,h.ve⟩
  ·exact h
 ·split <;> exact Nat.le_succ _
 ·unfold CI NH Gl
  dsimp only
  rw [if_pos (by rfl),Iq,Aa,MV,Aa,Bt (by simp; omega),Aa,List.nil_append,Bt (by simp; omega),Aa,QQ _ (by simp; omega),Aa]
  cases Gd (s.2.2.2.1 ++ [(a,b)]) <;> rfl
 ·unfold Cz NH Gl
  dsimp only
  rw [if_neg (by decide),if_neg (by decide),if_neg (by decide),if_neg (by decide),if_neg (by decide),if_pos (by rfl),Iq,Aa,MV,Aa,show (EJ s c).2.2.2.1 = s.2.2.2.1 by rfl,Bt (by simp; omega),Aa,List.nil_append,Bt (by simp; omega),Aa,RN _ (by simp; omega),Aa]
  cases Gd (s.2.2.2.1 ++ [(a,b)]) <;> rfl
theorem Yr {s:FSx} (h:JX s) {n:List Int} (l:n.length = 3):T5 s NF n CI:=by
 obtain ⟨a,b,d,rfl⟩:=nl3 l
 have f:=NI h.ve
 refine ⟨(L0 s.2.2.2.2.2 (a,b,d)).2,if (L0 s.2.2.2.2.2 (a,b,d)).2 = true then (s.1,s.2.1,s.2.2.1,s.2.2.2.1,s.2.2.2.2.1,(L0 s.2.2.2.2.2 (a,b,d)).1) else s,?_,(fun e=>by rw [e]; rfl),?_,?_,fun c=>?_⟩
 ·split
  ·rename_i e
   refine ⟨h.ch,h.ke,h.mu,h.ca,?_⟩
   unfold L0 at e ⊢
   dsimp only
   split
   ·assumption
   ·rename_i g; rw [if_neg g] at e; cases e
  ·exact h
 ·split <;> exact Nat.le_succ _
 ·unfold CI NF Bk
  dsimp only
  rw [if_neg (by decide),if_neg (by decide),Iq,Aa,MV,Aa,XF,Aa,Tu h.ve f.2,Aa,Yy,Aa,Aa]
  cases (L0 s.2.2.2.2.2 (a,b,d)).2 <;> rfl
 ·unfold Cz NF Gl
  dsimp only
  rw [if_neg (by decide),if_neg (by decide),if_neg (by decide),if_neg (by decide),if_neg (by decide),if_neg (by decide),if_neg (by decide),if_pos (by rfl),Iq,Aa,MV,Aa,XF,Aa,show (EJ s c).2.2.2.2.2.1 = s.2.2.2.2.2 by rfl,SW h.ve f.2,Aa]
  cases (L0 s.2.2.2.2.2 (a,b,d)).2 <;> rfl
def Pl (n:List Int):Prop:=∀ x ∈ n,0 ≤ x ∧ x ≤ 99999
theorem Aak {s:FSx} (h:JX s) (ah:s.2.2.2.2.1.length ≤ 39) {n:List Int} (hn:n.length = 4) (m:Pl n):T5 s Q8 n CI:=by
 obtain ⟨a,b,d,e,rfl⟩:=nl4 hn
 have ai:=(Hm.1 h.ca).1
 have hK:∀ x ∈ s.2.2.2.2.1 ++ [(a,b,d,e)],Lx x:=by
  intro x f
  rcases AX.1 f with f | f
  ·exact Ur h.ca x f
  ·rw [List.mem_singleton] at f
   subst f
   have hb:=m b (by simp)
   have hd:=m d (by simp)
   exact ⟨hb,hd⟩
 obtain ⟨Z,z1,z2,v,u⟩:=Yt (l:=s.2.2.2.2.1 ++ [(a,b,d,e)]) (by simp; omega) hK
 have g:=z1.length_eq
 rw [CM,List.length_singleton] at g
 refine ⟨Fw Z,if Fw Z = true then (s.1,s.2.1,s.2.2.1,s.2.2.2.1,Z,s.2.2.2.2.2) else s,?_,(fun e=>by rw [e]; rfl),?_,?_,fun c=>?_⟩
 ·split
  ·rename_i e; exact ⟨h.ch,h.ke,h.mu,e,h.ve⟩
  ·exact h
 ·split
  ·exact Nat.le_of_eq g
  ·exact Nat.le_succ _
 ·unfold CI Q8 Gl
  dsimp only
  rw [if_neg (by decide),if_pos (by rfl),Iq,Aa,MV,Aa,XF,Aa,ix3,Aa,Bt (by simp; omega),Aa,List.nil_append,Bt (by simp; omega),Aa,z2,Aa,v,Aa]
  cases Fw Z <;> rfl
 ·unfold Cz Q8 Gl W0
  dsimp only
  rw [if_neg (by decide),if_neg (by decide),if_neg (by decide),if_neg (by decide),if_neg (by decide),if_neg (by decide),if_pos (by rfl),Iq,Aa,MV,Aa,XF,Aa,ix3,Aa,show (EJ s c).2.2.2.2.1 = s.2.2.2.2.1 by rfl,Bt (by simp; omega),Aa,List.nil_append,Bt (by simp; omega),Aa,u,Aa]
  cases Fw Z <;> rfl
def Pf (s:FSx) (w:List Aj) (n:List Int):Prop:=∃ r,r.length ≤ 1000 ∧ Ca s w n = some r ∧ ∀ c,C3 (EJ s c) w n = some r
theorem NX {r:Int × Bool} (h:0 ≤ r.1) (e:r.1 ≤ 1000000000):(OT r).length ≤ 1000:=by
 unfold OT
 split
 ·have:=Hy (k:=9) (u:=r.1.toNat) (by omega)
  omega
 ·decide
theorem Aah (e:Int):Lf Qj e = ([],false):=by
 unfold Lf
 rw [Sl]
 rfl
theorem ZY (e:Int):Mc Qj e = (0,false):=by
 unfold Mc
 rw [Sl]
 rfl
theorem Abb:Mz Qj = (0,false):=by
 unfold Mz
 rw [Sl]
 rfl
theorem UY {a b:List (Int × Int)} {n:Int} (h:(Ek a b n).2 = false):(Ek a b n).1 = Qj:=by
 unfold Ek at *
 split
 ·rename_i e; rw [if_pos e] at h; cases h
 ·rfl
theorem Zi {a b:List (Int × Int)} {n:Int} (h:(Fz a b n).2 = false):(Fz a b n).1 = Qj:=by
 unfold Fz at *
 split
 ·rename_i e; rw [if_pos e] at h; cases h
 ·rfl
theorem Adb {s:FSx} (h:JX s) {n:List Int}:Pf s VK n:=by
 have h1:=CY h.ch
 have m:=CY h.ke
 have e:=Zh s.2.1 s.1 s.2.2.1
 have g:=Abc (Fz s.2.1 s.1 s.2.2.1).1
 have f:=Of (r:=Mz (Fz s.2.1 s.1 s.2.2.1).1) g.1 (by omega)
 refine ⟨OT (Mz (Fz s.2.1 s.1 s.2.2.1).1),NX g.1 (by omega),?_,fun c=>?_⟩
 ·unfold Ca VK Wz
  dsimp only
  rw [if_pos (by rfl),PT (by omega) (by omega),Aa,show ((Fz s.2.1 s.1 s.2.2.1).1.1,(Fz s.2.1 s.1 s.2.2.1).1.2.1,(Fz s.2.1 s.1 s.2.2.1).1.2.2.1,(Fz s.2.1 s.1 s.2.2.1).1.2.2.2) = (Fz s.2.1 s.1 s.2.2.1).1 by rfl,e.sum.1,Aa,f.1,Aa]
 ·unfold C3 VK jK5
  dsimp only
  rw [if_pos (by rfl),show (EJ s c).1 = s.1 by rfl,show (EJ s c).2.1 = s.2.1 by rfl,show (EJ s c).2.2.1 = s.2.2.1 by rfl,PH (by omega) (by omega),Aa,show ((Fz s.2.1 s.1 s.2.2.1).1.1,(Fz s.2.1 s.1 s.2.2.1).1.2.1,(Fz s.2.1 s.1 s.2.2.1).1.2.2.1,(Fz s.2.1 s.1 s.2.2.1).1.2.2.2) = (Fz s.2.1 s.1 s.2.2.1).1 by rfl]
  cases l:(Fz s.2.1 s.1 s.2.2.1).2 with
  | true=>rw [if_neg (by simp),e.sum.2,Aa,f.2,Aa]
  | false =>
   rw [if_pos (by rfl),Zi l,Abb]
   rfl
theorem Yl {t:BV} (h:SmT t) (e:Int):(∀ q ∈ (Lf t e).1,NW q) ∧ (Lf t e).1.length ≤ 144:=by
 have:=h.h1
 unfold Lf
 split
 ·refine ⟨fun q f=>?_,?_⟩
  ·obtain ⟨i,k,h1,g,m,l,_⟩:=Za f
   exact ⟨i,k,h1,by omega,by omega⟩
  ·have h1:=QL (XK t e) t.1.length t.1.length
   have g:t.1.length * t.1.length ≤ 12 * 12:=Nat.mul_le_mul this this
   dsimp only
   omega
 ·exact ⟨(fun q f=>by cases f),by simp⟩
theorem Yp {P:List (List Int)} (h:∀ q ∈ P,NW q) (g:P.length ≤ 144):(Oe P).length ≤ 1000:=by
 unfold Oe
 split
 ·decide
 ·have:=QN (B:=5) (P.map Ow) (fun w e=>by
   obtain ⟨q,f,rfl⟩:=List.mem_map.1 e
   exact (Ph (h q f)).2)
  rw [List.length_map] at this
  omega
theorem Aar {s:FSx} (h:JX s) {n:List Int} (m:n.length = 1):Pf s Q7 n:=by
 obtain ⟨a,rfl⟩:=XB m
 have h1:=CY h.ch
 have u:=CY h.ke
 have f:=UX s.2.1 s.1 s.2.2.1
 obtain ⟨e,g⟩:=Yl f a
 refine ⟨if (Lf (Ek s.2.1 s.1 s.2.2.1).1 a).2 = true then Oe (Lf (Ek s.2.1 s.1 s.2.2.1).1 a).1 else [110,111],?_,?_,fun c=>?_⟩
 ·split
  ·exact Yp e g
  ·decide
 ·unfold Ca Q7 GJ Wz
  dsimp only
  rw [if_neg (by decide),if_pos (by rfl),Iq,Aa,Me (by omega) (by omega),Aa,show ((Ek s.2.1 s.1 s.2.2.1).1.1,(Ek s.2.1 s.1 s.2.2.1).1.2.1,(Ek s.2.1 s.1 s.2.2.1).1.2.2.1,(Ek s.2.1 s.1 s.2.2.1).1.2.2.2) = (Ek s.2.1 s.1 s.2.2.1).1 by rfl,QR f,Aa]
  generalize Lf (Ek s.2.1 s.1 s.2.2.1).1 a = r at *
  obtain ⟨P,b⟩:=r
  cases b with
  | false=>rfl
  | true =>
   dsimp only at e g ⊢
   rw [if_neg (by simp),if_pos rfl]
   unfold Oe
   cases P with
   | nil=>rfl
   | cons q P =>
    rw [if_neg (by simp; omega),Yo e (by omega),Aa,if_neg (by simp)]
 ·unfold C3 Q7 Hs ED Bk
  dsimp only
  rw [if_neg (by decide),if_pos (by rfl),Iq,Aa,show (EJ s c).1 = s.1 by rfl,show (EJ s c).2.1 = s.2.1 by rfl,show (EJ s c).2.2.1 = s.2.2.1 by rfl,LT (by omega) (by omega),Aa,Aa,QC f,Aa]
  cases l:(Ek s.2.1 s.1 s.2.2.1).2 with
  | false =>
   rw [UY l,Aah]
   rfl
  | true =>
   generalize Lf (Ek s.2.1 s.1 s.2.2.1).1 a = r at *
   obtain ⟨P,b⟩:=r
   cases b with
   | false=>rfl
   | true =>
    dsimp only at e g ⊢
    rw [if_neg (by simp),if_neg (by simp),Yn e (by omega),Aa,if_pos rfl]
theorem Abv {s:FSx} (h:JX s) {n:List Int} (m:n.length = 1):Pf s SL n:=by
 obtain ⟨a,rfl⟩:=XB m
 have h1:=CY h.ch
 have u:=CY h.ke
 have e:=UX s.2.1 s.1 s.2.2.1
 have g:=ZZ (Ek s.2.1 s.1 s.2.2.1).1 a
 have f:=Of (r:=Mc (Ek s.2.1 s.1 s.2.2.1).1 a) g.1 (by omega)
 refine ⟨OT (Mc (Ek s.2.1 s.1 s.2.2.1).1 a),NX g.1 (by omega),?_,fun c=>?_⟩
 ·unfold Ca SL Wz
  dsimp only
  rw [if_neg (by decide),if_neg (by decide),if_pos (by rfl),Me (by omega) (by omega),Aa,Iq,Aa,show ((Ek s.2.1 s.1 s.2.2.1).1.1,(Ek s.2.1 s.1 s.2.2.1).1.2.1,(Ek s.2.1 s.1 s.2.2.1).1.2.2.1,(Ek s.2.1 s.1 s.2.2.1).1.2.2.2) = (Ek s.2.1 s.1 s.2.2.1).1 by rfl,Ts e,Aa,f.1,Aa]
 ·unfold C3 SL ED
  rw [if_neg (by decide),if_neg (by decide),if_pos (by rfl),show (EJ s c).1 = s.1 by rfl,show (EJ s c).2.1 = s.2.1 by rfl,show (EJ s c).2.2.1 = s.2.2.1 by rfl,LT (by omega) (by omega),Aa,Aa,Iq,Aa]
  cases l:(Ek s.2.1 s.1 s.2.2.1).2 with
  | true=>rw [if_neg (by simp),SU e,Aa,f.2,Aa]
  | false =>
   rw [if_pos (by rfl),UY l,ZY]
   rfl
theorem Aaq {s:FSx} (h:JX s) {n:List Int}:Pf s Q6 n:=by
 obtain ⟨g,l,f,m⟩:=Sz h.ch
 have e:=Of (r:=MU s.1) f (by omega)
 refine ⟨OT (MU s.1),NX f (by omega),?_,fun c=>?_⟩
 ·unfold Ca Q6
  rw [if_neg (by decide),if_neg (by decide),if_neg (by decide),if_pos (by rfl),g,Aa,e.1,Aa]
 ·unfold C3 Q6
  rw [if_neg (by decide),if_neg (by decide),if_neg (by decide),if_pos (by rfl),show (EJ s c).1 = s.1 by rfl,l,Aa,e.2,Aa]
theorem Abt {s:FSx} (h:JX s) {n:List Int} (m:n.length = 1) (l:Pl n):Pf s SI n:=by
 obtain ⟨a,rfl⟩:=XB m
 have g:=l a (by simp)
 have f:=Z7 h.mu (c:=a) g.2
 have e:=Of (r:=Nu s.2.2.2.1 a) f.1 (by omega)
 refine ⟨OT (Nu s.2.2.2.1 a),NX f.1 (by omega),?_,fun c=>?_⟩
 ·unfold Ca SI
  rw [if_neg (by decide),if_neg (by decide),if_neg (by decide),if_neg (by decide),if_neg (by decide),if_neg (by decide),if_pos (by rfl),Iq,Aa,Xq h.mu,Aa,e.1,Aa]
 ·unfold C3 SI
  rw [if_neg (by decide),if_neg (by decide),if_neg (by decide),if_neg (by decide),if_pos (by rfl),Iq,Aa,show (EJ s c).2.2.2.1 = s.2.2.2.1 by rfl,Xl h.mu,Aa,e.2,Aa]
theorem Ada {s:FSx} (h:JX s) {n:List Int} (f:n.length = 2):Pf s VJ n:=by
 obtain ⟨a,b,rfl⟩:=nl2 f
 have e:=Aa7 h.ca a b
 refine ⟨if (MY s.2.2.2.2.1 a b).2 = true then Lib.decDigits (MY s.2.2.2.2.1 a b).1.toNat else [110,111,110,101],?_,?_,fun c=>?_⟩
 ·split
  ·have:=Hy (k:=1) (u:=(MY s.2.2.2.2.1 a b).1.toNat) (by omega)
   omega
  ·decide
 ·unfold Ca VJ
  rw [if_neg (by decide),if_neg (by decide),if_neg (by decide),if_neg (by decide),if_neg (by decide),if_neg (by decide),if_neg (by decide),if_pos (by rfl),Iq,Aa,MV,Aa,Ua h.ca,Aa,LA e.1 (by omega),Aa]
  cases (MY s.2.2.2.2.1 a b).2 <;> rfl
 ·unfold C3 VJ
  rw [if_neg (by decide),if_neg (by decide),if_neg (by decide),if_neg (by decide),if_neg (by decide),if_pos (by rfl),Iq,Aa,MV,Aa,show (EJ s c).2.2.2.2.1 = s.2.2.2.2.1 by rfl,TL h.ca,Aa,JY e.1 (by omega),Aa]
  cases (MY s.2.2.2.2.1 a b).2 <;> rfl
theorem Aao {s:FSx} (h:JX s) {n:List Int} (g:n.length = 1):Pf s Q4 n:=by
 obtain ⟨a,rfl⟩:=XB g
 obtain ⟨⟨z,b⟩,l,v,e⟩:=WJ h.ve a
 refine ⟨if b = true then Gr (z.map Mu) else [110,111],?_,?_,fun c=>?_⟩
 ·split
  ·rename_i f
   obtain ⟨m,f⟩:=e f
   have:=QN (B:=3) (z.map Mu) (fun w u=>by
    obtain ⟨n,g,rfl⟩:=List.mem_map.1 u
    exact Ro (f n g).2)
   rw [List.length_map] at this
   dsimp only at m
   omega
  ·decide
 ·unfold Ca Q4 Fx
  rw [if_neg (by decide),if_neg (by decide),if_neg (by decide),if_neg (by decide),if_neg (by decide),if_neg (by decide),if_neg (by decide),if_neg (by decide),Iq,Aa,l,Aa]
  cases b with
  | false=>rfl
  | true =>
   rw [if_neg (by simp),Vk (e rfl),Aa]
   rfl
 ·unfold C3 Q4
  rw [if_neg (by decide),if_neg (by decide),if_neg (by decide),if_neg (by decide),if_neg (by decide),if_neg (by decide),if_pos (by rfl),Iq,Aa,show (EJ s c).2.2.2.2.2.1 = s.2.2.2.2.2 by rfl,v,Aa]
  cases b with
  | false=>rfl
  | true =>
   rw [if_neg (by simp),Xs (e rfl),Aa]
   rfl
theorem Abu {s:FSx} (h:JX s) {n:List Int} (u:n.length = 1) (g:Pl n):Pf s SJ n:=by
 obtain ⟨a,rfl⟩:=XB u
 have f:=g a (by simp)
 have h1:=CY h.ch
 refine ⟨if (s.1.length:Int) ≤ a then [110,111] else PG (DW s.1 a.toNat),?_,?_,fun c=>?_⟩
 ·split
  ·decide
  ·have:=Y7 (I6 h.ch (i:=a.toNat) (by omega))
   omega
 ·unfold Ca SJ
  rw [if_neg (by decide),if_neg (by decide),if_neg (by decide),if_neg (by decide),if_pos (by rfl),Iq,Aa,Aa]
  by_cases e:(s.1.length:Int) ≤ a
  ·rw [if_pos (decide_eq_true e),if_pos e]
  ·rw [if_neg (by simpa using e),if_neg e,Iv f.1,Dq (by omega),Aa,Vp (I6 h.ch (by omega)),Aa]
 ·unfold C3 SJ
  rw [if_neg (by decide),if_neg (by decide),if_neg (by decide),if_neg (by decide),if_neg (by decide),if_neg (by decide),if_neg (by decide)]
  obtain ⟨m,l⟩:∃ m,FU = m + 2:=⟨FU - 2,rfl⟩
  rw [l,CD,if_pos (by simp),Iq,Aa,show (EJ s c).1 = s.1 by rfl]
  by_cases e:(s.1.length:Int) ≤ a
  ·rw [if_pos (decide_eq_true e),if_pos e]
  ·rw [if_neg (by simpa using e),if_neg e,show Ag (0 + 1) = 1 by decide,CD,if_neg (by simp),if_pos (by rfl),Iq,Aa,show (EJ s c).1 = s.1 by rfl,Iv f.1,Dq (by omega),Aa,Xf (I6 h.ch (by omega)),Aa]
theorem Aap {s:FSx} (h:JX s) {n:List Int} (hn:n.length = 2) (u:Pl n):Pf s NG n:=by
 obtain ⟨a,b,rfl⟩:=nl2 hn
 have l:=u a (by simp)
 have hb:=u b (by simp)
 have h1:=CY h.ch
 by_cases e:(s.1.length:Int) ≤ Fy a b
 ·have ai:(s.1.length:Int) ≤ a ∨ (s.1.length:Int) ≤ b:=by unfold Fy at e; split at e <;> omega
  refine ⟨[110,111],by decide,?_,fun c=>?_⟩
  ·unfold Ca NG
   rw [if_neg (by decide),if_neg (by decide),if_neg (by decide),if_neg (by decide),if_neg (by decide),if_pos (by rfl),Iq,Aa,MV,Aa,if_pos (decide_eq_true e)]
  ·unfold C3 NG
   rw [if_neg (by decide),if_neg (by decide),if_neg (by decide),if_neg (by decide),if_neg (by decide),if_neg (by decide),if_neg (by decide)]
   obtain ⟨m,g⟩:∃ m,FU = m + 3:=⟨FU - 3,rfl⟩
   rw [g,CD,if_pos (by simp),Iq,Aa,show (EJ s c).1 = s.1 by rfl]
   by_cases f:(s.1.length:Int) ≤ a
   ·rw [if_pos (decide_eq_true f)]
   ·rw [if_neg (by simpa using f),show Ag (0 + 1) = 1 by decide,CD,if_pos (by simp),MV,Aa,show (EJ s c).1 = s.1 by rfl,if_pos (decide_eq_true (by omega))]
 ·have f:¬ (s.1.length:Int) ≤ a:=by unfold Fy at e; split at e <;> omega
  have ad:¬ (s.1.length:Int) ≤ b:=by unfold Fy at e; split at e <;> omega
  obtain ⟨e1,e2,b1,b2⟩:=Ut (I6 h.ch (i:=a.toNat) (by omega)) (I6 h.ch (i:=b.toNat) (by omega))
  have v:=Of (r:=NM (DW s.1 a.toNat) (DW s.1 b.toNat)) b1 (by omega)
  refine ⟨OT (NM (DW s.1 a.toNat) (DW s.1 b.toNat)),NX b1 (by omega),?_,fun c=>?_⟩
  ·unfold Ca NG
   rw [if_neg (by decide),if_neg (by decide),if_neg (by decide),if_neg (by decide),if_neg (by decide),if_pos (by rfl),Iq,Aa,MV,Aa,if_neg (by simpa using e),Aa,Iv l.1,Dq (by omega),Aa,Aa,Iv hb.1,Dq (by omega),Aa,e1,Aa,v.1,Aa]
  ·unfold C3 NG
   rw [if_neg (by decide),if_neg (by decide),if_neg (by decide),if_neg (by decide),if_neg (by decide),if_neg (by decide),if_neg (by decide)]
   obtain ⟨m,g⟩:∃ m,FU = m + 3:=⟨FU - 3,rfl⟩
   rw [g,CD,if_pos (by simp),Iq,Aa,show (EJ s c).1 = s.1 by rfl,if_neg (by simpa using f),show Ag (0 + 1) = 1 by decide,CD,if_pos (by simp),MV,Aa,show (EJ s c).1 = s.1 by rfl,if_neg (by simpa using ad),show Ag (1 + 1) = 2 by decide,CD,if_neg (by simp),if_neg (by decide),Iq,Aa,show (EJ s c).1 = s.1 by rfl,Iv l.1,Dq (by omega),Aa,MV,Aa,Iv hb.1,Dq (by omega),Aa,e2,Aa,v.2,Aa]
structure VF (s:FSx) (l:List Aj) (r:List Aj) (s':FSx):Prop where
 ok:JX s'
 len:r.length ≤ 1000
 car:s'.2.2.2.2.1.length ≤ s.2.2.2.2.1.length + 1
 im:Dv s l = some (r,s')
 sp:∀ c,Eb (EJ s c) l = some (r,EJ s' c)
 no:r = [110,111] ∨ r = [119,104,97,116] → s' = s
theorem ZB (c:Aj) (l:List Aj):∃ w e,Da c l = w :: e:=by
 cases h:Da c l with
 | nil=>have:=Jk c l; rw [h] at this; simp at this
 | cons w e=>exact ⟨w,e,rfl⟩
theorem Acm {b:Bool} (h:Qi b = [110,111] ∨ Qi b = [119,104,97,116]):b = false:=by
 cases b with
 | false=>rfl
 | true=>rcases h with h | h <;> exact absurd h (by decide)
theorem Y8 (c:Aj):∀ (m:List Aj),∀ b ∈ Da c m,b.length ≤ m.length:=by
 intro m
 induction m with
 | nil=>intro b e; simp [Da] at e; simp [e]
 | cons x m f =>
  intro b e
  rw [Da] at e
  split at e
  ·rcases List.mem_cons.1 e with rfl | e
   ·simp
   ·have:=f b e; simp; omega
  ·cases g:Da c m with
   | nil=>have:=Jk c m; rw [g] at this; simp at this
   | cons a t =>
    rw [g] at e f
    rcases List.mem_cons.1 e with rfl | e
    ·have:=f a (List.mem_cons_self ..); simp; omega
    ·have:=f b (List.mem_cons_of_mem _ e); simp; omega
theorem XQ {s:FSx} (h:JX s) (u:s.2.2.2.2.1.length ≤ 39) {w:List Aj} {f:List Int} (g:Pl f) (l:Pa w = (f.length:Int)) :
  (∃ F,T5 s w f F ∧ (w ∈ IW ∧ F = BI ∨ w ∈ Pb ∧ F = CI)) ∨ (w ∈ LI ∧ Pf s w f):=by
 have m:=ZX (w:=w) (by rw [l]; omega)
 have len:∀ k:Nat,Pa w = (k:Int) → f.length = k:=fun k e=>by rw [e] at l; omega
 simp only [IW,Pb,LI,List.cons_append,List.nil_append,List.mem_cons,List.not_mem_nil,or_false] at m
 rcases m with rfl | rfl | rfl | rfl | rfl | rfl | rfl | rfl | rfl | rfl | rfl | rfl | rfl | rfl | rfl | rfl | rfl
 ·exact .inl ⟨_,Abo h (len 2 rfl),.inl ⟨by simp [IW],rfl⟩⟩
 ·exact .inl ⟨_,Aaj h (len 3 rfl),.inl ⟨by simp [IW],rfl⟩⟩
 ·exact .inl ⟨_,Zs h,.inl ⟨by simp [IW],rfl⟩⟩
 ·exact .inl ⟨_,Abp h,.inl ⟨by simp [IW],rfl⟩⟩
 ·exact .inl ⟨_,Zt h (len 1 rfl),.inl ⟨by simp [IW],rfl⟩⟩
 ·exact .inl ⟨_,Ys h (len 2 rfl),.inr ⟨by simp [Pb],rfl⟩⟩
 ·exact .inl ⟨_,Aak h u (len 4 rfl) g,.inr ⟨by simp [Pb],rfl⟩⟩
 ·exact .inl ⟨_,Yr h (len 3 rfl),.inr ⟨by simp [Pb],rfl⟩⟩
 ·exact .inr ⟨by simp [LI],Adb h⟩
 ·exact .inr ⟨by simp [LI],Aar h (len 1 rfl)⟩
 ·exact .inr ⟨by simp [LI],Abv h (len 1 rfl)⟩
 ·exact .inr ⟨by simp [LI],Aaq h⟩
 ·exact .inr ⟨by simp [LI],Abt h (len 1 rfl) g⟩
 ·exact .inr ⟨by simp [LI],Ada h (len 2 rfl)⟩
 ·exact .inr ⟨by simp [LI],Aao h (len 1 rfl)⟩
 ·exact .inr ⟨by simp [LI],Abu h (len 1 rfl) g⟩
 ·exact .inr ⟨by simp [LI],Aap h (len 2 rfl) g⟩
theorem ZN {l:List (List Aj)} {f:List Int} (h:IU Pn l = some f):Pl f:=by
 refine Wt (fun x y e=>?_) h
 unfold Pn at e
 split at e
 ·rename_i g
  cases e
  exact D9.1 g
 ·cases e
theorem ZG (s:FSx) (w:List Aj) {f:List (List Aj)} (hl:f.length ≤ 2000) (hm:∀ a ∈ f,a.length ≤ 2000):BT f s w FU [] 0 = match IU Pn f with
  | none=>some ([119,104,97,116],s)
  | some l=>BT f s w 1 l (f.length:Int):=by
 refine (VB (BT f s w) f Pn (fun l=>BT f s w 1 l (f.length:Int)) (some ([119,104,97,116],s)) (by omega) (fun m k ab x g ha=>?_) (fun m ab ha=>?_)).trans (by cases IU Pn f <;> rfl)
 ·have hk:=(List.getElem?_eq_some_iff.1 g).1
  have ag:=hm x (List.mem_of_getElem? g)
  rw [BT,if_pos (by simp; omega),AY,g,Aa,W1 x (by omega),Aa,AD (by omega)]
  unfold Bk Pn
  dsimp only
  cases v:BM (Le x) 0 99999 with
  | true =>
   obtain ⟨e,u⟩:=Xn v
   rw [e,if_neg (by simp),if_neg (by simp; omega),Bt (by simp; omega),Aa,if_pos rfl]
  | false =>
   rw [if_neg (c:=false = true) (by simp)]
   cases hb:(LZ x).2 with
   | false=>rw [if_pos (by rfl),if_pos rfl]
   | true =>
    have u:99999 < (LZ x).1:=by
     rcases Wn v with h | h
     ·rw [hb] at h; cases h
     ·exact h
    rw [if_neg (by simp),if_pos (decide_eq_true u)]
 ·rw [BT,BT,if_neg (by simp),if_neg (by simp)]
theorem Zg (x:SpT) (u:List (List Aj)) {e:List (List Aj)} (v:e.length ≤ 2000) (s:∀ a ∈ e,a.length ≤ 2000):BS e x u FU [] 0 = match IU Pn e with
  | none=>some ([119,104,97,116],x)
  | some g=>BS e x u 1 g (e.length:Int):=by
 refine (VB (BS e x u) e Pn (fun g=>BS e x u 1 g (e.length:Int)) (some ([119,104,97,116],x)) (by omega) (fun m k l y f h=>?_) (fun m l h=>?_)).trans (by cases IU Pn e <;> rfl)
 ·have hk:=(List.getElem?_eq_some_iff.1 f).1
  have aa:=s y (List.mem_of_getElem? f)
  rw [BS,if_pos (by simp; omega),AY,f,Aa,Zj y (by omega),Aa,CU,Aa,AD (by omega),Bt (by simp; omega),Aa]
  unfold Pn
  cases BM (Le y) 0 99999 <;> rfl
 ·rw [BS,BS,if_neg (by simp),if_neg (by simp)]
theorem UZ {s:FSx} (h:JX s) (a0:s.2.2.2.2.1.length ≤ 39) {l:List Aj} (hl:l.length ≤ 2000):∃ r s',VF s l r s':=by
 obtain ⟨w,f,ah⟩:=ZB 32 l
 have aw:f.length ≤ 2000:=by
  have h1:=Jk 32 l
  have h2:l.count 32 ≤ l.length:=List.count_le_length
  rw [ah,List.length_cons] at h1
  omega
 have an:∀ a ∈ f,a.length ≤ 2000:=fun a ha=>by
  have:=Y8 32 l a (by rw [ah]; exact List.mem_cons_of_mem _ ha)
  omega
 have a1:FZ l [32] = some (w :: f):=by rw [← ah]; exact X2 l 32 (by omega)
 have ax:FN l 32 = some (w :: f):=by rw [← ah]; exact SS l 32 (by omega)
 have aq:sl (w :: f) 1 (((w :: f).length:Nat):Int) = some f:=SY (w :: f) (k:=1) (by simp)
 have im:Dv s l = match IU Pn f with
  | none=>some ([119,104,97,116],s)
  | some m=>BT f s w 1 m (f.length:Int):=by
  unfold Dv
  rw [a1,Aa,Iq,Aa,aq,Aa,ZG s w aw an]
 have sp:∀ c,Eb (EJ s c) l = if (f.length:Int) ≠ Pa w then some ([119,104,97,116],EJ s c) else match IU Pn f with
  | none=>some ([119,104,97,116],EJ s c)
  | some m=>BS f (EJ s c) (w :: f) 1 m (f.length:Int):=by
  intro c
  unfold Eb
  rw [ax,Aa,Iq,Aa,Tv,Aa,aq,Aa,Zg _ _ aw an,A6 (by rw [List.length_cons]; omega) (by rw [List.length_cons]; omega),show (((w :: f).length:Nat):Int) - 1 = (f.length:Int) by simp]
  by_cases e:(f.length:Int) = Pa w
  ·rw [if_neg (by simpa using e),if_neg (by simpa using e)]
  ·rw [if_pos (by simpa using e),if_pos e]
 have av:(∀ c,Eb (EJ s c) l = some ([119,104,97,116],EJ s c)) → Dv s l = some ([119,104,97,116],s) → ∃ r s',VF s l r s':=fun a b=>⟨_,s,h,by decide,Nat.le_succ _,b,a,fun _=>rfl⟩
 cases ad:IU Pn f with
 | none =>
  rw [ad] at im
  refine av (fun c=>?_) im
  rw [sp c,ad]
  split <;> rfl
 | some m =>
  have am:=Wu ad
  rw [ad] at im
  dsimp only at im
  rw [BT,if_neg (by simp),TG,Aa] at im
  by_cases hc:Pa w = (m.length:Int)
  ·rw [if_neg (by simp [hc])] at im
   have au:∀ c,Eb (EJ s c) l = BS f (EJ s c) (w :: f) 1 m (f.length:Int):=fun c=>by
    rw [sp c,if_neg (by rw [hc,am]; simp),ad]
   rcases XQ h a0 (ZN ad) hc with ⟨F,⟨ok,s',g1,g2,g3,g4,g5⟩,hF⟩ | ⟨g,r,g1,g2,g3⟩
   ·refine ⟨Qi ok,s',g1,by cases ok <;> decide,g3,?_,fun c=>?_,fun e=>g2 (Acm e)⟩
    ·rw [im]
     rcases hF with ⟨g,rfl⟩ | ⟨g,rfl⟩
     ·simp only [IW,List.mem_cons,List.not_mem_nil,or_false] at g
      have ab:(Option.bind (BI s w m) fun u=>some (u.1,u.2)) = some (Qi ok,s'):=by rw [g4]; rfl
      rcases g with rfl | rfl | rfl | rfl | rfl <;> exact ab
     ·simp only [Pb,List.mem_cons,List.not_mem_nil,or_false] at g
      have ab:(Option.bind (CI s w m) fun u=>some (u.1,u.2)) = some (Qi ok,s'):=by rw [g4]; rfl
      rcases g with rfl | rfl | rfl <;> exact ab
    ·rw [au c,BS,if_neg (by simp)]
     have ab:(Option.bind (Cz (EJ s c) w m) fun u=>Option.bind (Jd u.1) fun v=>some (v,u.2)) = some (Qi ok,EJ s' c):=by rw [g5,Aa,Abn]; rfl
     have ar:w ∈ IW ++ Pb:=by
      rcases hF with ⟨g,_⟩ | ⟨g,_⟩
      ·exact At _ g
      ·exact Bi _ g
     simp only [IW,Pb,List.cons_append,List.nil_append,List.mem_cons,List.not_mem_nil,or_false] at ar
     rcases ar with rfl | rfl | rfl | rfl | rfl | rfl | rfl | rfl <;> exact ab
   ·refine ⟨r,s,h,g1,Nat.le_succ _,?_,fun c=>?_,fun _=>rfl⟩
    ·rw [im]
     have ab:(Option.bind (Ca s w m) fun u=>some (u,s)) = some (r,s):=by rw [g2]; rfl
     simp only [LI,List.mem_cons,List.not_mem_nil,or_false] at g
     rcases g with rfl | rfl | rfl | rfl | rfl | rfl | rfl | rfl | rfl <;> exact ab
    ·rw [au c,BS,if_neg (by simp)]
     have ab:(Option.bind (C3 (EJ s c) w m) fun u=>some (u,EJ s c)) = some (r,EJ s c):=by rw [g3]; rfl
     simp only [LI,List.mem_cons,List.not_mem_nil,or_false] at g
     rcases g with rfl | rfl | rfl | rfl | rfl | rfl | rfl | rfl | rfl <;> exact ab
  ·rw [if_pos (by simpa using fun e=>hc e.symm)] at im
   refine av (fun c=>?_) im
   rw [sp c,if_pos (by rw [← am]; exact fun e=>hc e.symm)]
def LR (s:FSx) (l:List Aj):List Aj × FSx:=(Dv s l).getD ([],s)
def LD (s:FSx):List (List Aj) → FSx
 | []=>s
 | l :: ls=>LD (LR s l).2 ls
def Lo (s:FSx):List (List Aj) → List (List Aj)
 | []=>[]
 | l :: ls=>(LR s l).1 :: Lo (LR s l).2 ls
theorem O8 (l:List Aj):∀ (e:List (List Aj)) (s:FSx),LD s (e ++ [l]) = (LR (LD s e) l).2
 | [],s=>rfl
 | a :: e,s=>O8 l e (LR s a).2
theorem QF (l:List Aj):∀ (e:List (List Aj)) (s:FSx),Lo s (e ++ [l]) = Lo s e ++ [(LR (LD s e) l).1]
 | [],s=>rfl
 | a :: e,s=>by rw [List.cons_append,Lo,QF l e,Lo,LD]; rfl
theorem Sk:∀ (e:List (List Aj)) (s:FSx),(Lo s e).length = e.length
 | [],s=>rfl
 | a :: e,s=>by rw [Lo,List.length_cons,Sk e,List.length_cons]
def KM:FSx:=([(0,0)],[(0,0)],8,[(4,120)],[],[((-1),0,0)])
theorem Acb:JX KM:=⟨by decide,by decide,by decide,by decide,by decide⟩
theorem Xy {s:FSx} {l r:List Aj} {e:FSx} (h:VF s l r e):LR s l = (r,e):=by unfold LR; rw [h.im]; rfl
structure Aei (ls:List (List Aj)) (k:Nat):Prop where
 ok:JX (LD KM (ls.take k))
 car:(LD KM (ls.take k)).2.2.2.2.1.length ≤ k
 rep:∀ r ∈ Lo KM (ls.take k),r.length ≤ 1000
theorem MM {α:Type} (l:List α) {k:Nat} (h:k < l.length):l.take (k + 1) = l.take k ++ [l[k]]:=List.take_succ_eq_append_getElem h
theorem O0 {l:List (List Aj)} (v:l.length ≤ 40) (s:∀ a ∈ l,a.length ≤ 2000):∀ k,k ≤ l.length → Aei l k
 | 0,_=>⟨Acb,Nat.le_refl _,fun r u=>by cases u⟩
 | k + 1,h=>by
  have f:=O0 v s k (by omega)
  have hc:=f.car
  obtain ⟨r,s',g⟩:=UZ f.ok (by omega) (s l[k] (List.getElem_mem _))
  have e:=Xy g
  refine ⟨?_,?_,?_⟩
  ·rw [MM l (by omega),O8,e]; exact g.ok
  ·rw [MM l (by omega),O8,e]; exact Ay g.car (by omega)
  ·rw [MM l (by omega),QF,e]
   intro x m
   rcases AX.1 m with m | m
   ·exact f.rep x m
   ·rw [List.mem_singleton] at m; rw [m]; exact g.len
theorem We {e:List (List Aj)} (m:e.length ≤ 40) (h:∀ a ∈ e,a.length ≤ 2000) {k:Nat} (l:k < e.length):VF (LD KM (e.take k)) e[k] (LR (LD KM (e.take k)) e[k]).1 (LD KM (e.take (k + 1))):=by
 have f:=O0 m h k (by omega)
 have s:=f.car
 obtain ⟨r,u,g⟩:=UZ f.ok (by omega) (h e[k] (List.getElem_mem _))
 rw [MM e l,O8,Xy g]
 exact g
theorem UT (e:List (List Aj)) {k:Nat} (f:k < e.length):Lo KM (e.take (k + 1)) = Lo KM (e.take k) ++ [(LR (LD KM (e.take k)) e[k]).1]:=by rw [MM e f,QF]
def Od (p:List Aj → Bool) (rs:List (List Aj)):List Int:=((List.range rs.length).filter fun i=>p ((rs[i]?).getD [])).map fun (i:Nat)=>(i:Int) + 1
theorem Vc (p:List Aj → Bool) (e:List (List Aj)) (r:List Aj):Od p (e ++ [r]) = Od p e ++ if p r = true then [(e.length:Int) + 1] else []:=by
 unfold Od
 rw [CM,List.length_singleton,List.range_succ,List.filter_append,List.map_append]
 have f:(List.range e.length).filter (fun i=>p (((e ++ [r])[i]?).getD [])) = (List.range e.length).filter fun i=>p ((e[i]?).getD []):=by
  refine List.filter_congr fun i l=>?_
  rw [List.getElem?_append_left (List.mem_range.1 l)]
 rw [f,List.filter_cons]
 have h:(e ++ [r])[e.length]? = some r:=by simp
 rw [h]
 cases g:p r <;> simp [g]
def XA (r:List Aj):Bool:=r == [110,111]
def VG (r:List Aj):Bool:=r == [119,104,97,116]
theorem W3 (p:List Aj → Bool) (e:List (List Aj)):(Od p e).length ≤ e.length:=by
 unfold Od
 rw [List.length_map]
 exact Ay (List.length_filter_le _ _) (by simp)
structure Aeh (l:List Aj):Prop where
 n40:(D5 l).length ≤ 40
 each:∀ a ∈ D5 l,a.length ≤ 2000
theorem QE {l:List Aj} (h:GP l = true):Aeh l:=by
 obtain ⟨h1,e,g⟩:=GO.1 h
 exact ⟨by rw [PP e]; exact g,fun a f=>Ay (Yc f) h1⟩
def Um (l:List Aj):FSx:=LD KM (D5 l)
def QG (l:List Aj):List (List Aj):=Lo KM (D5 l)
theorem TX {l:List Aj} (u:l.length ≤ 4194304):IH l = some (if GP l = true then ((true,Um l),QG l,true) else ((false,([],[],0,[],[],[])),[],false)):=by
 unfold IH
 rw [TN l u,Aa]
 unfold N6
 cases h:GP l with
 | false=>rfl
 | true =>
  have f:=QE h
  rw [if_pos rfl,if_neg (by simp),if_pos rfl]
  unfold KH
  rw [Aa]
  refine Eq.trans (EM (fun m (z:FSx × List (List Aj)) k=>Eu (D5 l,true) m z.1 z.2 k) (D5 l).length (fun k=>(LD KM ((D5 l).take k),Lo KM ((D5 l).take k))) (some ((true,Um l),QG l,true)) (by have:=f.n40; omega) (j:=0) (by omega) (fun m k _ e=>?_) (fun m=>?_)) rfl
  ·have g:=We f.n40 f.each e
   have s:=Sk ((D5 l).take k) KM
   rw [List.length_take,Nat.min_eq_left (by omega)] at s
   have v:=f.n40
   rw [Eu,if_pos (by simp; omega),AY,Cp e,Aa,g.im,Aa,Bt (by simp; omega),Aa,AD (by omega),UT _ e]
  ·rw [Eu,if_neg (by simp),List.take_length]
   rfl
def ctK (rs:List (List Aj)):CtT:=(Od XA rs,Od VG rs,0)
theorem XW {l:List Aj} (hl:l.length ≤ 4194304):KX l = some (if GP l = true then (EJ (Um l) (Od XA (QG l),Od VG (QG l),((D5 l).length:Int)),KF (QG l),true) else (EJ KM ([],[],0),[],false)):=by
 unfold KX Lh
 rw [Yk l hl,Aa,Aa]
 unfold N6
 cases h:GP l with
 | false=>rfl
 | true =>
  have f:=QE h
  have aj:=f.n40
  rw [if_pos rfl,if_neg (by simp),if_pos rfl]
  refine Eq.trans (EM (fun m (z:SpT × List Aj) k=>Gb (D5 l,true) m z.1 z.2 k) (D5 l).length (fun k=>(EJ (LD KM ((D5 l).take k)) (ctK (Lo KM ((D5 l).take k))),KF (Lo KM ((D5 l).take k)))) (some (EJ (Um l) (Od XA (QG l),Od VG (QG l),((D5 l).length:Int)),KF (QG l),true)) (by omega) (j:=0) (by omega) (fun m k _ hk=>?_) (fun m=>?_)) rfl
  ·have g:=We f.n40 f.each hk
   have hr:=Sk ((D5 l).take k) KM
   have ae:=(O0 f.n40 f.each k (by omega)).rep
   rw [List.length_take,Nat.min_eq_left (by omega)] at hr
   have hj:=Va 1000 _ ae
   have h1:=W3 XA (Lo KM ((D5 l).take k))
   have h2:=W3 VG (Lo KM ((D5 l).take k))
   have ai:=g.len
   rw [Gb,if_pos (by simp; omega),AY,Cp hk,Aa,g.sp,Aa,UT _ hk]
   generalize (LR (LD KM ((D5 l).take k)) (D5 l)[k]).1 = r at *
   unfold Bk ctK EJ
   dsimp only
   rw [Wy,Vc,Vc,hr,AD (by omega)]
   have ej:KF [r] = r ++ [10]:=by unfold KF; simp
   rw [ej]
   by_cases e:r = [110,111]
   ·have v:XA r = true:=by rw [e]; rfl
    have s:VG r = false:=by rw [e]; rfl
    rw [if_pos (by rw [e]; rfl),v,s,if_pos rfl,if_neg (c:=false = true) (by simp),List.append_nil,Bt (by simp; omega),Aa,Bt (by simp; omega),Aa,Bt (by simp; omega),Aa]
    rfl
   ·have v:XA r = false:=beq_eq_false_iff_ne.2 e
    rw [if_neg (by simpa using e),v,if_neg (c:=false = true) (by simp),List.append_nil]
    by_cases u:r = [119,104,97,116]
    ·have s:VG r = true:=by rw [u]; rfl
     rw [if_pos (by rw [u]; rfl),s,if_pos rfl,Bt (by simp; omega),Aa,Bt (by simp; omega),Aa,Bt (by simp; omega),Aa]
     rfl
    ·have s:VG r = false:=beq_eq_false_iff_ne.2 u
     rw [if_neg (by simpa using u),s,if_neg (c:=false = true) (by simp),List.append_nil,Bt (by simp; omega),Aa,Bt (by simp; omega),Aa]
  ·rw [Gb,if_neg (by simp),List.take_length]
   rfl
def MX (l:List Aj):Aev × Bool:=if GP l = true then ((Um l).1,true) else ([],false)
theorem Tt {l:List Aj} (e:l.length ≤ 4194304):Hi l = some (MX l):=by
 unfold Hi MX
 rw [TX e,Aa]
 cases GP l <;> rfl
theorem SV {l:List Aj} (e:l.length ≤ 4194304):Ie l = some (MX l):=by
 unfold Ie MX
 rw [XW e,Aa]
 cases GP l <;> rfl
theorem Abm {l:List Aj} (h:GP l = true):JX (Um l):=by
 have f:=QE h
 have g:=(O0 f.n40 f.each _ (Nat.le_refl _)).ok
 rwa [List.take_length] at g
theorem Yq (l:List Aj):(MX l).1.length ≤ 12:=by
 unfold MX
 cases h:GP l with
 | false=>simp
 | true=>exact (CY (Abm h).ch).2
theorem Oi (l:List Aj) {G:Prop} (_:G):GU l = some true:=by
 unfold GU
 by_cases h:1048576 < (l.length:Int)
 ·rw [if_pos (decide_eq_true h)]
 ·have u:=Yq l
  obtain ⟨g,s,e,br,cr,v,f⟩:=ZU (MX l).1 (by omega) 1 (by decide) (by unfold PC; omega)
  have q:=Aag (MX l).1 ⟨by omega,fun _ _=>trivial⟩
  have m:¬ g < 0:=by omega
  rw [if_neg (by simpa using h),SV (by omega),Aa,Tt (by omega)]
  simp [Bk,q,e,f,m]
end Go.Proofs.YtellehgihceicaaGreatDoor
