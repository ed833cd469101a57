/-
 WHAT THE LAWS ON SHOWS HAND OVER AND TAKE BACK, PLAIN.
-/
import Derived.Test.YtellehgihceicaaGreatDoorPH
import Derived.Test.YtellehgihceicaaGreatDoorPB2
set_option linter.unusedVariables false
set_option linter.unusedSimpArgs false
set_option maxHeartbeats 1600000
namespace Go.Proofs.YtellehgihceicaaGreatDoor
open Go
theorem ZO {α:Type} (f:Nat → List α → Int → Int → Ae (List α)) (g:List α) (h:g.length ≤ 9223372036854775807)
  (u:∀ m l y z,f (m + 1) l y z = if (decide (y < z)) = true then Option.bind (AL l z) fun a=>Option.bind (AL l y) fun b=>Option.bind (AL l y) fun _=>Option.bind (AL (BE l y a) z) fun _=>f m (BE (BE l y a) z b) (Ag (y + 1)) (Ag (z - 1)) else some l) :
  f FU g 0 (Ag ((List.length g:Int) - 1)) = some g.reverse:=by
 have ac:∀ (P T:List α) (x:α) (y:Int),y = (P.length:Int) → AL (P ++ x :: T) y = some x:=by
  intro P T x y e; unfold AL; rw [if_pos (by omega),show y.toNat = P.length by omega]; simp
 have ag:∀ (P T:List α) (x z:α) (y:Int),y = (P.length:Int) → BE (P ++ x :: T) y z = P ++ z :: T:=by
  intro P T x z y e; unfold BE; rw [show y.toNat = P.length by omega]; simp
 have ak:∀ (n:Nat) (M A B:List α) (m:Nat) (y z:Int),M.length ≤ 2 * n + 1 → n < m → y = (A.length:Int) → z = (A.length:Int) + (M.length:Int) - 1 → A.length + M.length ≤ 9223372036854775807 → f m (A ++ M ++ B) y z = some (A ++ M.reverse ++ B):=by
  intro n
  induction n with
  | zero =>
   intro M A B m y z hn hm hy s hl
   cases m with
   | zero=>omega
   | succ m =>
    match M,hn with
    | [],_=>rw [u,if_neg (by simp at s ⊢; omega)]; simp
    | [a],_=>rw [u,if_neg (by simp at s ⊢; omega)]; simp
  | succ n ih =>
   intro M A B m y z hn hm hy s hl
   cases m with
   | zero=>omega
   | succ m =>
    match M with
    | []=>rw [u,if_neg (by simp at s ⊢; omega)]; simp
    | a :: M' =>
     rcases List.eq_nil_or_concat M' with rfl | ⟨M2,b,rfl⟩
     ·rw [u,if_neg (by simp at s ⊢; omega)]; simp
     ·rw [List.concat_eq_append] at *
      have v:z = (A.length:Int) + (M2.length:Int) + 1:=by rw [s]; simp; omega
      have aq:A.length + M2.length + 2 ≤ 9223372036854775807:=by simp at hl; omega
      have e1:A ++ a :: (M2 ++ [b]) ++ B = (A ++ a :: M2) ++ b :: B:=by simp
      have e2:A ++ a :: (M2 ++ [b]) ++ B = A ++ a :: (M2 ++ [b] ++ B):=by simp
      have i1:AL (A ++ a :: (M2 ++ [b]) ++ B) z = some b:=by rw [e1]; exact ac _ _ _ _ (by rw [v]; simp; omega)
      have i2:AL (A ++ a :: (M2 ++ [b]) ++ B) y = some a:=by rw [e2]; exact ac _ _ _ _ hy
      have s1:BE (A ++ a :: (M2 ++ [b]) ++ B) y b = (A ++ b :: M2) ++ b :: B:=by rw [e2,ag _ _ _ _ _ hy]; simp
      have i3:AL ((A ++ b :: M2) ++ b :: B) z = some b:=ac _ _ _ _ (by rw [v]; simp; omega)
      have s2:BE ((A ++ b :: M2) ++ b :: B) z a = (A ++ [b]) ++ M2 ++ a :: B:=by rw [ag _ _ _ _ _ (by rw [v]; simp; omega)]; simp
      rw [u,if_pos (by simp; omega),i1,Aa,i2,Aa,Aa,s1,i3,Aa,s2,A6 (x:=y + 1) (by omega) (by omega),A6 (x:=z - 1) (by omega) (by omega)]
      have:=ih M2 (A ++ [b]) (a :: B) m (y + 1) (z - 1) (by simp at hn; omega) (by omega) (by simp; omega) (by simp; omega) (by simp; omega)
      rw [this]
      simp
 have:=ak (g.length / 2) g [] [] FU 0 (Ag ((List.length g:Int) - 1)) (by omega) (show g.length / 2 < 4611686018427387904 by omega) rfl (by rw [A6 (by omega) (by omega)]; simp) (by simpa using h)
 simpa using this
theorem ZP (x:List Int) (h:x.length < 4611686018427387904):Eo x = some x.reverse:=by
 unfold Eo
 exact ZO CS x (by omega) (fun m l y z=>by rw [CS]; rfl)
def MinSq (l:List (Int × Int)) (v:Int):Prop:=(∃ a b,a < b ∧ b < l.length ∧ v = GM (DY l a) (DY l b)) ∧ ∀ a b,a < b → b < l.length → v ≤ GM (DY l a) (DY l b)
theorem MinSq.uniq {l:List (Int × Int)} {v w:Int} (h:MinSq l v) (u:MinSq l w):v = w:=by
 obtain ⟨⟨a,b,h1,h2,h3⟩,s⟩:=h
 obtain ⟨⟨e,g,g1,f,g3⟩,m⟩:=u
 have:=s e g g1 f
 have:=m a b h1 h2
 omega
def Lt (i k a b:Nat):Prop:=a < b ∧ (a < i ∨ (a = i ∧ b < k))
theorem Yi {l:List (Int × Int)} (hc:Cv l = true) (h2:2 ≤ l.length):∃ v,EC l = some (v,true) ∧ MinSq l v:=by
 have an:=(Dc hc).2
 have ap:=fun a b (ha:a < l.length) (hb:b < l.length)=>(LM (I8 hc ha) (I8 hc hb)).2
 have al:∃ z:Int × Int,HK l = some z ∧ ∃ a b:Nat,z = ((a:Int),(b:Int)) ∧ a < b ∧ b < l.length ∧ ∀ g f,g < f → f < l.length → GM (DY l a) (DY l b) ≤ GM (DY l g) (DY l f):=by
  unfold HK
  refine Exists.elim (JF (fun (_:Unit) m (z:Int × Int) i=>DS l m z.1 z.2 i) l.length (fun i z=>∃ a b:Nat,z = ((a:Int),(b:Int)) ∧ a < b ∧ b < l.length ∧ ∀ g f,Lt i 0 g f → f < l.length → GM (DY l a) (DY l b) ≤ GM (DY l g) (DY l f))
   (fun _ z=>some z) (by omega) (fun i z _ hi hz=>?_) (fun z hz j m=>?_) (b:=0) (by omega) (s:=(0,1)) ⟨0,1,rfl,by omega,by omega,fun g f h=>by unfold Lt at h; omega⟩) ?_
  ·obtain ⟨a,b,rfl,ac,u,aa⟩:=hz
   refine Exists.elim (JF (fun (nx:Int → Int → Int → Ae (Int × Int)) m (z:Int × Int) k=>Ds l (i:Int) nx m z.1 z.2 k) l.length (fun k z=>∃ a b:Nat,z = ((a:Int),(b:Int)) ∧ a < b ∧ b < l.length ∧ ∀ g f,Lt i k g f → f < l.length → GM (DY l a) (DY l b) ≤ GM (DY l g) (DY l f))
    (fun nx z=>nx z.1 z.2 ((i + 1:Nat):Int)) (by omega) (fun k z ao hk hz=>?_) (fun z hz j m=>?_) (b:=i + 1) (by omega) (s:=((a:Int),(b:Int))) ⟨a,b,rfl,ac,u,fun g f h ad=>aa g f (by unfold Lt at h ⊢; omega) ad⟩) ?_
   ·obtain ⟨a,b,rfl,ac,u,aa⟩:=hz
    by_cases ai:GM (DY l i) (DY l k) < GM (DY l a) (DY l b)
    ·refine ⟨((i:Int),(k:Int)),⟨i,k,rfl,by omega,hk,fun g f h ad=>?_⟩,fun nx m=>?_⟩
     ·by_cases e:g = i ∧ f = k
      ·rw [e.1,e.2]; exact Int.le_refl _
      ·have:=aa g f (by unfold Lt at h ⊢; omega) ad
       omega
     ·rw [Ds,if_pos (by simp; omega)]
      unfold Gn
      dsimp only
      rw [AY,Dq hi,Aa,AY,Dq hk,Aa,AY,Dq (by omega),Aa,AY,Dq u,Aa,Ho,Aa,Ho,Aa,if_pos (decide_eq_true ai),AD (by omega)]
    ·refine ⟨((a:Int),(b:Int)),⟨a,b,rfl,ac,u,fun g f h ad=>?_⟩,fun nx m=>?_⟩
     ·by_cases e:g = i ∧ f = k
      ·rw [e.1,e.2]; omega
      ·exact aa g f (by unfold Lt at h ⊢; omega) ad
     ·rw [Ds,if_pos (by simp; omega)]
      unfold Gn
      dsimp only
      rw [AY,Dq hi,Aa,AY,Dq hk,Aa,AY,Dq (by omega),Aa,AY,Dq u,Aa,Ho,Aa,Ho,Aa,if_neg (by simpa using ai),AD (by omega)]
   ·rw [Ds,if_neg (by simp),AD (by omega)]
   ·rintro z ⟨⟨a,b,rfl,ac,u,aa⟩,hz⟩
    refine ⟨((a:Int),(b:Int)),⟨a,b,rfl,ac,u,fun g f h ad=>aa g f (by unfold Lt at h ⊢; omega) ad⟩,fun _ m=>?_⟩
    dsimp only at hz ⊢
    rw [DS,if_pos (by simp; omega),AD (by omega)]
    exact hz _
  ·rw [DS,if_neg (by simp)]
  ·rintro z ⟨⟨a,b,rfl,ac,u,aa⟩,hz⟩
   exact ⟨_,hz (),a,b,rfl,ac,u,fun g f h ad=>aa g f (by unfold Lt; omega) ad⟩
 obtain ⟨z,e,a,b,rfl,ac,u,aa⟩:=al
 refine ⟨GM (DY l a) (DY l b),?_,⟨a,b,ac,u,rfl⟩,aa⟩
 unfold EC Bk
 dsimp only
 rw [GR l (by omega),Aa,hc,if_neg (by simp),if_neg (by simp; omega),e,Aa,AY,Dq (by omega),Aa,AY,Dq u,Aa,Ho,Aa]
theorem XW {l:List (Int × Int)} (hc:Cv l = true) (h2:2 ≤ l.length):∃ v,Ee l = some (v,true) ∧ MinSq l v:=by
 have az:=(Dc hc).2
 have am:=fun a b (ha:a < l.length) (hb:b < l.length)=>(LM (I8 hc ha) (I8 hc hb)).2.1
 have aq:∃ z:Int × Int × Int,JN l = some z ∧ MinSq l z.2.2:=by
  unfold JN
  refine Exists.elim (JF (fun (_:Unit) m (z:Int × Int × Int) i=>Fd l m z.1 z.2.1 z.2.2 i) l.length (fun i z=>(z.2.2 = -1 ∧ i = 0) ∨ ((∃ a b,a < b ∧ b < l.length ∧ z.2.2 = GM (DY l a) (DY l b)) ∧ ∀ g f,Lt i 0 g f → f < l.length → z.2.2 ≤ GM (DY l g) (DY l f)))
   (fun _ z=>some z) (by omega) (fun i z _ hi u=>?_) (fun z u j m=>?_) (b:=0) (by omega) (s:=(0,0,-1)) (.inl ⟨rfl,rfl⟩)) ?_
  ·refine Exists.elim (JF (fun (nx:Int → Int → Int → Int → Ae (Int × Int × Int)) m (z:Int × Int × Int) k=>D2 l (DY l i) (i:Int) nx m z.1 z.2.1 z.2.2 k) l.length (fun k z=>(z.2.2 = -1 ∧ i = 0 ∧ k = 1) ∨ ((∃ a b,a < b ∧ b < l.length ∧ z.2.2 = GM (DY l a) (DY l b)) ∧ ∀ g f,Lt i k g f → f < l.length → z.2.2 ≤ GM (DY l g) (DY l f)))
    (fun nx z=>nx z.1 z.2.1 z.2.2 ((i + 1:Nat):Int)) (by omega) (fun k z a0 hk u=>?_) (fun z u j m=>?_) (b:=i + 1) (by omega) (s:=z) ?_) ?_
   ·have hs:=am i k hi hk
    have ai:∀ (nx:Int → Int → Int → Int → Ae (Int × Int × Int)) m,D2 l (DY l i) (i:Int) nx (m + 1) z.1 z.2.1 z.2.2 (k:Int) = if z.2.2 < 0 ∨ GM (DY l i) (DY l k) < z.2.2 then D2 l (DY l i) (i:Int) nx m (i:Int) (k:Int) (GM (DY l i) (DY l k)) ((k + 1:Nat):Int) else D2 l (DY l i) (i:Int) nx m z.1 z.2.1 z.2.2 ((k + 1:Nat):Int):=by
     intro nx m
     rw [D2,if_pos (by simp; omega)]
     unfold W0 Bk
     dsimp only
     rw [AY,Dq hk,Aa,L6,Aa,AD (by omega)]
     by_cases h1:z.2.2 < 0
     ·rw [if_pos (decide_eq_true h1),if_pos rfl,if_pos (.inl h1)]
     ·rw [if_neg (by simpa using h1)]
      by_cases h3:GM (DY l i) (DY l k) < z.2.2
      ·rw [if_pos (decide_eq_true h3),if_pos (.inr h3)]
      ·rw [if_neg (by simpa using h3),if_neg (by omega)]
    by_cases aj:z.2.2 < 0 ∨ GM (DY l i) (DY l k) < z.2.2
    ·refine ⟨((i:Int),(k:Int),GM (DY l i) (DY l k)),.inr ⟨⟨i,k,by omega,hk,rfl⟩,fun g f h ac=>?_⟩,fun nx m=>?_⟩
     ·dsimp only
      by_cases e:g = i ∧ f = k
      ·rw [e.1,e.2]; exact Int.le_refl _
      ·rcases u with ⟨ah,ak,al⟩ | ⟨⟨a,b,g1,g2,g3⟩,u⟩
       ·unfold Lt at h; omega
       ·have:=u g f (by unfold Lt at h ⊢; omega) ac
        have:=am a b (by omega) g2
        omega
     ·exact (ai nx m).trans (if_pos aj)
    ·refine ⟨z,.inr ⟨?_,fun g f h ac=>?_⟩,fun nx m=>(ai nx m).trans (if_neg aj)⟩
     ·rcases u with ⟨ah,ak,al⟩ | ⟨u,_⟩
      ·omega
      ·exact u
     ·rcases u with ⟨ah,ak,al⟩ | ⟨_,u⟩
      ·omega
      ·by_cases e:g = i ∧ f = k
       ·rw [e.1,e.2]; omega
       ·exact u g f (by unfold Lt at h ⊢; omega) ac
   ·rw [D2,if_neg (by simp),AD (by omega)]
   ·rcases u with ⟨h1,h3⟩ | ⟨h1,h3⟩
    ·exact .inl ⟨h1,h3,by omega⟩
    ·exact .inr ⟨h1,fun g f h ac=>h3 g f (by unfold Lt at h ⊢; omega) ac⟩
   ·rintro z' ⟨ap,ae⟩
    refine ⟨z',?_,fun _ m=>?_⟩
    ·rcases ap with ⟨h1,h3,h4⟩ | ⟨h1,h3⟩
     ·omega
     ·exact .inr ⟨h1,fun g f h ac=>h3 g f (by unfold Lt at h ⊢; omega) ac⟩
    ·rw [Fd,if_pos (by simp; omega),AY,Dq hi,Aa,AD (by omega)]
     exact ae _
  ·rw [Fd,if_neg (by simp)]
  ·rintro z ⟨u,ae⟩
   refine ⟨z,ae (),?_⟩
   rcases u with ⟨h1,h3⟩ | ⟨h1,h3⟩
   ·omega
   ·exact ⟨h1,fun g f h ac=>h3 g f (by unfold Lt; omega) ac⟩
 obtain ⟨z,e,hm⟩:=aq
 refine ⟨z.2.2,?_,hm⟩
 unfold Ee Bk
 dsimp only
 rw [J5 l (by omega),Aa,hc,if_neg (by simp),if_neg (by simp; omega),e,Aa]
def MX (l:List (Int × Int)):Int × Bool:=(Ee l).getD (0,false)
theorem S4 {l:List (Int × Int)} (e:Cv l = true):EC l = some (MX l) ∧ Ee l = some (MX l) ∧ 0 ≤ (MX l).1 ∧ (MX l).1 ≤ 100000000:=by
 have ab:=Dc e
 by_cases m:2 ≤ l.length
 ·obtain ⟨v,f,h⟩:=Yi e m
  obtain ⟨w,g,u⟩:=XW e m
  have:=h.uniq u
  subst this
  unfold MX
  rw [f,g]
  obtain ⟨⟨a,b,h1,s,h4⟩,_⟩:=h
  have:=(LM (I8 e (by omega:a < l.length)) (I8 e s)).2
  exact ⟨rfl,rfl,by dsimp only [Option.getD]; omega,by dsimp only [Option.getD]; omega⟩
 ·have f:Ee l = some (0,false):=by
   unfold Ee Bk
   dsimp only
   rw [J5 l (by omega),Aa,e,if_neg (by simp),if_pos (by simp; omega)]
  have g:EC l = some (0,false):=by
   unfold EC Bk
   dsimp only
   rw [GR l (by omega),Aa,e,if_neg (by simp),if_pos (by simp; omega)]
  unfold MX
  rw [f,g]
  exact ⟨rfl,rfl,by simp,by simp⟩
def My (q:Int) (t:Nat):Bool:=decide (1000000 * q ≤ 23040000 * ((t:Int) * (t:Int)))
theorem XZ {t:Nat} (f:t ≤ 1000):Ag ((Ag ((Ag (4800 * (t:Int))) * 4800)) * (t:Int)) = 23040000 * ((t:Int) * (t:Int)):=by
 have h1:=Mc (x:=(t:Int)) (y:=(t:Int)) (A:=1000) (B:=1000) (by omega) (by omega) (by omega) (by omega)
 rw [A6 (x:=4800 * (t:Int)) (by omega) (by omega),A6 (x:=4800 * (t:Int) * 4800) (by omega) (by omega)]
 have e:4800 * (t:Int) * 4800 * (t:Int) = 23040000 * ((t:Int) * (t:Int)):=by grind
 rw [e,A6 (by omega) (by omega)]
theorem Wh {q:Int} {t t':Nat} (h:t ≤ t') (f:My q t = true):My q t' = true:=by
 unfold My at *
 rw [C9] at *
 have h1:=Nat.mul_le_mul h h
 have e:=Int.ofNat_le.2 h1
 rw [Int.natCast_mul,Int.natCast_mul] at e
 omega
theorem X6 {q:Int} (f:q ≤ 2089984) {t:Nat} (e:302 ≤ t):My q t = true:=by
 refine Wh e ?_
 unfold My
 rw [C9]
 omega
def IsT (q:Int) (v:Nat):Prop:=My q v = true ∧ ∀ t,t < v → My q t = false
theorem IsT.uniq {q:Int} {v w:Nat} (h:IsT q v) (f:IsT q w):v = w:=by
 rcases Nat.lt_trichotomy v w with e | e | e
 ·have:=f.2 v e; rw [h.1] at this; cases this
 ·exact e
 ·have:=h.2 w e; rw [f.1] at this; cases this
theorem Zp {q:Int} (h0:0 ≤ q) (s:q ≤ 2089984):∃ v:Nat,v ≤ 302 ∧ DH q FU 0 = some (v:Int) ∧ IsT q v:=by
 have ad:∀ (d t m:Nat),302 - t = d → t ≤ 302 → d < m → (∀ t',t' < t → My q t' = false) → ∃ v:Nat,v ≤ 302 ∧ DH q m (t:Int) = some (v:Int) ∧ IsT q v:=by
  intro d
  induction d with
  | zero =>
   intro t m hd u hm l
   have:t = 302:=by omega
   subst this
   cases m with
   | zero=>omega
   | succ m =>
    have g:=X6 s (t:=302) (by omega)
    have f:=g
    unfold My at f
    rw [C9] at f
    refine ⟨302,by omega,?_,g,l⟩
    rw [DH,XZ (by omega),A6 (x:=1000000 * q) (by omega) (by omega),if_neg (by rw [C9]; omega)]
  | succ d ih =>
   intro t m hd u hm l
   cases m with
   | zero=>omega
   | succ m =>
    rw [DH,XZ (by omega),A6 (x:=1000000 * q) (by omega) (by omega)]
    cases g:My q t with
    | true =>
     have f:=g
     unfold My at f
     rw [C9] at f
     rw [if_neg (by rw [C9]; omega)]
     exact ⟨t,by omega,rfl,g,l⟩
    | false =>
     have f:=g
     unfold My at f
     rw [decide_eq_false_iff_not] at f
     rw [if_pos (by rw [C9]; omega),AD (by omega)]
     refine ih (t + 1) m (by omega) (by omega) (by omega) (fun t' h=>?_)
     by_cases e:t' = t
     ·rw [e]; exact g
     ·exact l t' (by omega)
 exact ad 302 0 FU rfl (by omega) (D4 (by omega)) (fun t' h=>by omega)
theorem YD {q:Int} (h0:0 ≤ q) (hq:q ≤ 2089984):∃ v:Nat,Km q = some (v:Int) ∧ IsT q v:=by
 have ai:∀ (d e f m:Nat),f - e ≤ d → e ≤ f → f ≤ 1000 → d < m → (∀ t,t < e → My q t = false) → My q f = true → ∃ v:Nat,EE q m (e:Int) (f:Int) = some (v:Int) ∧ IsT q v:=by
  intro d
  induction d with
  | zero =>
   intro e f m hd h1 h2 hm s l
   have:e = f:=by omega
   subst this
   cases m with
   | zero=>omega
   | succ m=>exact ⟨e,by rw [EE,if_neg (by simp)],l,s⟩
  | succ d ih =>
   intro e f m hd h1 h2 hm s l
   cases m with
   | zero=>omega
   | succ m =>
    rw [EE]
    by_cases al:e < f
    ·have em:Ag (Int.tdiv (Ag ((e:Int) + (f:Int))) 2) = (((e + f) / 2:Nat):Int):=by
      rw [A6 (x:=(e:Int) + f) (by omega) (by omega),Int.tdiv_eq_ediv_of_nonneg (by omega),A6 (by omega) (by omega)]
      omega
     rw [if_pos (by simp; omega),em,XZ (by omega),A6 (x:=1000000 * q) (by omega) (by omega)]
     cases u:My q ((e + f) / 2) with
     | true =>
      have g:=u
      unfold My at g
      rw [if_pos g]
      exact ih e _ m (by omega) (by omega) (by omega) (by omega) s u
     | false =>
      have g:=u
      unfold My at g
      rw [g,if_neg (by simp),AD (by omega)]
      refine ih ((e + f) / 2 + 1) f m (by omega) (by omega) h2 (by omega) (fun t ht=>?_) l
      cases hx:My q t with
      | false=>rfl
      | true=>have:=Wh (t':=(e + f) / 2) (by omega) hx; rw [u] at this; cases this
    ·have:e = f:=by omega
     subst this
     exact ⟨e,by rw [if_neg (by simp)],l,s⟩
 unfold Km
 exact ai 1000 0 1000 FU (by omega) (by omega) (by omega) (D4 (by omega)) (fun t h=>by omega) (X6 hq (by omega))
def NO (a b:Int × Int):Int × Bool:=(G5 a b).getD (0,false)
theorem Uu {a b:Int × Int} (f:CX a = true) (e:CX b = true):G5 a b = some (NO a b) ∧ H3 a b = some (NO a b) ∧ 0 ≤ (NO a b).1 ∧ (NO a b).1 ≤ 302:=by
 obtain ⟨_,g,h⟩:=LM f e
 obtain ⟨v,v1,v2,u⟩:=Zp g h
 obtain ⟨w,m,w2⟩:=YD g h
 have:=u.uniq w2
 subst this
 have l:G5 a b = some ((v:Int),true):=by
  unfold G5 Kf Bk
  dsimp only
  rw [Lz,Aa,f,if_neg (by simp),Lz,Aa,e,Ho,Aa,v2]
  rfl
 have s:H3 a b = some ((v:Int),true):=by
  unfold H3 Mm Lh Bk
  dsimp only
  rw [OP,Aa,f,if_pos rfl,OP,Aa,e,L6,Aa,Aa,m]
  rfl
 unfold NO
 rw [l,s]
 exact ⟨rfl,rfl,by dsimp only [Option.getD]; omega,by dsimp only [Option.getD]; omega⟩
def MM (load count:Int) (x:BP):Bool:=decide (x.2.1 = load) && (decide (x.2.2.1 ≤ count) && decide (count < x.2.2.2))
def Na (l:List BP) (load count:Int):Int × Bool:=if (BN load 1 9 && BN count 0 999) = true then (match (List.range l.length).find? fun i=>MM load count (CL l i) with
  | some i=>((CL l i).1,true)
  | none=>(0,false)) else (0,false)
theorem Us {l:List BP} (h:Fw l = true):∀ x ∈ l,Ly x:=by
 intro x e
 have:=MZ.1 ((Hm.1 h).2.1 x e)
 unfold Ly
 omega
theorem Ux {l:List BP} {k:Nat} (h:k < l.length):l[k]? = some (CL l k):=by rw [FSx h]; exact Cp h
theorem Ud {l:List BP} (h:Fw l = true) (e f:Int):IL l e f = some (Na l e f):=by
 have u:=(Hm.1 h).1
 unfold IL Bk Na
 dsimp only
 rw [O8 (by omega) (Us h),Aa,h,CT,Aa,CT,Aa]
 cases BN e 1 9 with
 | false=>rfl
 | true =>
  cases BN f 0 999 with
  | false=>rfl
  | true =>
   rw [if_neg (by simp),if_neg (by simp),if_neg (by simp),if_pos (c:=(true && true) = true) rfl]
   rw [To (Ew l e f) l.length (fun i=>MM e f (CL l i)) (fun i=>some ((CL l i).1,true)) (some (0,false)) (by omega) (fun m k s=>?_) (fun m=>?_)]
   ·cases (List.range l.length).find? fun i=>MM e f (CL l i) <;> rfl
   ·rw [Ew,if_pos (by simp; omega),AY,Ux s,Aa,AD (by omega)]
    unfold Bk MM
    dsimp only
    by_cases h1:(CL l k).2.1 = e
    ·rw [if_pos (by simpa using h1),decide_eq_true h1]
     by_cases g:(CL l k).2.2.1 ≤ f
     ·rw [if_pos (by simpa using g),decide_eq_true g]; rfl
     ·rw [if_neg (by simpa using g),decide_eq_false g]; rfl
    ·rw [if_neg (by simpa using h1),decide_eq_false h1]; rfl
   ·rw [Ew,if_neg (by simp)]
theorem YG {l:List BP} (h:Fw l = true) {g f:Int} (hl:1 ≤ g):KA l g 0 f = some (Ue ((List.range l.length).find? fun i=>MM g f (CL l i))):=by
 have u:=(Hm.1 h).1
 unfold KA
 rw [To (GD l g 0 f) l.length (fun i=>MM g f (CL l i)) (fun i=>some (i:Int)) (some (-1)) (by omega) (fun m k s=>?_) (fun m=>?_)]
 ·cases (List.range l.length).find? fun i=>MM g f (CL l i) <;> rfl
 ·have v:=MZ.1 ((Hm.1 h).2.1 _ (Jb s))
  rw [GD,if_pos (by simp; omega),AY,Ux s,Aa,AD (by omega)]
  unfold Bk MM
  dsimp only
  rw [if_neg (by simp; omega),if_pos (c:=((0:Int) == 0) = true) rfl,A6 (by omega) (by omega),CU,Aa]
  by_cases h1:(CL l k).2.1 = g
  ·rw [if_pos (by simpa using h1),decide_eq_true h1]
   have e:BN f (CL l k).2.2.1 ((CL l k).2.2.2 - 1) = (decide ((CL l k).2.2.1 ≤ f) && decide (f < (CL l k).2.2.2)):=by
    rw [Bool.eq_iff_iff,DB]
    simp
    omega
   rw [e,Bool.true_and]
  ·rw [if_neg (by simpa using h1),decide_eq_false h1]; rfl
 ·rw [GD,if_neg (by simp)]
theorem TO {l:List BP} (h:Fw l = true) (f e:Int):IE l f e = some (Na l f e):=by
 have v:=(Hm.1 h).1
 unfold IE Jk Lk Bk Na
 dsimp only
 rw [RT (by omega) (Us h),Aa,h,CU,Aa,Aa,CU,Aa,Aa]
 cases s:BN f 1 9 with
 | false=>rfl
 | true =>
  cases BN e 0 999 with
  | false=>rfl
  | true =>
   have m:=DB.1 s
   rw [if_neg (by simp),if_neg (by simp),if_neg (by simp),if_pos (c:=(true && true) = true) rfl,YG h m.1,Aa,Aa]
   cases g:(List.range l.length).find? fun i=>MM f e (CL l i) with
   | none=>rfl
   | some i =>
    have u:i < l.length:=List.mem_range.1 (List.mem_of_find?_eq_some g)
    unfold Ue
    dsimp only
    rw [if_neg (by simp),AY,Ux u,Aa]
theorem Aa8 {l:List BP} (h:Fw l = true) (f e:Int):0 ≤ (Na l f e).1 ∧ (Na l f e).1 ≤ 12:=by
 unfold Na
 split
 ·cases g:(List.range l.length).find? fun i=>MM f e (CL l i) with
  | none=>exact ⟨Int.le_refl _,by show (0:Int) ≤ 12; omega⟩
  | some i =>
   have m:i < l.length:=List.mem_range.1 (List.mem_of_find?_eq_some g)
   have s:=MZ.1 ((Hm.1 h).2.1 _ (Jb m))
   dsimp only
   omega
 ·exact ⟨by decide,by decide⟩
theorem VL {l:List IC} (h:Ht l = true) {i:Nat} (m:i < l.length):∃ x:IC,l[i]? = some x ∧ (x.1 = -1 ∨ (0 ≤ x.1 ∧ x.1.toNat < i)) ∧ (0 ≤ x.2.1 ∧ x.2.1 ≤ 7) ∧ 0 ≤ x.2.2 ∧ x.2.2 ≤ 999:=by
 unfold Ht at h
 rw [Cf,List.all_eq_true] at h
 obtain ⟨x,g⟩:∃ x,l[i]? = some x:=⟨_,Cp m⟩
 have f:=h.2 i (List.mem_range.2 m)
 unfold OK at f
 rw [g] at f
 unfold SQ at f
 dsimp only at f
 rw [Cf,Cf,DB,DB] at f
 refine ⟨x,g,?_,f.2.1,f.2.2⟩
 by_cases e:i = 0
 ·rw [if_pos e,C9] at f
  exact .inl f.1
 ·rw [if_neg e,DB] at f
  exact .inr (by omega)
theorem NK {l:List IC} (h:Ht l = true):1 ≤ l.length ∧ l.length ≤ 60:=by
 unfold Ht at h
 rw [Cf,DB] at h
 omega
theorem Ab5 {l:List IC} (h:Ht l = true):∀ (d i:Nat),i ≤ d → i < l.length → ∃ u:List Int,(∀ x ∈ u,0 ≤ x ∧ x.toNat < l.length) ∧ u.length ≤ i + 1 ∧
  ∀ (m:Nat) (s e:List Int),i + 1 < m → s.length ≤ 1000 - u.length → e.length ≤ 1000 - u.length → E6 l m (i:Int) s = some ((s ++ u).reverse) ∧ E5 l m (i:Int) e = some (u.reverse ++ e):=by
 have ao:=NK h
 have ad:∀ i (x:IC),l[i]? = some x → x.1 = -1 → i < l.length → ∃ u:List Int,(∀ x ∈ u,0 ≤ x ∧ x.toNat < l.length) ∧ u.length ≤ i + 1 ∧
  ∀ (m:Nat) (s e:List Int),i + 1 < m → s.length ≤ 1000 - u.length → e.length ≤ 1000 - u.length → E6 l m (i:Int) s = some ((s ++ u).reverse) ∧ E5 l m (i:Int) e = some (u.reverse ++ e):=by
  intro i x f aa v
  refine ⟨[(i:Int)],fun x f=>?_,by simp,fun m s e hm hs ae=>?_⟩
  ·rw [List.mem_singleton] at f; omega
  obtain ⟨m,rfl⟩:∃ m',m = m' + 2:=⟨m - 2,by omega⟩
  rw [E6,E5,if_pos (by simp),Bt (by simp; omega),Aa,if_pos (by simp),Bt (by simp; omega),Aa,AY,f,Aa,Aa,aa,E6,E5,if_neg (by decide),if_neg (by decide),ZP _ (by simp; omega)]
  exact ⟨rfl,rfl⟩
 intro d
 induction d with
 | zero =>
  intro i ah v
  have:i = 0:=by omega
  subst this
  obtain ⟨x,f,g,_⟩:=VL h v
  have aa:x.1 = -1:=by rcases g with g | g; exact g; omega
  exact ad 0 x f aa v
 | succ d ih =>
  intro i ah v
  obtain ⟨x,f,g,_⟩:=VL h v
  rcases g with aa | g
  ·exact ad i x f aa v
  ·obtain ⟨u,g1,g2,g3⟩:=ih x.1.toNat (by omega) (by omega)
   refine ⟨(i:Int) :: u,?_,by simp; omega,fun m s e hm hs ae=>?_⟩
   ·intro y hy
    rcases List.mem_cons.1 hy with rfl | hy
    ·omega
    ·exact g1 y hy
   ·obtain ⟨m,rfl⟩:∃ m',m = m' + 1:=⟨m - 1,by omega⟩
    rw [List.length_cons] at hs ae
    obtain ⟨e1,e2⟩:=g3 m (s ++ [(i:Int)]) ((i:Int) :: e) (by omega) (by simp; omega) (by simp; omega)
    have ex:x.1 = ((x.1.toNat:Nat):Int):=by omega
    rw [E6,E5,if_pos (by simp),Bt (by simp; omega),Aa,if_pos (by simp),Bt (by simp; omega),Aa,AY,f,Aa,Aa,ex,e1,List.singleton_append,e2]
    constructor
    ·rw [List.append_assoc]; rfl
    ·rw [List.reverse_cons,List.append_assoc]; rfl
theorem XU (u:List Int) (l:List IC):∀ (m:Nat) (s:List Int) (k:Int),ET u l m s k = Dl u l m s k:=by
 intro m
 induction m with
 | zero=>intros; rfl
 | succ m e =>
  intro s k
  rw [ET,Dl]
  simp only [e]
def Wl (s:List Int):Prop:=s.length = 8 ∧ ∀ x ∈ s,-1 ≤ x ∧ x ≤ 999
theorem Y8 {l:List IC} (h:Ht l = true) {u:List Int} (hu:∀ x ∈ u,0 ≤ x ∧ x.toNat < l.length) (hl:u.length ≤ 1000):∃ s,Wl s ∧ Dl u l FU (List.replicate 8 (-1)) 0 = some s:=by
 have ak:=NK h
 refine Exists.elim (JF (fun (_:Unit) m (z:List Int) k=>Dl u l m z k) u.length (fun _ z=>Wl z) (fun _ z=>some z) (by omega) (fun k z _ v e=>?_) (fun z e j m=>?_) (b:=0) (by omega) (s:=List.replicate 8 (-1)) ⟨by simp,fun x g=>by have:=List.eq_of_mem_replicate g; omega⟩) ?_
 ·obtain ⟨ad,ag⟩:=e
  obtain ⟨g1,g2⟩:=hu _ (List.getElem_mem v)
  obtain ⟨x,g,_,h7,h9⟩:=VL h g2
  have ae:x.2.1.toNat < z.length:=by omega
  refine ⟨BE z x.2.1 x.2.2,⟨by unfold BE; simpa using ad,fun y f=>?_⟩,fun _ m=>?_⟩
  ·unfold BE at f
   rcases List.mem_or_eq_of_mem_set f with f | rfl
   ·exact ag y f
   ·omega
  ·rw [Dl,if_pos (by simp; omega),AY,Cp v,Aa,Iy g1,g,Aa,Aa,Iy h7.1,Cp ae,Aa,AD (by omega)]
 ·rw [Dl,if_neg (by simp)]
 ·rintro z ⟨e,hr⟩
  exact ⟨z,e,hr ()⟩
theorem Su {l:List IC} (h:Ht l = true) (i:Int):HJ l [i] = some (BN i 0 ((l.length:Int) - 1)):=by
 have g:=NK h
 unfold HJ
 rw [N1 (DR [i] l) [i] (fun x=>BN x 0 ((l.length:Int) - 1)) (some true) (some false) (by simp) (fun m k x e f=>?_) (fun m=>?_)]
 ·rw [List.all_cons,List.all_nil,Bool.and_true]
  cases BN i 0 ((l.length:Int) - 1) <;> rfl
 ·rw [DR,if_pos (by simp at e ⊢; omega),AY,f,Aa,CT,A6 (by omega) (by omega),Aa,AD (by simp at e; omega)]
  cases BN x 0 ((l.length:Int) - 1) <;> rfl
 ·rw [DR,if_neg (by simp),LD (by omega),Aa,h]
theorem Wg (k:Nat):List.replicate k (-1:Int) ++ [-1] = List.replicate (k + 1) (-1):=by rw [List.replicate_succ']
theorem WJ {l:List IC} (h:Ht l = true) (i:Int):∃ r:List Int × Bool,JW l i = some r ∧ JR l i = some r ∧ (r.2 = true → Wl r.1):=by
 have ai:=NK h
 unfold JW JR Ml Bk
 dsimp only
 rw [Su h,Aa,OO (by omega),Aa,h,if_pos rfl,CU,A6 (by omega) (by omega),Aa,Aa]
 cases hi:BN i 0 ((l.length:Int) - 1) with
 | false=>exact ⟨([],false),rfl,rfl,fun h=>by cases h⟩
 | true =>
  have aj:=DB.1 hi
  obtain ⟨u,g1,g2,g3⟩:=Ab5 h i.toNat i.toNat (Nat.le_refl _) (by omega)
  obtain ⟨e,f⟩:=g3 FU [] [] (D4 (by omega)) (by simp) (by simp)
  rw [show ((i.toNat:Nat):Int) = i by omega] at e f
  rw [List.nil_append] at e
  rw [List.append_nil] at f
  obtain ⟨s,hs,v⟩:=Y8 h (u:=u.reverse) (fun x hx=>g1 x (List.mem_reverse.1 hx)) (by rw [List.length_reverse]; omega)
  have r1:JS l i = some s:=by
   unfold JS
   refine Eq.trans (EM (fun m (z:List Int) k=>Fi l i m z k) 8 (fun k=>List.replicate k (-1)) (Option.bind (La l i) fun g=>Dl g l FU (List.replicate 8 (-1)) 0) (by omega) (j:=0) (by omega) (fun m k _ hk=>?_) (fun m=>?_)) ?_
   ·rw [Fi,if_pos (by simp; omega),Bt (by simp; omega),Aa,AD (by omega),Wg]
   ·rw [Fi,if_neg (by decide)]
   ·unfold La
    rw [e,Aa,v]
  have r2:JH l i = some s:=by
   unfold JH
   refine Eq.trans (EM (fun m (z:List Int) (_:Int)=>EU l i m z) 8 (fun k=>List.replicate k (-1)) (Option.bind (KW l i) fun g=>ET g l FU (List.replicate 8 (-1)) 0) (by omega) (j:=0) (by omega) (fun m k _ hk=>?_) (fun m=>?_)) ?_
   ·rw [EU,if_pos (by simp; omega),Bt (by simp; omega),Aa,Wg]
   ·rw [EU,if_neg (by decide)]
   ·unfold KW
    rw [f,Aa,XU,v]
  refine ⟨(s,true),?_,?_,fun _=>hs⟩
  ·rw [if_neg (by simp),r1,Aa]
  ·rw [if_neg (by simp),r2,Aa]
theorem Zn (e:List (List Aj)) (w f:List Aj):Lib.join (e ++ [w]) f = if e = [] then w else Lib.join e f ++ f ++ w:=by
 cases e with
 | nil=>rw [List.nil_append,if_pos rfl,Lib.join_one]
 | cons x r =>
  rw [List.cons_append,Lib.join_cons,Lib.join_cons,if_neg (by simp)]
  unfold Lib.joinTail
  rw [List.map_append,List.flatten_append]
  simp [List.append_assoc]
def Mw (n:Int):List Aj:=if n < 0 then [45] else Lib.decDigits n.toNat
theorem Rq {n:Int} (h:n ≤ 999):(Mw n).length ≤ 3:=by
 unfold Mw
 split
 ·simp
 ·exact Hy (k:=2) (by omega)
def Gv (ws:List (List Aj)):List Aj:=Lib.join ws [32]
theorem Yg (e:List (List Aj)) (w:List Aj):Gv (e ++ [w]) = (if e = [] then [] else Gv e ++ [32]) ++ w:=by
 unfold Gv
 rw [Zn]
 split
 ·rfl
 ·rfl
theorem PT (f:List (List Aj)) {k:Nat} (h:k < f.length):Gv (f.take (k + 1)) = (if k = 0 then [] else Gv (f.take k) ++ [32]) ++ f[k]:=by
 rw [List.take_succ_eq_append_getElem h,Yg]
 by_cases e:k = 0
 ·subst e; simp
 ·have g:f.take k ≠ []:=fun l=>by have:=congrArg List.length l; rw [List.length_take,List.length_nil] at this; omega
  rw [if_neg g,if_neg e]
theorem N2 {B:Nat} (e:List (List Aj)) (h:∀ w ∈ e,w.length ≤ B):∀ k,k ≤ e.length → (Gv (e.take k)).length ≤ (B + 1) * k
 | 0,_=>by simp [Gv,Lib.join_nil]
 | k + 1,hk=>by
  have h1:=N2 e h k (by omega)
  have f:=h e[k] (List.getElem_mem _)
  rw [PT e (by omega),CM,Nat.mul_succ]
  split
  ·simp; omega
  ·rw [CM,List.length_singleton]; omega
theorem QP {B:Nat} (e:List (List Aj)) (h:∀ w ∈ e,w.length ≤ B):(Gv e).length ≤ (B + 1) * e.length:=by
 have:=N2 e h e.length (Nat.le_refl _)
 rwa [List.take_length] at this
theorem Wx {e:List (List Aj)} {B:Nat} (h:∀ w ∈ e,w.length ≤ B) (l:B ≤ 1000) (f:e.length ≤ 1000):I0 e [32] = some (Gv e):=by
 have h1:=QP e h
 have g:(B + 1) * e.length ≤ 1001 * 1000:=Nat.mul_le_mul (by omega) f
 unfold Gv at h1
 unfold I0 Gv
 rw [if_pos (by omega)]

theorem VH {n:Int} (h:¬ n < 0) (e:n ≤ 999):CY n = some (Mw n) ∧ Dd n = some (Mw n):=by
 unfold Mw
 rw [if_neg h]
 exact ⟨LB (by omega) (by omega),Kb (by omega) (by omega)⟩
theorem Xu {s:List Int} (h:Wl s):JL s = some (Gv (s.map Mw)):=by
 obtain ⟨h8,l⟩:=h
 have g:∀ w ∈ s.map Mw,w.length ≤ 3:=by
  intro w g
  obtain ⟨n,f,rfl⟩:=List.mem_map.1 g
  exact Rq (l n f).2
 unfold JL
 refine Eq.trans (EM (D1 s) s.length (fun k=>Gv ((s.map Mw).take k)) (some (Gv (s.map Mw))) (by omega) (j:=0) (by omega) (fun m k _ hk=>?_) (fun m=>?_)) rfl
 ·have hl:=N2 _ g k (by simp; omega)
  have f:=l _ (List.getElem_mem hk)
  have h3:=Rq f.2
  rw [D1,if_pos (by simp; omega)]
  unfold Bk
  dsimp only
  rw [AY,Cp hk,Aa,AD (by omega),PT _ (by simp; omega),List.getElem_map]
  have v:∀ y:List Aj,y.length ≤ 100 → (if decide (s[k] < 0) = true then Option.bind (Cl y [45]) fun ab=>D1 s m ab ((k + 1:Nat):Int) else Option.bind (Dd s[k]) fun ad=>Option.bind (Cl y ad) fun ac=>D1 s m ac ((k + 1:Nat):Int)) = D1 s m (y ++ Mw s[k]) ((k + 1:Nat):Int):=by
   intro y hy
   by_cases e:s[k] < 0
   ·rw [if_pos (decide_eq_true e),Bt (by simp; omega),Aa]
    unfold Mw
    rw [if_pos e]
   ·rw [if_neg (by simpa using e),(VH e f.2).2,Aa,Bt (by omega),Aa]
  by_cases u:k = 0
  ·subst u
   rw [if_neg (by simp),v _ (by omega),if_pos rfl]
   simp [Gv,Lib.join_nil]
  ·rw [if_pos (by simp; omega),Bt (by simp; omega),Aa,v _ (by simp; omega),if_neg u]
 ·rw [D1,if_neg (by simp),List.take_of_length_le (by simp)]
theorem Vl {s:List Int} (h:Wl s):Cw (s,true) FU [] 0 = some (Gv (s.map Mw)):=by
 obtain ⟨v,l⟩:=h
 have f:∀ w ∈ s.map Mw,w.length ≤ 3:=by
  intro w f
  obtain ⟨n,g,rfl⟩:=List.mem_map.1 f
  exact Rq (l n g).2
 refine Eq.trans (EM (Cw (s,true)) s.length (fun k=>(s.map Mw).take k) (some (Gv (s.map Mw))) (by omega) (j:=0) (by omega) (fun m k _ u=>?_) (fun m=>?_)) rfl
 ·have g:=l _ (List.getElem_mem u)
  rw [Cw,if_pos (by simp; omega)]
  unfold Bk
  dsimp only
  rw [AY,Cp u,Aa,AD (by omega),List.take_succ_eq_append_getElem (by simp; omega),List.getElem_map]
  by_cases e:s[k] < 0
  ·rw [if_pos (decide_eq_true e),Bt (by simp; omega),Aa]
   unfold Mw
   rw [if_pos e]
  ·rw [if_neg (by simpa using e),(VH e g.2).1,Aa,Bt (by simp; omega),Aa]
 ·rw [Cw,if_neg (by simp),List.take_of_length_le (by simp),Wx f (by omega) (by simp; omega),Aa]
def Ox (q:List Int):List Aj:=Lib.decDigits (IV q 0).toNat ++ [45] ++ Lib.decDigits (IV q 1).toNat
def NY (q:List Int):Prop:=∃ i k:Nat,q = [(i:Int),(k:Int)] ∧ i < 100 ∧ k < 100
theorem Pj {q:List Int} (h:NY q):1 ≤ (Ox q).length ∧ (Ox q).length ≤ 5:=by
 obtain ⟨i,k,rfl,g,f⟩:=h
 unfold Ox IV
 have h1:=Hy (k:=1) (u:=i) (by omega)
 have e:=Hy (k:=1) (u:=k) (by omega)
 simp
 omega
theorem Zc {q:List Int} (h:NY q) {R:Type} (f:List Aj → Ae R):(Option.bind (AL q 0) fun l=>Option.bind (AL q 1) fun m=>Option.bind (CY l) fun e=>Option.bind (Cl e [45]) fun s=>Option.bind (CY m) fun g=>Option.bind (Cl s g) f) = f (Ox q):=by
 obtain ⟨i,k,rfl,v,hk⟩:=h
 have h1:=Hy (k:=1) (u:=i) (by omega)
 have h2:=Hy (k:=1) (u:=k) (by omega)
 show (Option.bind (some (i:Int)) fun l=>Option.bind (some (k:Int)) fun m=>Option.bind (CY l) fun e=>Option.bind (Cl e [45]) fun s=>Option.bind (CY m) fun g=>Option.bind (Cl s g) f) = _
 rw [Aa,Aa,LB (by omega) (by omega),Aa,Bt (by simp; omega),Aa,LB (by omega) (by omega),Aa,Bt (by simp; omega),Aa]
 rfl
theorem Zb {q:List Int} (h:NY q) {R:Type} (f:List Aj → Ae R):(Option.bind (AL q 0) fun l=>Option.bind (AL q 1) fun m=>Option.bind (Dd l) fun e=>Option.bind (Cl e [45]) fun s=>Option.bind (Dd m) fun g=>Option.bind (Cl s g) f) = f (Ox q):=by
 obtain ⟨i,k,rfl,v,hk⟩:=h
 have h1:=Hy (k:=1) (u:=i) (by omega)
 have h2:=Hy (k:=1) (u:=k) (by omega)
 show (Option.bind (some (i:Int)) fun l=>Option.bind (some (k:Int)) fun m=>Option.bind (Dd l) fun e=>Option.bind (Cl e [45]) fun s=>Option.bind (Dd m) fun g=>Option.bind (Cl s g) f) = _
 rw [Aa,Aa,Kb (by omega) (by omega),Aa,Bt (by simp; omega),Aa,Kb (by omega) (by omega),Aa,Bt (by simp; omega),Aa]
 rfl
def Og (P:List (List Int)):List Aj:=if P = [] then [110,111,110,101] else Gv (P.map Ox)
theorem Ys {P:List (List Int)} (h:∀ q ∈ P,NY q) (l:P.length ≤ 1000) (b:Bool):CD (P,b) FU [] 0 = some (Gv (P.map Ox)):=by
 have e:∀ w ∈ P.map Ox,w.length ≤ 5:=by
  intro w e
  obtain ⟨q,g,rfl⟩:=List.mem_map.1 e
  exact (Pj (h q g)).2
 refine Eq.trans (EM (CD (P,b)) P.length (fun k=>(P.map Ox).take k) (some (Gv (P.map Ox))) (by omega) (j:=0) (by omega) (fun m k _ f=>?_) (fun m=>?_)) rfl
 ·rw [CD,if_pos (by simp; omega)]
  unfold Bk
  dsimp only
  rw [AY,Cp f,Aa,Zc (h _ (List.getElem_mem f)),AD (by omega),List.take_succ_eq_append_getElem (by simp; omega),List.getElem_map,Bt (by simp; omega),Aa]
 ·rw [CD,if_neg (by simp),List.take_of_length_le (by simp),Wx e (by omega) (by simp; omega),Aa]
theorem Yr {P:List (List Int)} (h:∀ q ∈ P,NY q) (hl:P.length ≤ 1000) (b:Bool):CR (P,b) FU [] 0 = some (Og P):=by
 have f:∀ w ∈ P.map Ox,w.length ≤ 5:=by
  intro w f
  obtain ⟨q,s,rfl⟩:=List.mem_map.1 f
  exact (Pj (h q s)).2
 refine Eq.trans (EM (CR (P,b)) P.length (fun k=>Gv ((P.map Ox).take k)) (some (Og P)) (by omega) (j:=0) (by omega) (fun m k _ g=>?_) (fun m=>?_)) rfl
 ·have ab:=N2 _ f k (by simp; omega)
  have u:=Pj (h _ (List.getElem_mem g))
  rw [CR,if_pos (by simp; omega)]
  unfold Bk
  dsimp only
  rw [AY,Cp g,Aa,PT _ (by simp; omega),List.getElem_map]
  simp only [Zb (h _ (List.getElem_mem g))]
  by_cases l:k = 0
  ·subst l
   rw [if_neg (by simp),Bt (by omega),Aa,if_pos rfl,AD (by omega)]
   simp [Gv,Lib.join_nil]
  ·rw [if_pos (by simp; omega),Bt (by simp; omega),Aa,Bt (by simp; omega),Aa,if_neg l,AD (by omega)]
 ·rw [CR,if_neg (by simp),List.take_of_length_le (by simp)]
  unfold Og
  cases P with
  | nil=>rfl
  | cons q P =>
   have v:(Gv ((q :: P).map Ox)) ≠ []:=by
    have u:=Pj (h q (List.mem_cons_self ..))
    unfold Gv
    rw [List.map_cons,Lib.join_cons]
    intro e
    have:=congrArg List.length e
    rw [CM,List.length_nil] at this
    omega
   rw [if_neg (by simpa using v),if_neg (by simp)]
theorem RM {n:Int} (h:0 ≤ n ∧ n ≤ 1280):Jd n = some (MQ n):=by
 have h1:=Hy (k:=2) (u:=n.toNat / 8) (by omega)
 have f:=Hy (k:=0) (u:=n.toNat % 8) (by omega)
 unfold Jd MQ
 rw [Int.tdiv_eq_ediv_of_nonneg h.1,Int.tmod_eq_emod_of_nonneg h.1,A6 (by omega) (by omega),Kb (by omega) (by omega),Aa,Aa,show (n / 8).toNat = n.toNat / 8 by omega]
 by_cases e:0 < n.toNat % 8
 ·rw [if_neg (by simp; omega),Kb (by omega) (by omega),show (n % 8).toNat = n.toNat % 8 by omega,O6 (by simp; omega),Aa,Aa,O6 (by simp; omega),Aa,if_pos e,List.append_assoc]
  rfl
 ·rw [if_pos (by simp; omega),if_neg e,List.append_nil]
theorem Xf {s:Int × Int} (h:CX s = true):Kl s = some (PH s):=by
 have f:=FM.1 h
 have g:=LK (n:=s.1) (by omega)
 have e:=LK (n:=s.2) (by omega)
 unfold Kl
 rw [RM (by omega),Aa,O6 (by simp; omega),Aa,RM (by omega),Aa,O6 (by simp; omega),Aa]
 unfold PH
 rw [List.append_assoc]
 rfl
def OV (r:Int × Bool):List Aj:=if r.2 = true then Lib.decDigits r.1.toNat else [110,111]
theorem Oh {r:Int × Bool} (h:0 ≤ r.1) (e:r.1 ≤ 9223372036854775807):Fr r.1 r.2 = some (OV r) ∧ Fq r.1 r.2 = some (OV r):=by
 unfold Fr Fq Mn OV
 rw [LB h e,Aa,if_neg (c:=decide (r.1 < 0) = true) (by simp; omega),Kb h e,Aa,Aa]
 cases r.2 <;> exact ⟨rfl,rfl⟩
def Nx (x:GA) (c:Int):Int × Bool:=if BN c 0 (Si x) = true then (Rs x c,true) else (0,false)
theorem Xr {x:GA} (h:Gf x = true) (c:Int):Kv x c = some (Nx x c):=by
 have e:=(LQ h).2.1
 unfold Kv Bk Nx
 dsimp only
 rw [QS x (by omega),Aa,h,Vp x (by omega),Aa,CT,Aa,Xp x h]
 cases BN c 0 (Si x) <;> rfl
theorem Xl {x:GA} (h:Gf x = true) (c:Int):Ku x c = some (Nx x c):=by
 have e:=(LQ h).2.1
 unfold Ku L9 Bk Nx
 dsimp only
 rw [RR x (by omega),Aa,h,Vn x (by omega),Aa,CU,Aa,OQ x h]
 cases BN c 0 (Si x) <;> rfl
theorem ZA {x:GA} (h:Gf x = true) {c:Int} (h1:c ≤ 99999):0 ≤ (Nx x c).1 ∧ (Nx x c).1 ≤ 720000:=by
 unfold Nx
 split
 ·rename_i f
  have e:=DB.1 f
  exact Aa9 h e.1 (by omega)
 ·simp
abbrev FT:=Aev × Aev × Int × Aev × (List BP) × (List IC)
abbrev SpT:=Aev × Aev × Int × Aev × (List BP) × (List IC) × (List Int) × (List Int) × Int
abbrev CtT:=(List Int) × (List Int) × Int
def EJ (s:FT) (c:CtT):SpT:=(s.1,s.2.1,s.2.2.1,s.2.2.2.1,s.2.2.2.2.1,s.2.2.2.2.2,c.1,c.2.1,c.2.2)
structure Ka (s:FT):Prop where
 ch:Cv s.1 = true
 ke:Cv s.2.1 = true
 mu:Gf s.2.2.2.1 = true
 ca:Fw s.2.2.2.2.1 = true
 ve:Ht s.2.2.2.2.2 = true
def Qj (b:Bool):List Aj:=if b = true then [111,107] else [110,111]
theorem Y1 (b:Bool):I4 b = some (Qj b):=by unfold I4 Qj; cases b <;> rfl
theorem Abn (b:Bool):Jh b = some (Qj b):=by unfold Jh Qj; cases b <;> rfl
def T8 (s:FT) (w:List Aj) (n:List Int) (F:FT → List Aj → List Int → Ae (List Aj × FT)):Prop :=
 ∃ ok s',Ka s' ∧ (ok = false → s' = s) ∧ s'.2.2.2.2.1.length ≤ s.2.2.2.2.1.length + 1 ∧ F s w n = some (Qj ok,s') ∧ ∀ c,Cz (EJ s c) w n = some (ok,EJ s' c)
theorem XD {n:List Int} (h:n.length = 1):∃ a,n = [a]:=by
 match n,h with
 | [a],_=>exact ⟨a,rfl⟩
theorem nl2 {n:List Int} (h:n.length = 2):∃ a b,n = [a,b]:=by
 match n,h with
 | [a,b],_=>exact ⟨a,b,rfl⟩
theorem nl3 {n:List Int} (h:n.length = 3):∃ a b c,n = [a,b,c]:=by
 match n,h with
 | [a,b,c],_=>exact ⟨a,b,c,rfl⟩
theorem nl4 {n:List Int} (h:n.length = 4):∃ a b c d,n = [a,b,c,d]:=by
 match n,h with
 | [a,b,c,d],_=>exact ⟨a,b,c,d,rfl⟩
theorem It {α:Type} (a:α) (l:List α):AL (a :: l) 0 = some a:=rfl
theorem MY {α:Type} (a b:α) (l:List α):AL (a :: b :: l) 1 = some b:=rfl
theorem XH {α:Type} (a b c:α) (l:List α):AL (a :: b :: c :: l) 2 = some c:=rfl
theorem ix3 {α:Type} (a b c d:α) (l:List α):AL (a :: b :: c :: d :: l) 3 = some d:=rfl
def Rp (s:FT) (c:List (Int × Int)):FT:=(c,s.2.1,s.2.2.1,s.2.2.2.1,s.2.2.2.2.1,s.2.2.2.2.2)
theorem M5 (s:FT) (c:List (Int × Int)) (b:Bool):Dj s c b = some (Qj b,if b = true then Rp s c else s) ∧ ∀ k,EF (EJ s k) c b = some (b,EJ (if b = true then Rp s c else s) k):=by
 unfold Dj EF Bk
 dsimp only
 simp only [Y1,Aa]
 cases b
 ·exact ⟨rfl,fun _=>rfl⟩
 ·exact ⟨rfl,fun _=>rfl⟩
theorem Z0 {l:List (Int × Int)} (h:(Py l).2 = true):Cv (Py l).1 = true:=by
 unfold Py at h ⊢
 split
 ·assumption
 ·rename_i e; rw [if_neg e] at h; cases h
theorem YW {l:List (Int × Int)} {p:Int} {a:Int × Int} (h:(Lx l p a).2 = true):Cv (Lx l p a).1 = true:=by
 unfold Lx at h ⊢
 split
 ·rename_i e; rw [if_pos e] at h; exact Z0 h
 ·rename_i e; rw [if_neg e] at h; cases h
theorem Aa2 {s:FT} (h:Ka s) {r:List (Int × Int) × Bool} (f:r.2 = true → Cv r.1 = true):Ka (if r.2 = true then Rp s r.1 else s):=by
 split
 ·rename_i e; exact ⟨f e,h.ke,h.mu,h.ca,h.ve⟩
 ·exact h
theorem Abo {s:FT} (h:Ka s) {n:List Int} (f:n.length = 2):T8 s SN n BJ:=by
 obtain ⟨a,b,rfl⟩:=nl2 f
 have g:=Dc h.ch
 refine ⟨(Py (s.1 ++ [(a,b)])).2,if (Py (s.1 ++ [(a,b)])).2 = true then Rp s (Py (s.1 ++ [(a,b)])).1 else s,Aa2 h Z0,(fun e=>by rw [e]; rfl),?_,?_,fun c=>?_⟩
 ·split <;> exact Nat.le_succ _
 ·unfold BJ SN Gn
  dsimp only
  rw [if_pos (by rfl),It,Aa,MY,Aa,Bt (by simp; omega),Aa,List.nil_append,Bt (by simp; omega),Aa,RY _ (by simp; omega),Aa,(M5 _ _ _).1,Aa]
 ·unfold Cz SN Gn
  dsimp only
  rw [if_pos (by rfl),It,Aa,MY,Aa,show (EJ s c).1 = s.1 by rfl,Ny _ (by omega),Aa,Bt (by simp; omega),Aa,UP _ (by simp; omega),Aa,(M5 _ _ _).2,Aa]
theorem Aak {s:FT} (h:Ka s) {n:List Int} (f:n.length = 3):T8 s Q7 n BJ:=by
 obtain ⟨p,a,b,rfl⟩:=nl3 f
 refine ⟨(Lx s.1 p (a,b)).2,if (Lx s.1 p (a,b)).2 = true then Rp s (Lx s.1 p (a,b)).1 else s,Aa2 h YW,(fun e=>by rw [e]; rfl),?_,?_,fun c=>?_⟩
 ·split <;> exact Nat.le_succ _
 ·unfold BJ Q7 Gn
  dsimp only
  rw [if_neg (by decide),if_pos (by rfl),It,Aa,MY,Aa,XH,Aa,Qv h.ch,Aa,(M5 _ _ _).1,Aa]
 ·unfold Cz Q7 Gn
  dsimp only
  rw [if_neg (by decide),if_pos (by rfl),It,Aa,MY,Aa,XH,Aa,show (EJ s c).1 = s.1 by rfl,Qu h.ch,Aa,(M5 _ _ _).2,Aa]
theorem Zv {s:FT} (h:Ka s) {n:List Int}:T8 s Pk n BJ:=by
 refine ⟨true,Rp s (s.1.map Nb),⟨Acp h.ch,h.ke,h.mu,h.ca,h.ve⟩,(fun e=>by cases e),Nat.le_succ _,?_,fun c=>?_⟩
 ·unfold BJ Pk Gn
  dsimp only
  rw [if_neg (by decide),if_neg (by decide),if_pos (by rfl),Sv h.ch,Aa,(M5 _ _ _).1,Aa]
  rfl
 ·unfold Cz Pk Gn
  dsimp only
  rw [if_neg (by decide),if_neg (by decide),if_pos (by rfl),show (EJ s c).1 = s.1 by rfl,Sl h.ch,Aa,(M5 _ _ _).2,Aa]
  rfl
theorem Abp {s:FT} (h:Ka s) {n:List Int}:T8 s SP n BJ:=by
 have f:=Dc h.ch
 refine ⟨true,(s.1,s.1,s.2.2.1,s.2.2.2.1,s.2.2.2.2.1,s.2.2.2.2.2),⟨h.ch,h.ch,h.mu,h.ca,h.ve⟩,(fun e=>by cases e),Nat.le_succ _,?_,fun c=>?_⟩
 ·unfold BJ SP
  rw [if_neg (by decide),if_neg (by decide),if_neg (by decide),if_pos (by rfl),Bt (by simp; omega),Aa]
  rfl
 ·unfold Cz SP Gn
  dsimp only
  rw [if_neg (by decide),if_neg (by decide),if_neg (by decide),if_pos (by rfl),show (EJ s c).1 = s.1 by rfl,Ny _ (by omega),Aa]
  rfl
theorem Zw {s:FT} (h:Ka s) {n:List Int} (f:n.length = 1):T8 s Pl n BJ:=by
 obtain ⟨a,rfl⟩:=XD f
 refine ⟨BN a 1 64,if BN a 1 64 = true then (s.1,s.2.1,a,s.2.2.2.1,s.2.2.2.2.1,s.2.2.2.2.2) else s,?_,(fun e=>by rw [e]; rfl),?_,?_,fun c=>?_⟩
 ·split
  ·exact ⟨h.ch,h.ke,h.mu,h.ca,h.ve⟩
  ·exact h
 ·split <;> exact Nat.le_succ _
 ·unfold BJ Pl
  rw [if_neg (by decide),if_neg (by decide),if_neg (by decide),if_neg (by decide),It,Aa,CT,Aa,Aa]
  cases BN a 1 64 <;> rfl
 ·unfold Cz Pl Gn
  dsimp only
  rw [if_neg (by decide),if_neg (by decide),if_neg (by decide),if_neg (by decide),if_pos (by rfl),It,Aa,CU,Aa,Aa]
  cases BN a 1 64 <;> rfl
theorem Yv {s:FT} (h:Ka s) {n:List Int} (f:n.length = 2):T8 s NJ n CG:=by
 obtain ⟨a,b,rfl⟩:=nl2 f
 have g:=(LQ h.mu).2.1
 refine ⟨Gf (s.2.2.2.1 ++ [(a,b)]),if Gf (s.2.2.2.1 ++ [(a,b)]) = true then (s.1,s.2.1,s.2.2.1,s.2.2.2.1 ++ [(a,b)],s.2.2.2.2.1,s.2.2.2.2.2) else s,?_,(fun e=>by rw [e]; rfl),?_,?_,fun c=>?_⟩
 ·split
  ·rename_i e; exact ⟨h.ch,h.ke,e,h.ca,h.ve⟩
  ·exact h
 ·split <;> exact Nat.le_succ _
 ·unfold CG NJ Gn
  dsimp only
  rw [if_pos (by rfl),It,Aa,MY,Aa,Bt (by simp; omega),Aa,List.nil_append,Bt (by simp; omega),Aa,QS _ (by simp; omega),Aa]
  cases Gf (s.2.2.2.1 ++ [(a,b)]) <;> rfl
 ·unfold Cz NJ Gn
  dsimp only
  rw [if_neg (by decide),if_neg (by decide),if_neg (by decide),if_neg (by decide),if_neg (by decide),if_pos (by rfl),It,Aa,MY,Aa,show (EJ s c).2.2.2.1 = s.2.2.2.1 by rfl,Bt (by simp; omega),Aa,List.nil_append,Bt (by simp; omega),Aa,RR _ (by simp; omega),Aa]
  cases Gf (s.2.2.2.1 ++ [(a,b)]) <;> rfl
theorem Yu {s:FT} (h:Ka s) {n:List Int} (l:n.length = 3):T8 s NH n CG:=by
 obtain ⟨a,b,d,rfl⟩:=nl3 l
 have f:=NK h.ve
 refine ⟨(L1 s.2.2.2.2.2 (a,b,d)).2,if (L1 s.2.2.2.2.2 (a,b,d)).2 = true then (s.1,s.2.1,s.2.2.1,s.2.2.2.1,s.2.2.2.2.1,(L1 s.2.2.2.2.2 (a,b,d)).1) else s,?_,(fun e=>by rw [e]; rfl),?_,?_,fun c=>?_⟩
 ·split
  ·rename_i e
   refine ⟨h.ch,h.ke,h.mu,h.ca,?_⟩
   unfold L1 at e ⊢
   dsimp only
   split
   ·assumption
   ·rename_i g; rw [if_neg g] at e; cases e
  ·exact h
 ·split <;> exact Nat.le_succ _
 ·unfold CG NH Bk
  dsimp only
  rw [if_neg (by decide),if_neg (by decide),It,Aa,MY,Aa,XH,Aa,Tx h.ve f.2,Aa,Y1,Aa,Aa]
  cases (L1 s.2.2.2.2.2 (a,b,d)).2 <;> rfl
 ·unfold Cz NH Gn
  dsimp only
  rw [if_neg (by decide),if_neg (by decide),if_neg (by decide),if_neg (by decide),if_neg (by decide),if_neg (by decide),if_neg (by decide),if_pos (by rfl),It,Aa,MY,Aa,XH,Aa,show (EJ s c).2.2.2.2.2.1 = s.2.2.2.2.2 by rfl,SZ h.ve f.2,Aa]
  cases (L1 s.2.2.2.2.2 (a,b,d)).2 <;> rfl
def Pn (n:List Int):Prop:=∀ x ∈ n,0 ≤ x ∧ x ≤ 99999
theorem Aal {s:FT} (h:Ka s) (ai:s.2.2.2.2.1.length ≤ 39) {n:List Int} (hn:n.length = 4) (g:Pn n):T8 s QA n CG:=by
 obtain ⟨a,b,d,e,rfl⟩:=nl4 hn
 have ah:=(Hm.1 h.ca).1
 have hK:∀ x ∈ s.2.2.2.2.1 ++ [(a,b,d,e)],Ly x:=by
  intro x f
  rcases AX.1 f with f | f
  ·exact Us h.ca x f
  ·rw [List.mem_singleton] at f
   subst f
   have v:=g b (by simp)
   have hd:=g d (by simp)
   exact ⟨v,hd⟩
 obtain ⟨Z,z1,z2,u,z4⟩:=Yw (l:=s.2.2.2.2.1 ++ [(a,b,d,e)]) (by simp; omega) hK
 have m:=z1.length_eq
 rw [CM,List.length_singleton] at m
 refine ⟨Fw Z,if Fw Z = true then (s.1,s.2.1,s.2.2.1,s.2.2.2.1,Z,s.2.2.2.2.2) else s,?_,(fun e=>by rw [e]; rfl),?_,?_,fun c=>?_⟩
 ·split
  ·rename_i e; exact ⟨h.ch,h.ke,h.mu,e,h.ve⟩
  ·exact h
 ·split
  ·exact Nat.le_of_eq m
  ·exact Nat.le_succ _
 ·unfold CG QA Gn
  dsimp only
  rw [if_neg (by decide),if_pos (by rfl),It,Aa,MY,Aa,XH,Aa,ix3,Aa,Bt (by simp; omega),Aa,List.nil_append,Bt (by simp; omega),Aa,z2,Aa,u,Aa]
  cases Fw Z <;> rfl
 ·unfold Cz QA Gn W0
  dsimp only
  rw [if_neg (by decide),if_neg (by decide),if_neg (by decide),if_neg (by decide),if_neg (by decide),if_neg (by decide),if_pos (by rfl),It,Aa,MY,Aa,XH,Aa,ix3,Aa,show (EJ s c).2.2.2.2.1 = s.2.2.2.2.1 by rfl,Bt (by simp; omega),Aa,List.nil_append,Bt (by simp; omega),Aa,z4,Aa]
  cases Fw Z <;> rfl
def Ph (s:FT) (w:List Aj) (n:List Int):Prop:=∃ r,r.length ≤ 1000 ∧ Ca s w n = some r ∧ ∀ c,C3 (EJ s c) w n = some r
theorem NZ {r:Int × Bool} (h:0 ≤ r.1) (e:r.1 ≤ 1000000000):(OV r).length ≤ 1000:=by
 unfold OV
 split
 ·have:=Hy (k:=9) (u:=r.1.toNat) (by omega)
  omega
 ·decide
theorem Aai (e:Int):Lg Qk e = ([],false):=by
 unfold Lg
 rw [So]
 rfl
theorem Aaa (e:Int):Me Qk e = (0,false):=by
 unfold Me
 rw [So]
 rfl
theorem Abc:M3 Qk = (0,false):=by
 unfold M3
 rw [So]
 rfl
theorem UZ {a b:List (Int × Int)} {n:Int} (h:(Em a b n).2 = false):(Em a b n).1 = Qk:=by
 unfold Em at *
 split
 ·rename_i e; rw [if_pos e] at h; cases h
 ·rfl
theorem Zl {a b:List (Int × Int)} {n:Int} (h:(Fz a b n).2 = false):(Fz a b n).1 = Qk:=by
 unfold Fz at *
 split
 ·rename_i e; rw [if_pos e] at h; cases h
 ·rfl
theorem Adb {s:FT} (h:Ka s) {n:List Int}:Ph s VK n:=by
 have h1:=Dc h.ch
 have m:=Dc h.ke
 have f:=Zk s.2.1 s.1 s.2.2.1
 have e:=Abd (Fz s.2.1 s.1 s.2.2.1).1
 have g:=Oh (r:=M3 (Fz s.2.1 s.1 s.2.2.1).1) e.1 (by omega)
 refine ⟨OV (M3 (Fz s.2.1 s.1 s.2.2.1).1),NZ e.1 (by omega),?_,fun c=>?_⟩
 ·unfold Ca VK Wz
  dsimp only
  rw [if_pos (by rfl),PU (by omega) (by omega),Aa,show ((Fz s.2.1 s.1 s.2.2.1).1.1,(Fz s.2.1 s.1 s.2.2.1).1.2.1,(Fz s.2.1 s.1 s.2.2.1).1.2.2.1,(Fz s.2.1 s.1 s.2.2.1).1.2.2.2) = (Fz s.2.1 s.1 s.2.2.1).1 by rfl,f.sum.1,Aa,g.1,Aa]
 ·unfold C3 VK jK5
  dsimp only
  rw [if_pos (by rfl),show (EJ s c).1 = s.1 by rfl,show (EJ s c).2.1 = s.2.1 by rfl,show (EJ s c).2.2.1 = s.2.2.1 by rfl,PI (by omega) (by omega),Aa,show ((Fz s.2.1 s.1 s.2.2.1).1.1,(Fz s.2.1 s.1 s.2.2.1).1.2.1,(Fz s.2.1 s.1 s.2.2.1).1.2.2.1,(Fz s.2.1 s.1 s.2.2.1).1.2.2.2) = (Fz s.2.1 s.1 s.2.2.1).1 by rfl]
  cases l:(Fz s.2.1 s.1 s.2.2.1).2 with
  | true=>rw [if_neg (by simp),f.sum.2,Aa,g.2,Aa]
  | false =>
   rw [if_pos (by rfl),Zl l,Abc]
   rfl
theorem Yp {t:BV} (h:SmT t) (f:Int):(∀ q ∈ (Lg t f).1,NY q) ∧ (Lg t f).1.length ≤ 144:=by
 have:=h.h1
 unfold Lg
 split
 ·refine ⟨fun q e=>?_,?_⟩
  ·obtain ⟨i,k,h1,g,m,l,_⟩:=Zd e
   exact ⟨i,k,h1,by omega,by omega⟩
  ·have h1:=QN (XM t f) t.1.length t.1.length
   have g:t.1.length * t.1.length ≤ 12 * 12:=Nat.mul_le_mul this this
   dsimp only
   omega
 ·exact ⟨(fun q e=>by cases e),by simp⟩
theorem Yt {P:List (List Int)} (h:∀ q ∈ P,NY q) (g:P.length ≤ 144):(Og P).length ≤ 1000:=by
 unfold Og
 split
 ·decide
 ·have:=QP (B:=5) (P.map Ox) (fun w e=>by
   obtain ⟨q,f,rfl⟩:=List.mem_map.1 e
   exact (Pj (h q f)).2)
  rw [List.length_map] at this
  omega
theorem Aas {s:FT} (h:Ka s) {n:List Int} (m:n.length = 1):Ph s Q9 n:=by
 obtain ⟨a,rfl⟩:=XD m
 have h1:=Dc h.ch
 have u:=Dc h.ke
 have f:=UY s.2.1 s.1 s.2.2.1
 obtain ⟨e,g⟩:=Yp f a
 refine ⟨if (Lg (Em s.2.1 s.1 s.2.2.1).1 a).2 = true then Og (Lg (Em s.2.1 s.1 s.2.2.1).1 a).1 else [110,111],?_,?_,fun c=>?_⟩
 ·split
  ·exact Yt e g
  ·decide
 ·unfold Ca Q9 GL Wz
  dsimp only
  rw [if_neg (by decide),if_pos (by rfl),It,Aa,Mg (by omega) (by omega),Aa,show ((Em s.2.1 s.1 s.2.2.1).1.1,(Em s.2.1 s.1 s.2.2.1).1.2.1,(Em s.2.1 s.1 s.2.2.1).1.2.2.1,(Em s.2.1 s.1 s.2.2.1).1.2.2.2) = (Em s.2.1 s.1 s.2.2.1).1 by rfl,QT f,Aa]
  generalize Lg (Em s.2.1 s.1 s.2.2.1).1 a = r at *
  obtain ⟨P,b⟩:=r
  cases b with
  | false=>rfl
  | true =>
   dsimp only at e g ⊢
   rw [if_neg (by simp),if_pos rfl]
   unfold Og
   cases P with
   | nil=>rfl
   | cons q P =>
    rw [if_neg (by simp; omega),Ys e (by omega),Aa,if_neg (by simp)]
 ·unfold C3 Q9 Hs ED Bk
  dsimp only
  rw [if_neg (by decide),if_pos (by rfl),It,Aa,show (EJ s c).1 = s.1 by rfl,show (EJ s c).2.1 = s.2.1 by rfl,show (EJ s c).2.2.1 = s.2.2.1 by rfl,LV (by omega) (by omega),Aa,Aa,QE f,Aa]
  cases l:(Em s.2.1 s.1 s.2.2.1).2 with
  | false =>
   rw [UZ l,Aai]
   rfl
  | true =>
   generalize Lg (Em s.2.1 s.1 s.2.2.1).1 a = r at *
   obtain ⟨P,b⟩:=r
   cases b with
   | false=>rfl
   | true =>
    dsimp only at e g ⊢
    rw [if_neg (by simp),if_neg (by simp),Yr e (by omega),Aa,if_pos rfl]
theorem Abv {s:FT} (h:Ka s) {n:List Int} (m:n.length = 1):Ph s SO n:=by
 obtain ⟨a,rfl⟩:=XD m
 have h1:=Dc h.ch
 have u:=Dc h.ke
 have f:=UY s.2.1 s.1 s.2.2.1
 have e:=Aab (Em s.2.1 s.1 s.2.2.1).1 a
 have g:=Oh (r:=Me (Em s.2.1 s.1 s.2.2.1).1 a) e.1 (by omega)
 refine ⟨OV (Me (Em s.2.1 s.1 s.2.2.1).1 a),NZ e.1 (by omega),?_,fun c=>?_⟩
 ·unfold Ca SO Wz
  dsimp only
  rw [if_neg (by decide),if_neg (by decide),if_pos (by rfl),Mg (by omega) (by omega),Aa,It,Aa,show ((Em s.2.1 s.1 s.2.2.1).1.1,(Em s.2.1 s.1 s.2.2.1).1.2.1,(Em s.2.1 s.1 s.2.2.1).1.2.2.1,(Em s.2.1 s.1 s.2.2.1).1.2.2.2) = (Em s.2.1 s.1 s.2.2.1).1 by rfl,Tv f,Aa,g.1,Aa]
 ·unfold C3 SO ED
  rw [if_neg (by decide),if_neg (by decide),if_pos (by rfl),show (EJ s c).1 = s.1 by rfl,show (EJ s c).2.1 = s.2.1 by rfl,show (EJ s c).2.2.1 = s.2.2.1 by rfl,LV (by omega) (by omega),Aa,Aa,It,Aa]
  cases l:(Em s.2.1 s.1 s.2.2.1).2 with
  | true=>rw [if_neg (by simp),SX f,Aa,g.2,Aa]
  | false =>
   rw [if_pos (by rfl),UZ l,Aaa]
   rfl
theorem Aar {s:FT} (h:Ka s) {n:List Int}:Ph s Q8 n:=by
 obtain ⟨g,l,f,m⟩:=S4 h.ch
 have e:=Oh (r:=MX s.1) f (by omega)
 refine ⟨OV (MX s.1),NZ f (by omega),?_,fun c=>?_⟩
 ·unfold Ca Q8
  rw [if_neg (by decide),if_neg (by decide),if_neg (by decide),if_pos (by rfl),g,Aa,e.1,Aa]
 ·unfold C3 Q8
  rw [if_neg (by decide),if_neg (by decide),if_neg (by decide),if_pos (by rfl),show (EJ s c).1 = s.1 by rfl,l,Aa,e.2,Aa]
theorem Abt {s:FT} (h:Ka s) {n:List Int} (m:n.length = 1) (g:Pn n):Ph s SL n:=by
 obtain ⟨a,rfl⟩:=XD m
 have l:=g a (by simp)
 have e:=ZA h.mu (c:=a) l.2
 have f:=Oh (r:=Nx s.2.2.2.1 a) e.1 (by omega)
 refine ⟨OV (Nx s.2.2.2.1 a),NZ e.1 (by omega),?_,fun c=>?_⟩
 ·unfold Ca SL
  rw [if_neg (by decide),if_neg (by decide),if_neg (by decide),if_neg (by decide),if_neg (by decide),if_neg (by decide),if_pos (by rfl),It,Aa,Xr h.mu,Aa,f.1,Aa]
 ·unfold C3 SL
  rw [if_neg (by decide),if_neg (by decide),if_neg (by decide),if_neg (by decide),if_pos (by rfl),It,Aa,show (EJ s c).2.2.2.1 = s.2.2.2.1 by rfl,Xl h.mu,Aa,f.2,Aa]
theorem Ada {s:FT} (h:Ka s) {n:List Int} (f:n.length = 2):Ph s VJ n:=by
 obtain ⟨a,b,rfl⟩:=nl2 f
 have e:=Aa8 h.ca a b
 refine ⟨if (Na s.2.2.2.2.1 a b).2 = true then Lib.decDigits (Na s.2.2.2.2.1 a b).1.toNat else [110,111,110,101],?_,?_,fun c=>?_⟩
 ·split
  ·have:=Hy (k:=1) (u:=(Na s.2.2.2.2.1 a b).1.toNat) (by omega)
   omega
  ·decide
 ·unfold Ca VJ
  rw [if_neg (by decide),if_neg (by decide),if_neg (by decide),if_neg (by decide),if_neg (by decide),if_neg (by decide),if_neg (by decide),if_pos (by rfl),It,Aa,MY,Aa,Ud h.ca,Aa,LB e.1 (by omega),Aa]
  cases (Na s.2.2.2.2.1 a b).2 <;> rfl
 ·unfold C3 VJ
  rw [if_neg (by decide),if_neg (by decide),if_neg (by decide),if_neg (by decide),if_neg (by decide),if_pos (by rfl),It,Aa,MY,Aa,show (EJ s c).2.2.2.2.1 = s.2.2.2.2.1 by rfl,TO h.ca,Aa,Kb e.1 (by omega),Aa]
  cases (Na s.2.2.2.2.1 a b).2 <;> rfl
theorem Aap {s:FT} (h:Ka s) {n:List Int} (g:n.length = 1):Ph s Q6 n:=by
 obtain ⟨a,rfl⟩:=XD g
 obtain ⟨⟨z,b⟩,m,u,f⟩:=WJ h.ve a
 refine ⟨if b = true then Gv (z.map Mw) else [110,111],?_,?_,fun c=>?_⟩
 ·split
  ·rename_i e
   obtain ⟨l,e⟩:=f e
   have:=QP (B:=3) (z.map Mw) (fun w v=>by
    obtain ⟨n,g,rfl⟩:=List.mem_map.1 v
    exact Rq (e n g).2)
   rw [List.length_map] at this
   dsimp only at l
   omega
  ·decide
 ·unfold Ca Q6 Fx
  rw [if_neg (by decide),if_neg (by decide),if_neg (by decide),if_neg (by decide),if_neg (by decide),if_neg (by decide),if_neg (by decide),if_neg (by decide),It,Aa,m,Aa]
  cases b with
  | false=>rfl
  | true =>
   rw [if_neg (by simp),Vl (f rfl),Aa]
   rfl
 ·unfold C3 Q6
  rw [if_neg (by decide),if_neg (by decide),if_neg (by decide),if_neg (by decide),if_neg (by decide),if_neg (by decide),if_pos (by rfl),It,Aa,show (EJ s c).2.2.2.2.2.1 = s.2.2.2.2.2 by rfl,u,Aa]
  cases b with
  | false=>rfl
  | true =>
   rw [if_neg (by simp),Xu (f rfl),Aa]
   rfl
theorem Abu {s:FT} (h:Ka s) {n:List Int} (u:n.length = 1) (g:Pn n):Ph s SM n:=by
 obtain ⟨a,rfl⟩:=XD u
 have f:=g a (by simp)
 have h1:=Dc h.ch
 refine ⟨if (s.1.length:Int) ≤ a then [110,111] else PH (DY s.1 a.toNat),?_,?_,fun c=>?_⟩
 ·split
  ·decide
  ·have:=YA (I8 h.ch (i:=a.toNat) (by omega))
   omega
 ·unfold Ca SM
  rw [if_neg (by decide),if_neg (by decide),if_neg (by decide),if_neg (by decide),if_pos (by rfl),It,Aa,Aa]
  by_cases e:(s.1.length:Int) ≤ a
  ·rw [if_pos (decide_eq_true e),if_pos e]
  ·rw [if_neg (by simpa using e),if_neg e,Iy f.1,Dq (by omega),Aa,Vq (I8 h.ch (by omega)),Aa]
 ·unfold C3 SM
  rw [if_neg (by decide),if_neg (by decide),if_neg (by decide),if_neg (by decide),if_neg (by decide),if_neg (by decide),if_neg (by decide)]
  obtain ⟨m,l⟩:∃ m,FU = m + 2:=⟨FU - 2,rfl⟩
  rw [l,CA,if_pos (by simp),It,Aa,show (EJ s c).1 = s.1 by rfl]
  by_cases e:(s.1.length:Int) ≤ a
  ·rw [if_pos (decide_eq_true e),if_pos e]
  ·rw [if_neg (by simpa using e),if_neg e,show Ag (0 + 1) = 1 by decide,CA,if_neg (by simp),if_pos (by rfl),It,Aa,show (EJ s c).1 = s.1 by rfl,Iy f.1,Dq (by omega),Aa,Xf (I8 h.ch (by omega)),Aa]
theorem Aaq {s:FT} (h:Ka s) {n:List Int} (hn:n.length = 2) (l:Pn n):Ph s NI n:=by
 obtain ⟨a,b,rfl⟩:=nl2 hn
 have ha:=l a (by simp)
 have u:=l b (by simp)
 have h1:=Dc h.ch
 by_cases e:(s.1.length:Int) ≤ Fy a b
 ·have ah:(s.1.length:Int) ≤ a ∨ (s.1.length:Int) ≤ b:=by unfold Fy at e; split at e <;> omega
  refine ⟨[110,111],by decide,?_,fun c=>?_⟩
  ·unfold Ca NI
   rw [if_neg (by decide),if_neg (by decide),if_neg (by decide),if_neg (by decide),if_neg (by decide),if_pos (by rfl),It,Aa,MY,Aa,if_pos (decide_eq_true e)]
  ·unfold C3 NI
   rw [if_neg (by decide),if_neg (by decide),if_neg (by decide),if_neg (by decide),if_neg (by decide),if_neg (by decide),if_neg (by decide)]
   obtain ⟨m,g⟩:∃ m,FU = m + 3:=⟨FU - 3,rfl⟩
   rw [g,CA,if_pos (by simp),It,Aa,show (EJ s c).1 = s.1 by rfl]
   by_cases f:(s.1.length:Int) ≤ a
   ·rw [if_pos (decide_eq_true f)]
   ·rw [if_neg (by simpa using f),show Ag (0 + 1) = 1 by decide,CA,if_pos (by simp),MY,Aa,show (EJ s c).1 = s.1 by rfl,if_pos (decide_eq_true (by omega))]
 ·have f:¬ (s.1.length:Int) ≤ a:=by unfold Fy at e; split at e <;> omega
  have ad:¬ (s.1.length:Int) ≤ b:=by unfold Fy at e; split at e <;> omega
  obtain ⟨e1,e2,b1,b2⟩:=Uu (I8 h.ch (i:=a.toNat) (by omega)) (I8 h.ch (i:=b.toNat) (by omega))
  have v:=Oh (r:=NO (DY s.1 a.toNat) (DY s.1 b.toNat)) b1 (by omega)
  refine ⟨OV (NO (DY s.1 a.toNat) (DY s.1 b.toNat)),NZ b1 (by omega),?_,fun c=>?_⟩
  ·unfold Ca NI
   rw [if_neg (by decide),if_neg (by decide),if_neg (by decide),if_neg (by decide),if_neg (by decide),if_pos (by rfl),It,Aa,MY,Aa,if_neg (by simpa using e),Aa,Iy ha.1,Dq (by omega),Aa,Aa,Iy u.1,Dq (by omega),Aa,e1,Aa,v.1,Aa]
  ·unfold C3 NI
   rw [if_neg (by decide),if_neg (by decide),if_neg (by decide),if_neg (by decide),if_neg (by decide),if_neg (by decide),if_neg (by decide)]
   obtain ⟨m,g⟩:∃ m,FU = m + 3:=⟨FU - 3,rfl⟩
   rw [g,CA,if_pos (by simp),It,Aa,show (EJ s c).1 = s.1 by rfl,if_neg (by simpa using f),show Ag (0 + 1) = 1 by decide,CA,if_pos (by simp),MY,Aa,show (EJ s c).1 = s.1 by rfl,if_neg (by simpa using ad),show Ag (1 + 1) = 2 by decide,CA,if_neg (by simp),if_neg (by decide),It,Aa,show (EJ s c).1 = s.1 by rfl,Iy ha.1,Dq (by omega),Aa,MY,Aa,Iy u.1,Dq (by omega),Aa,e2,Aa,v.2,Aa]
structure VF (s:FT) (l:List Aj) (r:List Aj) (s':FT):Prop where
 ok:Ka s'
 len:r.length ≤ 1000
 car:s'.2.2.2.2.1.length ≤ s.2.2.2.2.1.length + 1
 im:Dv s l = some (r,s')
 sp:∀ c,Ed (EJ s c) l = some (r,EJ s' c)
 no:r = [110,111] ∨ r = [119,104,97,116] → s' = s
theorem ZE (c:Aj) (l:List Aj):∃ w e,CZ c l = w :: e:=by
 cases h:CZ c l with
 | nil=>have:=Jo c l; rw [h] at this; simp at this
 | cons w e=>exact ⟨w,e,rfl⟩
theorem Acm {b:Bool} (h:Qj b = [110,111] ∨ Qj b = [119,104,97,116]):b = false:=by
 cases b with
 | false=>rfl
 | true=>rcases h with h | h <;> exact absurd h (by decide)
theorem YB (c:Aj):∀ (m:List Aj),∀ b ∈ CZ c m,b.length ≤ m.length:=by
 intro m
 induction m with
 | nil=>intro b e; simp [CZ] at e; simp [e]
 | cons x m f =>
  intro b e
  rw [CZ] at e
  split at e
  ·rcases List.mem_cons.1 e with rfl | e
   ·simp
   ·have:=f b e; simp; omega
  ·cases g:CZ c m with
   | nil=>have:=Jo c m; rw [g] at this; simp at this
   | cons a t =>
    rw [g] at e f
    rcases List.mem_cons.1 e with rfl | e
    ·have:=f a (List.mem_cons_self ..); simp; omega
    ·have:=f b (List.mem_cons_of_mem _ e); simp; omega
theorem XS {s:FT} (h:Ka s) (u:s.2.2.2.2.1.length ≤ 39) {w:List Aj} {f:List Int} (g:Pn f) (l:Pc w = (f.length:Int)) :
  (∃ F,T8 s w f F ∧ (w ∈ Ja ∧ F = BJ ∨ w ∈ Pd ∧ F = CG)) ∨ (w ∈ LJ ∧ Ph s w f):=by
 have m:=ZZ (w:=w) (by rw [l]; omega)
 have len:∀ k:Nat,Pc w = (k:Int) → f.length = k:=fun k e=>by rw [e] at l; omega
 simp only [Ja,Pd,LJ,List.cons_append,List.nil_append,List.mem_cons,List.not_mem_nil,or_false] at m
 rcases m with rfl | rfl | rfl | rfl | rfl | rfl | rfl | rfl | rfl | rfl | rfl | rfl | rfl | rfl | rfl | rfl | rfl
 ·exact .inl ⟨_,Abo h (len 2 rfl),.inl ⟨by simp [Ja],rfl⟩⟩
 ·exact .inl ⟨_,Aak h (len 3 rfl),.inl ⟨by simp [Ja],rfl⟩⟩
 ·exact .inl ⟨_,Zv h,.inl ⟨by simp [Ja],rfl⟩⟩
 ·exact .inl ⟨_,Abp h,.inl ⟨by simp [Ja],rfl⟩⟩
 ·exact .inl ⟨_,Zw h (len 1 rfl),.inl ⟨by simp [Ja],rfl⟩⟩
 ·exact .inl ⟨_,Yv h (len 2 rfl),.inr ⟨by simp [Pd],rfl⟩⟩
 ·exact .inl ⟨_,Aal h u (len 4 rfl) g,.inr ⟨by simp [Pd],rfl⟩⟩
 ·exact .inl ⟨_,Yu h (len 3 rfl),.inr ⟨by simp [Pd],rfl⟩⟩
 ·exact .inr ⟨by simp [LJ],Adb h⟩
 ·exact .inr ⟨by simp [LJ],Aas h (len 1 rfl)⟩
 ·exact .inr ⟨by simp [LJ],Abv h (len 1 rfl)⟩
 ·exact .inr ⟨by simp [LJ],Aar h⟩
 ·exact .inr ⟨by simp [LJ],Abt h (len 1 rfl) g⟩
 ·exact .inr ⟨by simp [LJ],Ada h (len 2 rfl)⟩
 ·exact .inr ⟨by simp [LJ],Aap h (len 1 rfl)⟩
 ·exact .inr ⟨by simp [LJ],Abu h (len 1 rfl) g⟩
 ·exact .inr ⟨by simp [LJ],Aaq h (len 2 rfl) g⟩
theorem ZQ {g:List (List Aj)} {f:List Int} (h:IX Pp g = some f):Pn f:=by
 refine Wt (fun x y e=>?_) h
 unfold Pp at e
 split at e
 ·rename_i l
  cases e
  exact DB.1 l
 ·cases e
theorem ZJ (s:FT) (w:List Aj) {f:List (List Aj)} (hl:f.length ≤ 2000) (hm:∀ a ∈ f,a.length ≤ 2000):BT f s w FU [] 0 = match IX Pp f with
  | none=>some ([119,104,97,116],s)
  | some l=>BT f s w 1 l (f.length:Int):=by
 refine (VB (BT f s w) f Pp (fun l=>BT f s w 1 l (f.length:Int)) (some ([119,104,97,116],s)) (by omega) (fun m k ac x g ha=>?_) (fun m ac ha=>?_)).trans (by cases IX Pp f <;> rfl)
 ·have hk:=(List.getElem?_eq_some_iff.1 g).1
  have ae:=hm x (List.mem_of_getElem? g)
  rw [BT,if_pos (by simp; omega),AY,g,Aa,W1 x (by omega),Aa,AD (by omega)]
  unfold Bk Pp
  dsimp only
  cases v:BN (Lf x) 0 99999 with
  | true =>
   obtain ⟨e,u⟩:=Xn v
   rw [e,if_neg (by simp),if_neg (by simp; omega),Bt (by simp; omega),Aa,if_pos rfl]
  | false =>
   rw [if_neg (c:=false = true) (by simp)]
   cases hb:(Mb x).2 with
   | false=>rw [if_pos (by rfl),if_pos rfl]
   | true =>
    have u:99999 < (Mb x).1:=by
     rcases Wn v with h | h
     ·rw [hb] at h; cases h
     ·exact h
    rw [if_neg (by simp),if_pos (decide_eq_true u)]
 ·rw [BT,BT,if_neg (by simp),if_neg (by simp)]
theorem Zj (x:SpT) (u:List (List Aj)) {e:List (List Aj)} (hl:e.length ≤ 2000) (h:∀ a ∈ e,a.length ≤ 2000):BS e x u FU [] 0 = match IX Pp e with
  | none=>some ([119,104,97,116],x)
  | some g=>BS e x u 1 g (e.length:Int):=by
 refine (VB (BS e x u) e Pp (fun g=>BS e x u 1 g (e.length:Int)) (some ([119,104,97,116],x)) (by omega) (fun m k l y f s=>?_) (fun m l s=>?_)).trans (by cases IX Pp e <;> rfl)
 ·have hk:=(List.getElem?_eq_some_iff.1 f).1
  have v:=h y (List.mem_of_getElem? f)
  rw [BS,if_pos (by simp; omega),AY,f,Aa,Zm y (by omega),Aa,CU,Aa,AD (by omega),Bt (by simp; omega),Aa]
  unfold Pp
  cases BN (Lf y) 0 99999 <;> rfl
 ·rw [BS,BS,if_neg (by simp),if_neg (by simp)]
theorem Va {s:FT} (h:Ka s) (a0:s.2.2.2.2.1.length ≤ 39) {l:List Aj} (hl:l.length ≤ 2000):∃ r s',VF s l r s':=by
 obtain ⟨w,f,ah⟩:=ZE 32 l
 have au:f.length ≤ 2000:=by
  have h1:=Jo 32 l
  have h2:l.count 32 ≤ l.length:=List.count_le_length
  rw [ah,List.length_cons] at h1
  omega
 have am:∀ a ∈ f,a.length ≤ 2000:=fun a ha=>by
  have:=YB 32 l a (by rw [ah]; exact List.mem_cons_of_mem _ ha)
  omega
 have az:Gb l [32] = some (w :: f):=by rw [← ah]; exact X4 l 32 (by omega)
 have ax:FN l 32 = some (w :: f):=by rw [← ah]; exact SV l 32 (by omega)
 have ao:sl (w :: f) 1 (((w :: f).length:Nat):Int) = some f:=Tb (w :: f) (k:=1) (by simp)
 have im:Dv s l = match IX Pp f with
  | none=>some ([119,104,97,116],s)
  | some m=>BT f s w 1 m (f.length:Int):=by
  unfold Dv
  rw [az,Aa,It,Aa,ao,Aa,ZJ s w au am]
 have sp:∀ c,Ed (EJ s c) l = if (f.length:Int) ≠ Pc w then some ([119,104,97,116],EJ s c) else match IX Pp f with
  | none=>some ([119,104,97,116],EJ s c)
  | some m=>BS f (EJ s c) (w :: f) 1 m (f.length:Int):=by
  intro c
  unfold Ed
  rw [ax,Aa,It,Aa,Tz,Aa,ao,Aa,Zj _ _ au am,A6 (by rw [List.length_cons]; omega) (by rw [List.length_cons]; omega),show (((w :: f).length:Nat):Int) - 1 = (f.length:Int) by simp]
  by_cases e:(f.length:Int) = Pc w
  ·rw [if_neg (by simpa using e),if_neg (by simpa using e)]
  ·rw [if_pos (by simpa using e),if_pos e]
 have aw:(∀ c,Ed (EJ s c) l = some ([119,104,97,116],EJ s c)) → Dv s l = some ([119,104,97,116],s) → ∃ r s',VF s l r s':=fun a b=>⟨_,s,h,by decide,Nat.le_succ _,b,a,fun _=>rfl⟩
 cases ad:IX Pp f with
 | none =>
  rw [ad] at im
  refine aw (fun c=>?_) im
  rw [sp c,ad]
  split <;> rfl
 | some m =>
  have an:=Wu ad
  rw [ad] at im
  dsimp only at im
  rw [BT,if_neg (by simp),TJ,Aa] at im
  by_cases hc:Pc w = (m.length:Int)
  ·rw [if_neg (by simp [hc])] at im
   have aq:∀ c,Ed (EJ s c) l = BS f (EJ s c) (w :: f) 1 m (f.length:Int):=fun c=>by
    rw [sp c,if_neg (by rw [hc,an]; simp),ad]
   rcases XS h a0 (ZQ ad) hc with ⟨F,⟨ok,s',g1,g2,g3,g4,g5⟩,hF⟩ | ⟨g,r,g1,g2,g3⟩
   ·refine ⟨Qj ok,s',g1,by cases ok <;> decide,g3,?_,fun c=>?_,fun e=>g2 (Acm e)⟩
    ·rw [im]
     rcases hF with ⟨g,rfl⟩ | ⟨g,rfl⟩
     ·simp only [Ja,List.mem_cons,List.not_mem_nil,or_false] at g
      have ab:(Option.bind (BJ s w m) fun u=>some (u.1,u.2)) = some (Qj ok,s'):=by rw [g4]; rfl
      rcases g with rfl | rfl | rfl | rfl | rfl <;> exact ab
     ·simp only [Pd,List.mem_cons,List.not_mem_nil,or_false] at g
      have ab:(Option.bind (CG s w m) fun u=>some (u.1,u.2)) = some (Qj ok,s'):=by rw [g4]; rfl
      rcases g with rfl | rfl | rfl <;> exact ab
    ·rw [aq c,BS,if_neg (by simp)]
     have ab:(Option.bind (Cz (EJ s c) w m) fun u=>Option.bind (Jh u.1) fun v=>some (v,u.2)) = some (Qj ok,EJ s' c):=by rw [g5,Aa,Abn]; rfl
     have ar:w ∈ Ja ++ Pd:=by
      rcases hF with ⟨g,_⟩ | ⟨g,_⟩
      ·exact At _ g
      ·exact Bi _ g
     simp only [Ja,Pd,List.cons_append,List.nil_append,List.mem_cons,List.not_mem_nil,or_false] at ar
     rcases ar with rfl | rfl | rfl | rfl | rfl | rfl | rfl | rfl <;> exact ab
   ·refine ⟨r,s,h,g1,Nat.le_succ _,?_,fun c=>?_,fun _=>rfl⟩
    ·rw [im]
     have ab:(Option.bind (Ca s w m) fun u=>some (u,s)) = some (r,s):=by rw [g2]; rfl
     simp only [LJ,List.mem_cons,List.not_mem_nil,or_false] at g
     rcases g with rfl | rfl | rfl | rfl | rfl | rfl | rfl | rfl | rfl <;> exact ab
    ·rw [aq c,BS,if_neg (by simp)]
     have ab:(Option.bind (C3 (EJ s c) w m) fun u=>some (u,EJ s c)) = some (r,EJ s c):=by rw [g3]; rfl
     simp only [LJ,List.mem_cons,List.not_mem_nil,or_false] at g
     rcases g with rfl | rfl | rfl | rfl | rfl | rfl | rfl | rfl | rfl <;> exact ab
  ·rw [if_pos (by simpa using fun e=>hc e.symm)] at im
   refine aw (fun c=>?_) im
   rw [sp c,if_pos (by rw [← an]; exact fun e=>hc e.symm)]
def LT (s:FT) (l:List Aj):List Aj × FT:=(Dv s l).getD ([],s)
def LE (s:FT):List (List Aj) → FT
 | []=>s
 | l :: ls=>LE (LT s l).2 ls
def Lp (s:FT):List (List Aj) → List (List Aj)
 | []=>[]
 | l :: ls=>(LT s l).1 :: Lp (LT s l).2 ls
theorem OA (l:List Aj):∀ (e:List (List Aj)) (s:FT),LE s (e ++ [l]) = (LT (LE s e) l).2
 | [],s=>rfl
 | a :: e,s=>OA l e (LT s a).2
theorem QH (l:List Aj):∀ (e:List (List Aj)) (s:FT),Lp s (e ++ [l]) = Lp s e ++ [(LT (LE s e) l).1]
 | [],s=>rfl
 | a :: e,s=>by rw [List.cons_append,Lp,QH l e,Lp,LE]; rfl
theorem Sn:∀ (e:List (List Aj)) (s:FT),(Lp s e).length = e.length
 | [],s=>rfl
 | a :: e,s=>by rw [Lp,List.length_cons,Sn e,List.length_cons]
def KN:FT:=([(0,0)],[(0,0)],8,[(4,120)],[],[((-1),0,0)])
theorem Acb:Ka KN:=⟨by decide,by decide,by decide,by decide,by decide⟩
theorem X0 {s:FT} {l r:List Aj} {e:FT} (h:VF s l r e):LT s l = (r,e):=by unfold LT; rw [h.im]; rfl
structure Aei (ls:List (List Aj)) (k:Nat):Prop where
 ok:Ka (LE KN (ls.take k))
 car:(LE KN (ls.take k)).2.2.2.2.1.length ≤ k
 rep:∀ r ∈ Lp KN (ls.take k),r.length ≤ 1000
theorem MP {α:Type} (l:List α) {k:Nat} (h:k < l.length):l.take (k + 1) = l.take k ++ [l[k]]:=List.take_succ_eq_append_getElem h
theorem O2 {l:List (List Aj)} (v:l.length ≤ 40) (s:∀ a ∈ l,a.length ≤ 2000):∀ k,k ≤ l.length → Aei l k
 | 0,_=>⟨Acb,Nat.le_refl _,fun r u=>by cases u⟩
 | k + 1,h=>by
  have f:=O2 v s k (by omega)
  have hc:=f.car
  obtain ⟨r,s',g⟩:=Va f.ok (by omega) (s l[k] (List.getElem_mem _))
  have e:=X0 g
  refine ⟨?_,?_,?_⟩
  ·rw [MP l (by omega),OA,e]; exact g.ok
  ·rw [MP l (by omega),OA,e]; exact Ay g.car (by omega)
  ·rw [MP l (by omega),QH,e]
   intro x m
   rcases AX.1 m with m | m
   ·exact f.rep x m
   ·rw [List.mem_singleton] at m; rw [m]; exact g.len
theorem We {e:List (List Aj)} (l:e.length ≤ 40) (h:∀ a ∈ e,a.length ≤ 2000) {k:Nat} (m:k < e.length):VF (LE KN (e.take k)) e[k] (LT (LE KN (e.take k)) e[k]).1 (LE KN (e.take (k + 1))):=by
 have f:=O2 l h k (by omega)
 have s:=f.car
 obtain ⟨r,u,g⟩:=Va f.ok (by omega) (h e[k] (List.getElem_mem _))
 rw [MP e m,OA,X0 g]
 exact g
theorem UU (e:List (List Aj)) {k:Nat} (f:k < e.length):Lp KN (e.take (k + 1)) = Lp KN (e.take k) ++ [(LT (LE KN (e.take k)) e[k]).1]:=by rw [MP e f,QH]
def Of (p:List Aj → Bool) (rs:List (List Aj)):List Int:=((List.range rs.length).filter fun i=>p ((rs[i]?).getD [])).map fun (i:Nat)=>(i:Int) + 1
theorem Vd (p:List Aj → Bool) (e:List (List Aj)) (r:List Aj):Of p (e ++ [r]) = Of p e ++ if p r = true then [(e.length:Int) + 1] else []:=by
 unfold Of
 rw [CM,List.length_singleton,List.range_succ,List.filter_append,List.map_append]
 have f:(List.range e.length).filter (fun i=>p (((e ++ [r])[i]?).getD [])) = (List.range e.length).filter fun i=>p ((e[i]?).getD []):=by
  refine List.filter_congr fun i h=>?_
  rw [List.getElem?_append_left (List.mem_range.1 h)]
 rw [f,List.filter_cons]
 have g:(e ++ [r])[e.length]? = some r:=by simp
 rw [g]
 cases l:p r <;> simp [l]
def XC (r:List Aj):Bool:=r == [110,111]
def VG (r:List Aj):Bool:=r == [119,104,97,116]
theorem W3 (p:List Aj → Bool) (e:List (List Aj)):(Of p e).length ≤ e.length:=by
 unfold Of
 rw [List.length_map]
 exact Ay (List.length_filter_le _ _) (by simp)
structure Aeh (l:List Aj):Prop where
 n40:(D5 l).length ≤ 40
 each:∀ a ∈ D5 l,a.length ≤ 2000
theorem QG {l:List Aj} (h:GQ l = true):Aeh l:=by
 obtain ⟨h1,f,g⟩:=GP.1 h
 exact ⟨by rw [PQ f]; exact g,fun a e=>Ay (Yf e) h1⟩
def Un (l:List Aj):FT:=LE KN (D5 l)
def QI (l:List Aj):List (List Aj):=Lp KN (D5 l)
theorem Ua {l:List Aj} (s:l.length ≤ 4194304):IJ l = some (if GQ l = true then ((true,Un l),QI l,true) else ((false,([],[],0,[],[],[])),[],false)):=by
 unfold IJ
 rw [TQ l s,Aa]
 unfold N9
 cases h:GQ l with
 | false=>rfl
 | true =>
  have f:=QG h
  rw [if_pos rfl,if_neg (by simp),if_pos rfl]
  unfold KI
  rw [Aa]
  refine Eq.trans (EM (fun m (z:FT × List (List Aj)) k=>Eu (D5 l,true) m z.1 z.2 k) (D5 l).length (fun k=>(LE KN ((D5 l).take k),Lp KN ((D5 l).take k))) (some ((true,Un l),QI l,true)) (by have:=f.n40; omega) (j:=0) (by omega) (fun m k _ e=>?_) (fun m=>?_)) rfl
  ·have g:=We f.n40 f.each e
   have u:=Sn ((D5 l).take k) KN
   rw [List.length_take,Nat.min_eq_left (by omega)] at u
   have v:=f.n40
   rw [Eu,if_pos (by simp; omega),AY,Cp e,Aa,g.im,Aa,Bt (by simp; omega),Aa,AD (by omega),UU _ e]
  ·rw [Eu,if_neg (by simp),List.take_length]
   rfl
def ctK (rs:List (List Aj)):CtT:=(Of XC rs,Of VG rs,0)
theorem XY {l:List Aj} (hl:l.length ≤ 4194304):KY l = some (if GQ l = true then (EJ (Un l) (Of XC (QI l),Of VG (QI l),((D5 l).length:Int)),KG (QI l),true) else (EJ KN ([],[],0),[],false)):=by
 unfold KY Li
 rw [Yo l hl,Aa,Aa]
 unfold N9
 cases h:GQ l with
 | false=>rfl
 | true =>
  have f:=QG h
  have ah:=f.n40
  rw [if_pos rfl,if_neg (by simp),if_pos rfl]
  refine Eq.trans (EM (fun m (z:SpT × List Aj) k=>Gd (D5 l,true) m z.1 z.2 k) (D5 l).length (fun k=>(EJ (LE KN ((D5 l).take k)) (ctK (Lp KN ((D5 l).take k))),KG (Lp KN ((D5 l).take k)))) (some (EJ (Un l) (Of XC (QI l),Of VG (QI l),((D5 l).length:Int)),KG (QI l),true)) (by omega) (j:=0) (by omega) (fun m k _ hk=>?_) (fun m=>?_)) rfl
  ·have g:=We f.n40 f.each hk
   have hr:=Sn ((D5 l).take k) KN
   have ac:=(O2 f.n40 f.each k (by omega)).rep
   rw [List.length_take,Nat.min_eq_left (by omega)] at hr
   have hj:=Vb 1000 _ ac
   have h1:=W3 XC (Lp KN ((D5 l).take k))
   have h2:=W3 VG (Lp KN ((D5 l).take k))
   have ai:=g.len
   rw [Gd,if_pos (by simp; omega),AY,Cp hk,Aa,g.sp,Aa,UU _ hk]
   generalize (LT (LE KN ((D5 l).take k)) (D5 l)[k]).1 = r at *
   unfold Bk ctK EJ
   dsimp only
   rw [Wy,Vd,Vd,hr,AD (by omega)]
   have ej:KG [r] = r ++ [10]:=by unfold KG; simp
   rw [ej]
   by_cases e:r = [110,111]
   ·have v:XC r = true:=by rw [e]; rfl
    have s:VG r = false:=by rw [e]; rfl
    rw [if_pos (by rw [e]; rfl),v,s,if_pos rfl,if_neg (c:=false = true) (by simp),List.append_nil,Bt (by simp; omega),Aa,Bt (by simp; omega),Aa,Bt (by simp; omega),Aa]
    rfl
   ·have v:XC r = false:=beq_eq_false_iff_ne.2 e
    rw [if_neg (by simpa using e),v,if_neg (c:=false = true) (by simp),List.append_nil]
    by_cases u:r = [119,104,97,116]
    ·have s:VG r = true:=by rw [u]; rfl
     rw [if_pos (by rw [u]; rfl),s,if_pos rfl,Bt (by simp; omega),Aa,Bt (by simp; omega),Aa,Bt (by simp; omega),Aa]
     rfl
    ·have s:VG r = false:=beq_eq_false_iff_ne.2 u
     rw [if_neg (by simpa using u),s,if_neg (c:=false = true) (by simp),List.append_nil,Bt (by simp; omega),Aa,Bt (by simp; omega),Aa]
  ·rw [Gd,if_neg (by simp),List.take_length]
   rfl
def MV (l:List Aj):Aev × Bool:=if GQ l = true then ((Un l).2.2.2.1,true) else ([],false)
theorem Tw {l:List Aj} (e:l.length ≤ 4194304):Hi l = some (MV l):=by
 unfold Hi MV
 rw [Ua e,Aa]
 cases GQ l <;> rfl
theorem SY {l:List Aj} (e:l.length ≤ 4194304):Ih l = some (MV l):=by
 unfold Ih MV
 rw [XY e,Aa]
 cases GQ l <;> rfl
theorem Abm {l:List Aj} (h:GQ l = true):Ka (Un l):=by
 have f:=QG h
 have g:=(O2 f.n40 f.each _ (Nat.le_refl _)).ok
 rwa [List.take_length] at g
theorem Yd (l:List Aj):(MV l).1.length ≤ 40:=by
 unfold MV
 cases h:GQ l with
 | false=>simp
 | true=>exact (LQ (Abm h).mu).2.1
theorem Ok (l:List Aj) {G:Prop} (_:G):GV l = some true:=by
 unfold GV
 by_cases h:1048576 < (l.length:Int)
 ·rw [if_pos (decide_eq_true h)]
 ·have v:=Yd l
  obtain ⟨g,s,f,br,cr,u,m⟩:=Xo (MV l).1 (by omega) 1 (by decide) (by unfold PD; omega)
  have q:=Xt (MV l).1 ⟨by omega,fun _ _=>trivial⟩
  have e:¬ g < 0:=by omega
  rw [if_neg (by simpa using h),SY (by omega),Aa,Tw (by omega)]
  simp [Bk,q,f,m,e]
end Go.Proofs.YtellehgihceicaaGreatDoor
