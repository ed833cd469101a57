/-
 WHAT THE LAWS ON SHOWS HAND OVER AND TAKE BACK, PLAIN.
-/
import Derived.Test.YtellehgihceicaaGreatDoorPH
import Derived.Test.YtellehgihceicaaGreatDoorPB2
set_option linter.unusedVariables false
set_option linter.unusedSimpArgs false
set_option maxHeartbeats 1600000
namespace Go.Proofs.YtellehgihceicaaGreatDoor
open Go
theorem ZB {α:Type} (f:Nat → List α → Int → Int → Ag (List α)) (g:List α) (h:g.length ≤ 9223372036854775807)
  (u:∀ m l y z,f (m + 1) l y z = if (decide (y < z)) = true then Option.bind (AM l z) fun a=>Option.bind (AM l y) fun b=>Option.bind (AM l y) fun _=>Option.bind (AM (BF l y a) z) fun _=>f m (BF (BF l y a) z b) (Af (y + 1)) (Af (z - 1)) else some l) :
  f FU g 0 (Af ((List.length g:Int) - 1)) = some g.reverse:=by
 have aa:∀ (P T:List α) (x:α) (y:Int),y = (P.length:Int) → AM (P ++ x :: T) y = some x:=by
  intro P T x y e; unfold AM; rw [if_pos (by omega),show y.toNat = P.length by omega]; simp
 have ag:∀ (P T:List α) (x z:α) (y:Int),y = (P.length:Int) → BF (P ++ x :: T) y z = P ++ z :: T:=by
  intro P T x z y e; unfold BF; rw [show y.toNat = P.length by omega]; simp
 have am:∀ (n:Nat) (M A B:List α) (m:Nat) (y z:Int),M.length ≤ 2 * n + 1 → n < m → y = (A.length:Int) → z = (A.length:Int) + (M.length:Int) - 1 → A.length + M.length ≤ 9223372036854775807 → f m (A ++ M ++ B) y z = some (A ++ M.reverse ++ B):=by
  intro n
  induction n with
  | zero =>
   intro M A B m y z hn hm hy s hl
   cases m with
   | zero=>omega
   | succ m =>
    match M,hn with
    | [],_=>rw [u,if_neg (by simp at s ⊢; omega)]; simp
    | [a],_=>rw [u,if_neg (by simp at s ⊢; omega)]; simp
  | succ n ih =>
   intro M A B m y z hn hm hy s hl
   cases m with
   | zero=>omega
   | succ m =>
    match M with
    | []=>rw [u,if_neg (by simp at s ⊢; omega)]; simp
    | a :: M' =>
     rcases List.eq_nil_or_concat M' with rfl | ⟨M2,b,rfl⟩
     ·rw [u,if_neg (by simp at s ⊢; omega)]; simp
     ·rw [List.concat_eq_append] at *
      have v:z = (A.length:Int) + (M2.length:Int) + 1:=by rw [s]; simp; omega
      have aq:A.length + M2.length + 2 ≤ 9223372036854775807:=by simp at hl; omega
      have e1:A ++ a :: (M2 ++ [b]) ++ B = (A ++ a :: M2) ++ b :: B:=by simp
      have e2:A ++ a :: (M2 ++ [b]) ++ B = A ++ a :: (M2 ++ [b] ++ B):=by simp
      have i1:AM (A ++ a :: (M2 ++ [b]) ++ B) z = some b:=by rw [e1]; exact aa _ _ _ _ (by rw [v]; simp; omega)
      have i2:AM (A ++ a :: (M2 ++ [b]) ++ B) y = some a:=by rw [e2]; exact aa _ _ _ _ hy
      have s1:BF (A ++ a :: (M2 ++ [b]) ++ B) y b = (A ++ b :: M2) ++ b :: B:=by rw [e2,ag _ _ _ _ _ hy]; simp
      have i3:AM ((A ++ b :: M2) ++ b :: B) z = some b:=aa _ _ _ _ (by rw [v]; simp; omega)
      have s2:BF ((A ++ b :: M2) ++ b :: B) z a = (A ++ [b]) ++ M2 ++ a :: B:=by rw [ag _ _ _ _ _ (by rw [v]; simp; omega)]; simp
      rw [u,if_pos (by simp; omega),i1,Aa,i2,Aa,Aa,s1,i3,Aa,s2,A6 (x:=y + 1) (by omega) (by omega),A6 (x:=z - 1) (by omega) (by omega)]
      have:=ih M2 (A ++ [b]) (a :: B) m (y + 1) (z - 1) (by simp at hn; omega) (by omega) (by simp; omega) (by simp; omega) (by simp; omega)
      rw [this]
      simp
 have:=am (g.length / 2) g [] [] FU 0 (Af ((List.length g:Int) - 1)) (by omega) (show g.length / 2 < 4611686018427387904 by omega) rfl (by rw [A6 (by omega) (by omega)]; simp) (by simpa using h)
 simpa using this
theorem ZC (x:List Int) (h:x.length < 4611686018427387904):Em x = some x.reverse:=by
 unfold Em
 exact ZB CS x (by omega) (fun m l y z=>by rw [CS]; rfl)
def MinSq (l:List (Int × Int)) (v:Int):Prop:=(∃ a b,a < b ∧ b < l.length ∧ v = GK (DX l a) (DX l b)) ∧ ∀ a b,a < b → b < l.length → v ≤ GK (DX l a) (DX l b)
theorem MinSq.uniq {l:List (Int × Int)} {v w:Int} (h:MinSq l v) (g:MinSq l w):v = w:=by
 obtain ⟨⟨a,b,h1,f,h3⟩,h4⟩:=h
 obtain ⟨⟨s,b',e,m,g3⟩,u⟩:=g
 have:=h4 s b' e m
 have:=u a b h1 f
 omega
def Lq (i k a b:Nat):Prop:=a < b ∧ (a < i ∨ (a = i ∧ b < k))
theorem XT {l:List (Int × Int)} (hc:Cu l = true) (h2:2 ≤ l.length):∃ v,EC l = some (v,true) ∧ MinSq l v:=by
 have ap:=(Dc hc).2
 have ao:=fun a b (ha:a < l.length) (hb:b < l.length)=>(LL (I3 hc ha) (I3 hc hb)).2
 have al:∃ z:Int × Int,HI l = some z ∧ ∃ a b:Nat,z = ((a:Int),(b:Int)) ∧ a < b ∧ b < l.length ∧ ∀ g f,g < f → f < l.length → GK (DX l a) (DX l b) ≤ GK (DX l g) (DX l f):=by
  unfold HI
  refine Exists.elim (J8 (fun (_:Unit) m (z:Int × Int) i=>DR l m z.1 z.2 i) l.length (fun i z=>∃ a b:Nat,z = ((a:Int),(b:Int)) ∧ a < b ∧ b < l.length ∧ ∀ g f,Lq i 0 g f → f < l.length → GK (DX l a) (DX l b) ≤ GK (DX l g) (DX l f))
   (fun _ z=>some z) (by omega) (fun i z _ hi hz=>?_) (fun z hz j m=>?_) (b:=0) (by omega) (s:=(0,1)) ⟨0,1,rfl,by omega,by omega,fun g f h=>by unfold Lq at h; omega⟩) ?_
  ·obtain ⟨a,b,rfl,ac,u,ab⟩:=hz
   refine Exists.elim (J8 (fun (nx:Int → Int → Int → Ag (Int × Int)) m (z:Int × Int) k=>Du l (i:Int) nx m z.1 z.2 k) l.length (fun k z=>∃ a b:Nat,z = ((a:Int),(b:Int)) ∧ a < b ∧ b < l.length ∧ ∀ g f,Lq i k g f → f < l.length → GK (DX l a) (DX l b) ≤ GK (DX l g) (DX l f))
    (fun nx z=>nx z.1 z.2 ((i + 1:Nat):Int)) (by omega) (fun k z aq hk hz=>?_) (fun z hz j m=>?_) (b:=i + 1) (by omega) (s:=((a:Int),(b:Int))) ⟨a,b,rfl,ac,u,fun g f h ad=>ab g f (by unfold Lq at h ⊢; omega) ad⟩) ?_
   ·obtain ⟨a,b,rfl,ac,u,ab⟩:=hz
    by_cases aj:GK (DX l i) (DX l k) < GK (DX l a) (DX l b)
    ·refine ⟨((i:Int),(k:Int)),⟨i,k,rfl,by omega,hk,fun g f h ad=>?_⟩,fun nx m=>?_⟩
     ·by_cases e:g = i ∧ f = k
      ·rw [e.1,e.2]; exact Int.le_refl _
      ·have:=ab g f (by unfold Lq at h ⊢; omega) ad
       omega
     ·rw [Du,if_pos (by simp; omega)]
      unfold Fz
      dsimp only
      rw [AY,Dr hi,Aa,AY,Dr hk,Aa,AY,Dr (by omega),Aa,AY,Dr u,Aa,Hi,Aa,Hi,Aa,if_pos (decide_eq_true aj),AD (by omega)]
    ·refine ⟨((a:Int),(b:Int)),⟨a,b,rfl,ac,u,fun g f h ad=>?_⟩,fun nx m=>?_⟩
     ·by_cases e:g = i ∧ f = k
      ·rw [e.1,e.2]; omega
      ·exact ab g f (by unfold Lq at h ⊢; omega) ad
     ·rw [Du,if_pos (by simp; omega)]
      unfold Fz
      dsimp only
      rw [AY,Dr hi,Aa,AY,Dr hk,Aa,AY,Dr (by omega),Aa,AY,Dr u,Aa,Hi,Aa,Hi,Aa,if_neg (by simpa using aj),AD (by omega)]
   ·rw [Du,if_neg (by simp),AD (by omega)]
   ·rintro z ⟨⟨a,b,rfl,ac,u,ab⟩,hz⟩
    refine ⟨((a:Int),(b:Int)),⟨a,b,rfl,ac,u,fun g f h ad=>ab g f (by unfold Lq at h ⊢; omega) ad⟩,fun _ m=>?_⟩
    dsimp only at hz ⊢
    rw [DR,if_pos (by simp; omega),AD (by omega)]
    exact hz _
  ·rw [DR,if_neg (by simp)]
  ·rintro z ⟨⟨a,b,rfl,ac,u,ab⟩,hz⟩
   exact ⟨_,hz (),a,b,rfl,ac,u,fun g f h ad=>ab g f (by unfold Lq; omega) ad⟩
 obtain ⟨z,e,a,b,rfl,ac,u,ab⟩:=al
 refine ⟨GK (DX l a) (DX l b),?_,⟨a,b,ac,u,rfl⟩,ab⟩
 unfold EC Bk
 dsimp only
 rw [GO l (by omega),Aa,hc,if_neg (by simp),if_neg (by simp; omega),e,Aa,AY,Dr (by omega),Aa,AY,Dr u,Aa,Hi,Aa]
theorem XI {l:List (Int × Int)} (hc:Cu l = true) (h2:2 ≤ l.length):∃ v,Ed l = some (v,true) ∧ MinSq l v:=by
 have a2:=(Dc hc).2
 have ak:=fun a b (ha:a < l.length) (hb:b < l.length)=>(LL (I3 hc ha) (I3 hc hb)).2.1
 have ar:∃ z:Int × Int × Int,JG l = some z ∧ MinSq l z.2.2:=by
  unfold JG
  refine Exists.elim (J8 (fun (_:Unit) m (z:Int × Int × Int) i=>Fd l m z.1 z.2.1 z.2.2 i) l.length (fun i z=>(z.2.2 = -1 ∧ i = 0) ∨ ((∃ a b,a < b ∧ b < l.length ∧ z.2.2 = GK (DX l a) (DX l b)) ∧ ∀ g f,Lq i 0 g f → f < l.length → z.2.2 ≤ GK (DX l g) (DX l f)))
   (fun _ z=>some z) (by omega) (fun i z _ hi u=>?_) (fun z u j m=>?_) (b:=0) (by omega) (s:=(0,0,-1)) (.inl ⟨rfl,rfl⟩)) ?_
  ·refine Exists.elim (J8 (fun (nx:Int → Int → Int → Int → Ag (Int × Int × Int)) m (z:Int × Int × Int) k=>D4 l (DX l i) (i:Int) nx m z.1 z.2.1 z.2.2 k) l.length (fun k z=>(z.2.2 = -1 ∧ i = 0 ∧ k = 1) ∨ ((∃ a b,a < b ∧ b < l.length ∧ z.2.2 = GK (DX l a) (DX l b)) ∧ ∀ g f,Lq i k g f → f < l.length → z.2.2 ≤ GK (DX l g) (DX l f)))
    (fun nx z=>nx z.1 z.2.1 z.2.2 ((i + 1:Nat):Int)) (by omega) (fun k z a3 hk u=>?_) (fun z u j m=>?_) (b:=i + 1) (by omega) (s:=z) ?_) ?_
   ·have hs:=ak i k hi hk
    have aj:∀ (nx:Int → Int → Int → Int → Ag (Int × Int × Int)) m,D4 l (DX l i) (i:Int) nx (m + 1) z.1 z.2.1 z.2.2 (k:Int) = if z.2.2 < 0 ∨ GK (DX l i) (DX l k) < z.2.2 then D4 l (DX l i) (i:Int) nx m (i:Int) (k:Int) (GK (DX l i) (DX l k)) ((k + 1:Nat):Int) else D4 l (DX l i) (i:Int) nx m z.1 z.2.1 z.2.2 ((k + 1:Nat):Int):=by
     intro nx m
     rw [D4,if_pos (by simp; omega)]
     unfold Wt Bk
     dsimp only
     rw [AY,Dr hk,Aa,L3,Aa,AD (by omega)]
     by_cases h1:z.2.2 < 0
     ·rw [if_pos (decide_eq_true h1),if_pos rfl,if_pos (.inl h1)]
     ·rw [if_neg (by simpa using h1)]
      by_cases h3:GK (DX l i) (DX l k) < z.2.2
      ·rw [if_pos (decide_eq_true h3),if_pos (.inr h3)]
      ·rw [if_neg (by simpa using h3),if_neg (by omega)]
    by_cases al:z.2.2 < 0 ∨ GK (DX l i) (DX l k) < z.2.2
    ·refine ⟨((i:Int),(k:Int),GK (DX l i) (DX l k)),.inr ⟨⟨i,k,by omega,hk,rfl⟩,fun g f h ac=>?_⟩,fun nx m=>?_⟩
     ·dsimp only
      by_cases e:g = i ∧ f = k
      ·rw [e.1,e.2]; exact Int.le_refl _
      ·rcases u with ⟨an,am,ah⟩ | ⟨⟨a,b,g1,g2,g3⟩,u⟩
       ·unfold Lq at h; omega
       ·have:=u g f (by unfold Lq at h ⊢; omega) ac
        have:=ak a b (by omega) g2
        omega
     ·exact (aj nx m).trans (if_pos al)
    ·refine ⟨z,.inr ⟨?_,fun g f h ac=>?_⟩,fun nx m=>(aj nx m).trans (if_neg al)⟩
     ·rcases u with ⟨an,am,ah⟩ | ⟨u,_⟩
      ·omega
      ·exact u
     ·rcases u with ⟨an,am,ah⟩ | ⟨_,u⟩
      ·omega
      ·by_cases e:g = i ∧ f = k
       ·rw [e.1,e.2]; omega
       ·exact u g f (by unfold Lq at h ⊢; omega) ac
   ·rw [D4,if_neg (by simp),AD (by omega)]
   ·rcases u with ⟨h1,h3⟩ | ⟨h1,h3⟩
    ·exact .inl ⟨h1,h3,by omega⟩
    ·exact .inr ⟨h1,fun g f h ac=>h3 g f (by unfold Lq at h ⊢; omega) ac⟩
   ·rintro z' ⟨ap,ag⟩
    refine ⟨z',?_,fun _ m=>?_⟩
    ·rcases ap with ⟨h1,h3,h4⟩ | ⟨h1,h3⟩
     ·omega
     ·exact .inr ⟨h1,fun g f h ac=>h3 g f (by unfold Lq at h ⊢; omega) ac⟩
    ·rw [Fd,if_pos (by simp; omega),AY,Dr hi,Aa,AD (by omega)]
     exact ag _
  ·rw [Fd,if_neg (by simp)]
  ·rintro z ⟨u,ag⟩
   refine ⟨z,ag (),?_⟩
   rcases u with ⟨h1,h3⟩ | ⟨h1,h3⟩
   ·omega
   ·exact ⟨h1,fun g f h ac=>h3 g f (by unfold Lq; omega) ac⟩
 obtain ⟨z,e,hm⟩:=ar
 refine ⟨z.2.2,?_,hm⟩
 unfold Ed Bk
 dsimp only
 rw [Jy l (by omega),Aa,hc,if_neg (by simp),if_neg (by simp; omega),e,Aa]
def MU (l:List (Int × Int)):Int × Bool:=(Ed l).getD (0,false)
theorem Sx {l:List (Int × Int)} (e:Cu l = true):EC l = some (MU l) ∧ Ed l = some (MU l) ∧ 0 ≤ (MU l).1 ∧ (MU l).1 ≤ 100000000:=by
 have aa:=Dc e
 by_cases h:2 ≤ l.length
 ·obtain ⟨v,f,m⟩:=XT e h
  obtain ⟨w,g,s⟩:=XI e h
  have:=m.uniq s
  subst this
  unfold MU
  rw [f,g]
  obtain ⟨⟨a,b,h1,u,h4⟩,_⟩:=m
  have:=(LL (I3 e (by omega:a < l.length)) (I3 e u)).2
  exact ⟨rfl,rfl,by dsimp only [Option.getD]; omega,by dsimp only [Option.getD]; omega⟩
 ·have f:Ed l = some (0,false):=by
   unfold Ed Bk
   dsimp only
   rw [Jy l (by omega),Aa,e,if_neg (by simp),if_pos (by simp; omega)]
  have g:EC l = some (0,false):=by
   unfold EC Bk
   dsimp only
   rw [GO l (by omega),Aa,e,if_neg (by simp),if_pos (by simp; omega)]
  unfold MU
  rw [f,g]
  exact ⟨rfl,rfl,by simp,by simp⟩
def Mw (q:Int) (t:Nat):Bool:=decide (1000000 * q ≤ 23040000 * ((t:Int) * (t:Int)))
theorem XL {t:Nat} (f:t ≤ 1000):Af ((Af ((Af (4800 * (t:Int))) * 4800)) * (t:Int)) = 23040000 * ((t:Int) * (t:Int)):=by
 have h1:=Ma (x:=(t:Int)) (y:=(t:Int)) (A:=1000) (B:=1000) (by omega) (by omega) (by omega) (by omega)
 rw [A6 (x:=4800 * (t:Int)) (by omega) (by omega),A6 (x:=4800 * (t:Int) * 4800) (by omega) (by omega)]
 have e:4800 * (t:Int) * 4800 * (t:Int) = 23040000 * ((t:Int) * (t:Int)):=by grind
 rw [e,A6 (by omega) (by omega)]
theorem Wa {q:Int} {t t':Nat} (h:t ≤ t') (f:Mw q t = true):Mw q t' = true:=by
 unfold Mw at *
 rw [C9] at *
 have h1:=Nat.mul_le_mul h h
 have e:=Int.ofNat_le.2 h1
 rw [Int.natCast_mul,Int.natCast_mul] at e
 omega
theorem Xt {q:Int} (f:q ≤ 2089984) {t:Nat} (e:302 ≤ t):Mw q t = true:=by
 refine Wa e ?_
 unfold Mw
 rw [C9]
 omega
def IsT (q:Int) (v:Nat):Prop:=Mw q v = true ∧ ∀ t,t < v → Mw q t = false
theorem IsT.uniq {q:Int} {v w:Nat} (h:IsT q v) (f:IsT q w):v = w:=by
 rcases Nat.lt_trichotomy v w with e | e | e
 ·have:=f.2 v e; rw [h.1] at this; cases this
 ·exact e
 ·have:=h.2 w e; rw [f.1] at this; cases this
theorem Zb {q:Int} (h0:0 ≤ q) (hq:q ≤ 2089984):∃ v:Nat,v ≤ 302 ∧ DF q FU 0 = some (v:Int) ∧ IsT q v:=by
 have s:∀ (d t m:Nat),302 - t = d → t ≤ 302 → d < m → (∀ t',t' < t → Mw q t' = false) → ∃ v:Nat,v ≤ 302 ∧ DF q m (t:Int) = some (v:Int) ∧ IsT q v:=by
  intro d
  induction d with
  | zero =>
   intro t m hd u hm l
   have:t = 302:=by omega
   subst this
   cases m with
   | zero=>omega
   | succ m =>
    have g:=Xt hq (t:=302) (by omega)
    have f:=g
    unfold Mw at f
    rw [C9] at f
    refine ⟨302,by omega,?_,g,l⟩
    rw [DF,XL (by omega),A6 (x:=1000000 * q) (by omega) (by omega),if_neg (by rw [C9]; omega)]
  | succ d ih =>
   intro t m hd u hm l
   cases m with
   | zero=>omega
   | succ m =>
    rw [DF,XL (by omega),A6 (x:=1000000 * q) (by omega) (by omega)]
    cases g:Mw q t with
    | true =>
     have f:=g
     unfold Mw at f
     rw [C9] at f
     rw [if_neg (by rw [C9]; omega)]
     exact ⟨t,by omega,rfl,g,l⟩
    | false =>
     have f:=g
     unfold Mw at f
     rw [decide_eq_false_iff_not] at f
     rw [if_pos (by rw [C9]; omega),AD (by omega)]
     refine ih (t + 1) m (by omega) (by omega) (by omega) (fun t' h=>?_)
     by_cases e:t' = t
     ·rw [e]; exact g
     ·exact l t' (by omega)
 exact s 302 0 FU rfl (by omega) (DH (by omega)) (fun t' h=>by omega)
theorem Yx {q:Int} (h0:0 ≤ q) (hq:q ≤ 2089984):∃ v:Nat,Kh q = some (v:Int) ∧ IsT q v:=by
 have ac:∀ (d e f m:Nat),f - e ≤ d → e ≤ f → f ≤ 1000 → d < m → (∀ t,t < e → Mw q t = false) → Mw q f = true → ∃ v:Nat,EG q m (e:Int) (f:Int) = some (v:Int) ∧ IsT q v:=by
  intro d
  induction d with
  | zero =>
   intro e f m hd h1 h2 hm l u
   have:e = f:=by omega
   subst this
   cases m with
   | zero=>omega
   | succ m=>exact ⟨e,by rw [EG,if_neg (by simp)],u,l⟩
  | succ d ih =>
   intro e f m hd h1 h2 hm l u
   cases m with
   | zero=>omega
   | succ m =>
    rw [EG]
    by_cases aj:e < f
    ·have em:Af (Int.tdiv (Af ((e:Int) + (f:Int))) 2) = (((e + f) / 2:Nat):Int):=by
      rw [A6 (x:=(e:Int) + f) (by omega) (by omega),Int.tdiv_eq_ediv_of_nonneg (by omega),A6 (by omega) (by omega)]
      omega
     rw [if_pos (by simp; omega),em,XL (by omega),A6 (x:=1000000 * q) (by omega) (by omega)]
     cases s:Mw q ((e + f) / 2) with
     | true =>
      have g:=s
      unfold Mw at g
      rw [if_pos g]
      exact ih e _ m (by omega) (by omega) (by omega) (by omega) l s
     | false =>
      have g:=s
      unfold Mw at g
      rw [g,if_neg (by simp),AD (by omega)]
      refine ih ((e + f) / 2 + 1) f m (by omega) (by omega) h2 (by omega) (fun t ht=>?_) u
      cases hx:Mw q t with
      | false=>rfl
      | true=>have:=Wa (t':=(e + f) / 2) (by omega) hx; rw [s] at this; cases this
    ·have:e = f:=by omega
     subst this
     exact ⟨e,by rw [if_neg (by simp)],u,l⟩
 unfold Kh
 exact ac 1000 0 1000 FU (by omega) (by omega) (by omega) (DH (by omega)) (fun t h=>by omega) (Xt hq (by omega))
def NK (a b:Int × Int):Int × Bool:=(G3 a b).getD (0,false)
theorem Uo {a b:Int × Int} (e:CX a = true) (f:CX b = true):G3 a b = some (NK a b) ∧ H1 a b = some (NK a b) ∧ 0 ≤ (NK a b).1 ∧ (NK a b).1 ≤ 302:=by
 obtain ⟨_,h,g⟩:=LL e f
 obtain ⟨v,v1,v2,s⟩:=Zb h g
 obtain ⟨w,w1,u⟩:=Yx h g
 have:=s.uniq u
 subst this
 have l:G3 a b = some ((v:Int),true):=by
  unfold G3 Ka Bk
  dsimp only
  rw [Lw,Aa,e,if_neg (by simp),Lw,Aa,f,Hi,Aa,v2]
  rfl
 have m:H1 a b = some ((v:Int),true):=by
  unfold H1 Mk Le Bk
  dsimp only
  rw [OI,Aa,e,if_pos rfl,OI,Aa,f,L3,Aa,Aa,w1]
  rfl
 unfold NK
 rw [l,m]
 exact ⟨rfl,rfl,by dsimp only [Option.getD]; omega,by dsimp only [Option.getD]; omega⟩
def MK (load count:Int) (x:BL):Bool:=decide (x.2.1 = load) && (decide (x.2.2.1 ≤ count) && decide (count < x.2.2.2))
def MX (l:List BL) (load count:Int):Int × Bool:=if (BJ load 1 9 && BJ count 0 999) = true then (match (List.range l.length).find? fun i=>MK load count (CN l i) with
  | some i=>((CN l i).1,true)
  | none=>(0,false)) else (0,false)
theorem Um {l:List BL} (h:Fv l = true):∀ x ∈ l,Lv x:=by
 intro x e
 have:=MW.1 ((Hg.1 h).2.1 x e)
 unfold Lv
 omega
theorem Ur {l:List BL} {k:Nat} (h:k < l.length):l[k]? = some (CN l k):=by rw [FR h]; exact Cp h
theorem TW {l:List BL} (h:Fv l = true) (e f:Int):IF l e f = some (MX l e f):=by
 have u:=(Hg.1 h).1
 unfold IF Bk MX
 dsimp only
 rw [O2 (by omega) (Um h),Aa,h,CT,Aa,CT,Aa]
 cases BJ e 1 9 with
 | false=>rfl
 | true =>
  cases BJ f 0 999 with
  | false=>rfl
  | true =>
   rw [if_neg (by simp),if_neg (by simp),if_neg (by simp),if_pos (c:=(true && true) = true) rfl]
   rw [Th (Eu l e f) l.length (fun i=>MK e f (CN l i)) (fun i=>some ((CN l i).1,true)) (some (0,false)) (by omega) (fun m k s=>?_) (fun m=>?_)]
   ·cases (List.range l.length).find? fun i=>MK e f (CN l i) <;> rfl
   ·rw [Eu,if_pos (by simp; omega),AY,Ur s,Aa,AD (by omega)]
    unfold Bk MK
    dsimp only
    by_cases h1:(CN l k).2.1 = e
    ·rw [if_pos (by simpa using h1),decide_eq_true h1]
     by_cases g:(CN l k).2.2.1 ≤ f
     ·rw [if_pos (by simpa using g),decide_eq_true g]; rfl
     ·rw [if_neg (by simpa using g),decide_eq_false g]; rfl
    ·rw [if_neg (by simpa using h1),decide_eq_false h1]; rfl
   ·rw [Eu,if_neg (by simp)]
theorem Y0 {l:List BL} (h:Fv l = true) {g f:Int} (hl:1 ≤ g):Kx l g 0 f = some (TX ((List.range l.length).find? fun i=>MK g f (CN l i))):=by
 have v:=(Hg.1 h).1
 unfold Kx
 rw [Th (GA l g 0 f) l.length (fun i=>MK g f (CN l i)) (fun i=>some (i:Int)) (some (-1)) (by omega) (fun m k s=>?_) (fun m=>?_)]
 ·cases (List.range l.length).find? fun i=>MK g f (CN l i) <;> rfl
 ·have u:=MW.1 ((Hg.1 h).2.1 _ (IU s))
  rw [GA,if_pos (by simp; omega),AY,Ur s,Aa,AD (by omega)]
  unfold Bk MK
  dsimp only
  rw [if_neg (by simp; omega),if_pos (c:=((0:Int) == 0) = true) rfl,A6 (by omega) (by omega),CU,Aa]
  by_cases h1:(CN l k).2.1 = g
  ·rw [if_pos (by simpa using h1),decide_eq_true h1]
   have e:BJ f (CN l k).2.2.1 ((CN l k).2.2.2 - 1) = (decide ((CN l k).2.2.1 ≤ f) && decide (f < (CN l k).2.2.2)):=by
    rw [Bool.eq_iff_iff,D9]
    simp
    omega
   rw [e,Bool.true_and]
  ·rw [if_neg (by simpa using h1),decide_eq_false h1]; rfl
 ·rw [GA,if_neg (by simp)]
theorem TH {l:List BL} (h:Fv l = true) (e f:Int):I9 l e f = some (MX l e f):=by
 have v:=(Hg.1 h).1
 unfold I9 Jd Lh Bk MX
 dsimp only
 rw [RP (by omega) (Um h),Aa,h,CU,Aa,Aa,CU,Aa,Aa]
 cases s:BJ e 1 9 with
 | false=>rfl
 | true =>
  cases BJ f 0 999 with
  | false=>rfl
  | true =>
   have u:=D9.1 s
   rw [if_neg (by simp),if_neg (by simp),if_neg (by simp),if_pos (c:=(true && true) = true) rfl,Y0 h u.1,Aa,Aa]
   cases g:(List.range l.length).find? fun i=>MK e f (CN l i) with
   | none=>rfl
   | some i =>
    have m:i < l.length:=List.mem_range.1 (List.mem_of_find?_eq_some g)
    unfold TX
    dsimp only
    rw [if_neg (by simp),AY,Ur m,Aa]
theorem Aax {l:List BL} (h:Fv l = true) (e f:Int):0 ≤ (MX l e f).1 ∧ (MX l e f).1 ≤ 12:=by
 unfold MX
 split
 ·cases g:(List.range l.length).find? fun i=>MK e f (CN l i) with
  | none=>exact ⟨Int.le_refl _,by show (0:Int) ≤ 12; omega⟩
  | some i =>
   have m:i < l.length:=List.mem_range.1 (List.mem_of_find?_eq_some g)
   have s:=MW.1 ((Hg.1 h).2.1 _ (IU m))
   dsimp only
   omega
 ·exact ⟨by decide,by decide⟩
theorem VE {l:List I7} (h:Ho l = true) {i:Nat} (g:i < l.length):∃ x:I7,l[i]? = some x ∧ (x.1 = -1 ∨ (0 ≤ x.1 ∧ x.1.toNat < i)) ∧ (0 ≤ x.2.1 ∧ x.2.1 ≤ 7) ∧ 0 ≤ x.2.2 ∧ x.2.2 ≤ 999:=by
 unfold Ho at h
 rw [Cf,List.all_eq_true] at h
 obtain ⟨x,m⟩:∃ x,l[i]? = some x:=⟨_,Cp g⟩
 have f:=h.2 i (List.mem_range.2 g)
 unfold OD at f
 rw [m] at f
 unfold SK at f
 dsimp only at f
 rw [Cf,Cf,D9,D9] at f
 refine ⟨x,m,?_,f.2.1,f.2.2⟩
 by_cases e:i = 0
 ·rw [if_pos e,C9] at f
  exact .inl f.1
 ·rw [if_neg e,D9] at f
  exact .inr (by omega)
theorem NH {l:List I7} (h:Ho l = true):1 ≤ l.length ∧ l.length ≤ 60:=by
 unfold Ho at h
 rw [Cf,D9] at h
 omega
theorem Abs {l:List I7} (h:Ho l = true):∀ (d i:Nat),i ≤ d → i < l.length → ∃ u:List Int,(∀ x ∈ u,0 ≤ x ∧ x.toNat < l.length) ∧ u.length ≤ i + 1 ∧
  ∀ (m:Nat) (s e:List Int),i + 1 < m → s.length ≤ 1000 - u.length → e.length ≤ 1000 - u.length → E5 l m (i:Int) s = some ((s ++ u).reverse) ∧ E4 l m (i:Int) e = some (u.reverse ++ e):=by
 have ap:=NH h
 have ac:∀ i (x:I7),l[i]? = some x → x.1 = -1 → i < l.length → ∃ u:List Int,(∀ x ∈ u,0 ≤ x ∧ x.toNat < l.length) ∧ u.length ≤ i + 1 ∧
  ∀ (m:Nat) (s e:List Int),i + 1 < m → s.length ≤ 1000 - u.length → e.length ≤ 1000 - u.length → E5 l m (i:Int) s = some ((s ++ u).reverse) ∧ E4 l m (i:Int) e = some (u.reverse ++ e):=by
  intro i x f aa v
  refine ⟨[(i:Int)],fun x f=>?_,by simp,fun m s e hm hs ae=>?_⟩
  ·rw [List.mem_singleton] at f; omega
  obtain ⟨m,rfl⟩:∃ m',m = m' + 2:=⟨m - 2,by omega⟩
  rw [E5,E4,if_pos (by simp),Bt (by simp; omega),Aa,if_pos (by simp),Bt (by simp; omega),Aa,AY,f,Aa,Aa,aa,E5,E4,if_neg (by decide),if_neg (by decide),ZC _ (by simp; omega)]
  exact ⟨rfl,rfl⟩
 intro d
 induction d with
 | zero =>
  intro i al v
  have:i = 0:=by omega
  subst this
  obtain ⟨x,f,g,_⟩:=VE h v
  have aa:x.1 = -1:=by rcases g with g | g; exact g; omega
  exact ac 0 x f aa v
 | succ d ih =>
  intro i al v
  obtain ⟨x,f,g,_⟩:=VE h v
  rcases g with aa | g
  ·exact ac i x f aa v
  ·obtain ⟨u,g1,g2,g3⟩:=ih x.1.toNat (by omega) (by omega)
   refine ⟨(i:Int) :: u,?_,by simp; omega,fun m s e hm hs ae=>?_⟩
   ·intro y hy
    rcases List.mem_cons.1 hy with rfl | hy
    ·omega
    ·exact g1 y hy
   ·obtain ⟨m,rfl⟩:∃ m',m = m' + 1:=⟨m - 1,by omega⟩
    rw [List.length_cons] at hs ae
    obtain ⟨e1,e2⟩:=g3 m (s ++ [(i:Int)]) ((i:Int) :: e) (by omega) (by simp; omega) (by simp; omega)
    have ex:x.1 = ((x.1.toNat:Nat):Int):=by omega
    rw [E5,E4,if_pos (by simp),Bt (by simp; omega),Aa,if_pos (by simp),Bt (by simp; omega),Aa,AY,f,Aa,Aa,ex,e1,List.singleton_append,e2]
    constructor
    ·rw [List.append_assoc]; rfl
    ·rw [List.reverse_cons,List.append_assoc]; rfl
theorem XG (u:List Int) (l:List I7):∀ (m:Nat) (s:List Int) (k:Int),ET u l m s k = Dl u l m s k:=by
 intro m
 induction m with
 | zero=>intros; rfl
 | succ m e =>
  intro s k
  rw [ET,Dl]
  simp only [e]
def We (s:List Int):Prop:=s.length = 8 ∧ ∀ x ∈ s,-1 ≤ x ∧ x ≤ 999
theorem Ys {l:List I7} (h:Ho l = true) {u:List Int} (hu:∀ x ∈ u,0 ≤ x ∧ x.toNat < l.length) (hl:u.length ≤ 1000):∃ s,We s ∧ Dl u l FU (List.replicate 8 (-1)) 0 = some s:=by
 have aj:=NH h
 refine Exists.elim (J8 (fun (_:Unit) m (z:List Int) k=>Dl u l m z k) u.length (fun _ z=>We z) (fun _ z=>some z) (by omega) (fun k z _ v e=>?_) (fun z e j m=>?_) (b:=0) (by omega) (s:=List.replicate 8 (-1)) ⟨by simp,fun x g=>by have:=List.eq_of_mem_replicate g; omega⟩) ?_
 ·obtain ⟨ag,ae⟩:=e
  obtain ⟨g1,g2⟩:=hu _ (List.getElem_mem v)
  obtain ⟨x,g,_,h7,h9⟩:=VE h g2
  have aa:x.2.1.toNat < z.length:=by omega
  refine ⟨BF z x.2.1 x.2.2,⟨by unfold BF; simpa using ag,fun y f=>?_⟩,fun _ m=>?_⟩
  ·unfold BF at f
   rcases List.mem_or_eq_of_mem_set f with f | rfl
   ·exact ae y f
   ·omega
  ·rw [Dl,if_pos (by simp; omega),AY,Cp v,Aa,It g1,g,Aa,Aa,It h7.1,Cp aa,Aa,AD (by omega)]
 ·rw [Dl,if_neg (by simp)]
 ·rintro z ⟨e,hr⟩
  exact ⟨z,e,hr ()⟩
theorem Sn {l:List I7} (h:Ho l = true) (i:Int):HH l [i] = some (BJ i 0 ((l.length:Int) - 1)):=by
 have g:=NH h
 unfold HH
 rw [O1 (DQ [i] l) [i] (fun x=>BJ x 0 ((l.length:Int) - 1)) (some true) (some false) (by simp) (fun m k x e f=>?_) (fun m=>?_)]
 ·rw [List.all_cons,List.all_nil,Bool.and_true]
  cases BJ i 0 ((l.length:Int) - 1) <;> rfl
 ·rw [DQ,if_pos (by simp at e ⊢; omega),AY,f,Aa,CT,A6 (by omega) (by omega),Aa,AD (by simp at e; omega)]
  cases BJ x 0 ((l.length:Int) - 1) <;> rfl
 ·rw [DQ,if_neg (by simp),LA (by omega),Aa,h]
theorem VZ (k:Nat):List.replicate k (-1:Int) ++ [-1] = List.replicate (k + 1) (-1):=by rw [List.replicate_succ']
theorem WA {l:List I7} (h:Ho l = true) (i:Int):∃ r:List Int × Bool,JP l i = some r ∧ JK l i = some r ∧ (r.2 = true → We r.1):=by
 have ai:=NH h
 unfold JP JK Mj Bk
 dsimp only
 rw [Sn h,Aa,OH (by omega),Aa,h,if_pos rfl,CU,A6 (by omega) (by omega),Aa,Aa]
 cases hi:BJ i 0 ((l.length:Int) - 1) with
 | false=>exact ⟨([],false),rfl,rfl,fun h=>by cases h⟩
 | true =>
  have aj:=D9.1 hi
  obtain ⟨u,g1,g2,g3⟩:=Abs h i.toNat i.toNat (Nat.le_refl _) (by omega)
  obtain ⟨e,f⟩:=g3 FU [] [] (DH (by omega)) (by simp) (by simp)
  rw [show ((i.toNat:Nat):Int) = i by omega] at e f
  rw [List.nil_append] at e
  rw [List.append_nil] at f
  obtain ⟨s,hs,v⟩:=Ys h (u:=u.reverse) (fun x hx=>g1 x (List.mem_reverse.1 hx)) (by rw [List.length_reverse]; omega)
  have r1:JL l i = some s:=by
   unfold JL
   refine Eq.trans (EF (fun m (z:List Int) k=>Fi l i m z k) 8 (fun k=>List.replicate k (-1)) (Option.bind (KX l i) fun g=>Dl g l FU (List.replicate 8 (-1)) 0) (by omega) (j:=0) (by omega) (fun m k _ hk=>?_) (fun m=>?_)) ?_
   ·rw [Fi,if_pos (by simp; omega),Bt (by simp; omega),Aa,AD (by omega),VZ]
   ·rw [Fi,if_neg (by decide)]
   ·unfold KX
    rw [e,Aa,v]
  have r2:JA l i = some s:=by
   unfold JA
   refine Eq.trans (EF (fun m (z:List Int) (_:Int)=>EU l i m z) 8 (fun k=>List.replicate k (-1)) (Option.bind (KT l i) fun g=>ET g l FU (List.replicate 8 (-1)) 0) (by omega) (j:=0) (by omega) (fun m k _ hk=>?_) (fun m=>?_)) ?_
   ·rw [EU,if_pos (by simp; omega),Bt (by simp; omega),Aa,VZ]
   ·rw [EU,if_neg (by decide)]
   ·unfold KT
    rw [f,Aa,XG,v]
  refine ⟨(s,true),?_,?_,fun _=>hs⟩
  ·rw [if_neg (by simp),r1,Aa]
  ·rw [if_neg (by simp),r2,Aa]
theorem YZ (e:List (List Aj)) (w f:List Aj):Lib.join (e ++ [w]) f = if e = [] then w else Lib.join e f ++ f ++ w:=by
 cases e with
 | nil=>rw [List.nil_append,if_pos rfl,Lib.join_one]
 | cons x r =>
  rw [List.cons_append,Lib.join_cons,Lib.join_cons,if_neg (by simp)]
  unfold Lib.joinTail
  rw [List.map_append,List.flatten_append]
  simp [List.append_assoc]
def Mu (n:Int):List Aj:=if n < 0 then [45] else Lib.decDigits n.toNat
theorem Rk {n:Int} (h:n ≤ 999):(Mu n).length ≤ 3:=by
 unfold Mu
 split
 ·simp
 ·exact Hw (k:=2) (by omega)
def Gr (ws:List (List Aj)):List Aj:=Lib.join ws [32]
theorem XR (e:List (List Aj)) (w:List Aj):Gr (e ++ [w]) = (if e = [] then [] else Gr e ++ [32]) ++ w:=by
 unfold Gr
 rw [YZ]
 split
 ·rfl
 ·rfl
theorem PL (f:List (List Aj)) {k:Nat} (h:k < f.length):Gr (f.take (k + 1)) = (if k = 0 then [] else Gr (f.take k) ++ [32]) ++ f[k]:=by
 rw [List.take_succ_eq_append_getElem h,XR]
 by_cases e:k = 0
 ·subst e; simp
 ·have l:f.take k ≠ []:=fun g=>by have:=congrArg List.length g; rw [List.length_take,List.length_nil] at this; omega
  rw [if_neg l,if_neg e]
theorem Ny {B:Nat} (e:List (List Aj)) (h:∀ w ∈ e,w.length ≤ B):∀ k,k ≤ e.length → (Gr (e.take k)).length ≤ (B + 1) * k
 | 0,_=>by simp [Gr,Lib.join_nil]
 | k + 1,hk=>by
  have h1:=Ny e h k (by omega)
  have f:=h e[k] (List.getElem_mem _)
  rw [PL e (by omega),CD,Nat.mul_succ]
  split
  ·simp; omega
  ·rw [CD,List.length_singleton]; omega
theorem QI {B:Nat} (e:List (List Aj)) (h:∀ w ∈ e,w.length ≤ B):(Gr e).length ≤ (B + 1) * e.length:=by
 have:=Ny e h e.length (Nat.le_refl _)
 rwa [List.take_length] at this
theorem Wq {e:List (List Aj)} {B:Nat} (h:∀ w ∈ e,w.length ≤ B) (g:B ≤ 1000) (f:e.length ≤ 1000):Iv e [32] = some (Gr e):=by
 have h1:=QI e h
 have l:(B + 1) * e.length ≤ 1001 * 1000:=Nat.mul_le_mul (by omega) f
 unfold Gr at h1
 unfold Iv Gr
 rw [if_pos (by omega)]

theorem VA {n:Int} (h:¬ n < 0) (e:n ≤ 999):CY n = some (Mu n) ∧ Dd n = some (Mu n):=by
 unfold Mu
 rw [if_neg h]
 exact ⟨L8 (by omega) (by omega),JU (by omega) (by omega)⟩
theorem Xj {s:List Int} (h:We s):JE s = some (Gr (s.map Mu)):=by
 obtain ⟨h8,u⟩:=h
 have g:∀ w ∈ s.map Mu,w.length ≤ 3:=by
  intro w g
  obtain ⟨n,f,rfl⟩:=List.mem_map.1 g
  exact Rk (u n f).2
 unfold JE
 refine Eq.trans (EF (D3 s) s.length (fun k=>Gr ((s.map Mu).take k)) (some (Gr (s.map Mu))) (by omega) (j:=0) (by omega) (fun m k _ l=>?_) (fun m=>?_)) rfl
 ·have hl:=Ny _ g k (by simp; omega)
  have f:=u _ (List.getElem_mem l)
  have h3:=Rk f.2
  rw [D3,if_pos (by simp; omega)]
  unfold Bk
  dsimp only
  rw [AY,Cp l,Aa,AD (by omega),PL _ (by simp; omega),List.getElem_map]
  have v:∀ y:List Aj,y.length ≤ 100 → (if decide (s[k] < 0) = true then Option.bind (Cl y [45]) fun ad=>D3 s m ad ((k + 1:Nat):Int) else Option.bind (Dd s[k]) fun ac=>Option.bind (Cl y ac) fun ab=>D3 s m ab ((k + 1:Nat):Int)) = D3 s m (y ++ Mu s[k]) ((k + 1:Nat):Int):=by
   intro y hy
   by_cases e:s[k] < 0
   ·rw [if_pos (decide_eq_true e),Bt (by simp; omega),Aa]
    unfold Mu
    rw [if_pos e]
   ·rw [if_neg (by simpa using e),(VA e f.2).2,Aa,Bt (by omega),Aa]
  by_cases h0:k = 0
  ·subst h0
   rw [if_neg (by simp),v _ (by omega),if_pos rfl]
   simp [Gr,Lib.join_nil]
  ·rw [if_pos (by simp; omega),Bt (by simp; omega),Aa,v _ (by simp; omega),if_neg h0]
 ·rw [D3,if_neg (by simp),List.take_of_length_le (by simp)]
theorem Vf {s:List Int} (h:We s):Cv (s,true) FU [] 0 = some (Gr (s.map Mu)):=by
 obtain ⟨v,u⟩:=h
 have g:∀ w ∈ s.map Mu,w.length ≤ 3:=by
  intro w g
  obtain ⟨n,f,rfl⟩:=List.mem_map.1 g
  exact Rk (u n f).2
 refine Eq.trans (EF (Cv (s,true)) s.length (fun k=>(s.map Mu).take k) (some (Gr (s.map Mu))) (by omega) (j:=0) (by omega) (fun m k _ l=>?_) (fun m=>?_)) rfl
 ·have f:=u _ (List.getElem_mem l)
  rw [Cv,if_pos (by simp; omega)]
  unfold Bk
  dsimp only
  rw [AY,Cp l,Aa,AD (by omega),List.take_succ_eq_append_getElem (by simp; omega),List.getElem_map]
  by_cases e:s[k] < 0
  ·rw [if_pos (decide_eq_true e),Bt (by simp; omega),Aa]
   unfold Mu
   rw [if_pos e]
  ·rw [if_neg (by simpa using e),(VA e f.2).1,Aa,Bt (by simp; omega),Aa]
 ·rw [Cv,if_neg (by simp),List.take_of_length_le (by simp),Wq g (by omega) (by simp; omega),Aa]
def Oo (q:List Int):List Aj:=Lib.decDigits (IK q 0).toNat ++ [45] ++ Lib.decDigits (IK q 1).toNat
def NV (q:List Int):Prop:=∃ i k:Nat,q = [(i:Int),(k:Int)] ∧ i < 100 ∧ k < 100
theorem Pd {q:List Int} (h:NV q):1 ≤ (Oo q).length ∧ (Oo q).length ≤ 5:=by
 obtain ⟨i,k,rfl,e,f⟩:=h
 unfold Oo IK
 have h1:=Hw (k:=1) (u:=i) (by omega)
 have g:=Hw (k:=1) (u:=k) (by omega)
 simp
 omega
theorem YO {q:List Int} (h:NV q) {R:Type} (f:List Aj → Ag R):(Option.bind (AM q 0) fun s=>Option.bind (AM q 1) fun l=>Option.bind (CY s) fun m=>Option.bind (Cl m [45]) fun g=>Option.bind (CY l) fun e=>Option.bind (Cl g e) f) = f (Oo q):=by
 obtain ⟨i,k,rfl,hi,hk⟩:=h
 have h1:=Hw (k:=1) (u:=i) (by omega)
 have v:=Hw (k:=1) (u:=k) (by omega)
 show (Option.bind (some (i:Int)) fun s=>Option.bind (some (k:Int)) fun l=>Option.bind (CY s) fun m=>Option.bind (Cl m [45]) fun g=>Option.bind (CY l) fun e=>Option.bind (Cl g e) f) = _
 rw [Aa,Aa,L8 (by omega) (by omega),Aa,Bt (by simp; omega),Aa,L8 (by omega) (by omega),Aa,Bt (by simp; omega),Aa]
 rfl
theorem YN {q:List Int} (h:NV q) {R:Type} (f:List Aj → Ag R):(Option.bind (AM q 0) fun s=>Option.bind (AM q 1) fun l=>Option.bind (Dd s) fun m=>Option.bind (Cl m [45]) fun g=>Option.bind (Dd l) fun e=>Option.bind (Cl g e) f) = f (Oo q):=by
 obtain ⟨i,k,rfl,hi,hk⟩:=h
 have h1:=Hw (k:=1) (u:=i) (by omega)
 have v:=Hw (k:=1) (u:=k) (by omega)
 show (Option.bind (some (i:Int)) fun s=>Option.bind (some (k:Int)) fun l=>Option.bind (Dd s) fun m=>Option.bind (Cl m [45]) fun g=>Option.bind (Dd l) fun e=>Option.bind (Cl g e) f) = _
 rw [Aa,Aa,JU (by omega) (by omega),Aa,Bt (by simp; omega),Aa,JU (by omega) (by omega),Aa,Bt (by simp; omega),Aa]
 rfl
def Oc (P:List (List Int)):List Aj:=if P = [] then [110,111,110,101] else Gr (P.map Oo)
theorem Yd {P:List (List Int)} (h:∀ q ∈ P,NV q) (l:P.length ≤ 1000) (b:Bool):CE (P,b) FU [] 0 = some (Gr (P.map Oo)):=by
 have e:∀ w ∈ P.map Oo,w.length ≤ 5:=by
  intro w e
  obtain ⟨q,g,rfl⟩:=List.mem_map.1 e
  exact (Pd (h q g)).2
 refine Eq.trans (EF (CE (P,b)) P.length (fun k=>(P.map Oo).take k) (some (Gr (P.map Oo))) (by omega) (j:=0) (by omega) (fun m k _ f=>?_) (fun m=>?_)) rfl
 ·rw [CE,if_pos (by simp; omega)]
  unfold Bk
  dsimp only
  rw [AY,Cp f,Aa,YO (h _ (List.getElem_mem f)),AD (by omega),List.take_succ_eq_append_getElem (by simp; omega),List.getElem_map,Bt (by simp; omega),Aa]
 ·rw [CE,if_neg (by simp),List.take_of_length_le (by simp),Wq e (by omega) (by simp; omega),Aa]
theorem Yc {P:List (List Int)} (h:∀ q ∈ P,NV q) (hl:P.length ≤ 1000) (b:Bool):CR (P,b) FU [] 0 = some (Oc P):=by
 have g:∀ w ∈ P.map Oo,w.length ≤ 5:=by
  intro w g
  obtain ⟨q,v,rfl⟩:=List.mem_map.1 g
  exact (Pd (h q v)).2
 refine Eq.trans (EF (CR (P,b)) P.length (fun k=>Gr ((P.map Oo).take k)) (some (Oc P)) (by omega) (j:=0) (by omega) (fun m k _ f=>?_) (fun m=>?_)) rfl
 ·have ab:=Ny _ g k (by simp; omega)
  have u:=Pd (h _ (List.getElem_mem f))
  rw [CR,if_pos (by simp; omega)]
  unfold Bk
  dsimp only
  rw [AY,Cp f,Aa,PL _ (by simp; omega),List.getElem_map]
  simp only [YN (h _ (List.getElem_mem f))]
  by_cases l:k = 0
  ·subst l
   rw [if_neg (by simp),Bt (by omega),Aa,if_pos rfl,AD (by omega)]
   simp [Gr,Lib.join_nil]
  ·rw [if_pos (by simp; omega),Bt (by simp; omega),Aa,Bt (by simp; omega),Aa,if_neg l,AD (by omega)]
 ·rw [CR,if_neg (by simp),List.take_of_length_le (by simp)]
  unfold Oc
  cases P with
  | nil=>rfl
  | cons q P =>
   have s:(Gr ((q :: P).map Oo)) ≠ []:=by
    have u:=Pd (h q (List.mem_cons_self ..))
    unfold Gr
    rw [List.map_cons,Lib.join_cons]
    intro e
    have:=congrArg List.length e
    rw [CD,List.length_nil] at this
    omega
   rw [if_neg (by simpa using s),if_neg (by simp)]
theorem RI {n:Int} (h:0 ≤ n ∧ n ≤ 1280):IW n = some (MN n):=by
 have h1:=Hw (k:=2) (u:=n.toNat / 8) (by omega)
 have f:=Hw (k:=0) (u:=n.toNat % 8) (by omega)
 unfold IW MN
 rw [Int.tdiv_eq_ediv_of_nonneg h.1,Int.tmod_eq_emod_of_nonneg h.1,A6 (by omega) (by omega),JU (by omega) (by omega),Aa,Aa,show (n / 8).toNat = n.toNat / 8 by omega]
 by_cases e:0 < n.toNat % 8
 ·rw [if_neg (by simp; omega),JU (by omega) (by omega),show (n % 8).toNat = n.toNat % 8 by omega,Oz (by simp; omega),Aa,Aa,Oz (by simp; omega),Aa,if_pos e,List.append_assoc]
  rfl
 ·rw [if_pos (by simp; omega),if_neg e,List.append_nil]
theorem WW {s:Int × Int} (h:CX s = true):Kg s = some (PA s):=by
 have g:=FM.1 h
 have f:=LJ (n:=s.1) (by omega)
 have e:=LJ (n:=s.2) (by omega)
 unfold Kg
 rw [RI (by omega),Aa,Oz (by simp; omega),Aa,RI (by omega),Aa,Oz (by simp; omega),Aa]
 unfold PA
 rw [List.append_assoc]
 rfl
def OP (r:Int × Bool):List Aj:=if r.2 = true then Lib.decDigits r.1.toNat else [110,111]
theorem Od {r:Int × Bool} (h:0 ≤ r.1) (e:r.1 ≤ 9223372036854775807):Fr r.1 r.2 = some (OP r) ∧ Fq r.1 r.2 = some (OP r):=by
 unfold Fr Fq Ml OP
 rw [L8 h e,Aa,if_neg (c:=decide (r.1 < 0) = true) (by simp; omega),JU h e,Aa,Aa]
 cases r.2 <;> exact ⟨rfl,rfl⟩
def Nu (x:G7) (c:Int):Int × Bool:=if BJ c 0 (Sd x) = true then (Rm x c,true) else (0,false)
theorem Xh {x:G7} (h:Gd x = true) (c:Int):Kq x c = some (Nu x c):=by
 have e:=(MS h).2.1
 unfold Kq Bk Nu
 dsimp only
 rw [QL x (by omega),Aa,h,Vj x (by omega),Aa,CT,Aa,Xf x h]
 cases BJ c 0 (Sd x) <;> rfl
theorem Xc {x:G7} (h:Gd x = true) (c:Int):Kp x c = some (Nu x c):=by
 have e:=(MS h).2.1
 unfold Kp L6 Bk Nu
 dsimp only
 rw [RM x (by omega),Aa,h,Vh x (by omega),Aa,CU,Aa,OJ x h]
 cases BJ c 0 (Sd x) <;> rfl
theorem Zu {x:G7} (h:Gd x = true) {c:Int} (h1:c ≤ 99999):0 ≤ (Nu x c).1 ∧ (Nu x c).1 ≤ 720000:=by
 unfold Nu
 split
 ·rename_i e
  have f:=D9.1 e
  exact Aay h f.1 (by omega)
 ·simp
abbrev FSx:=Aed × Aed × Int × Aed × (List BL) × (List I7)
abbrev SpT:=Aed × Aed × Int × Aed × (List BL) × (List I7) × (List Int) × (List Int) × Int
abbrev CtT:=(List Int) × (List Int) × Int
def E7 (s:FSx) (c:CtT):SpT:=(s.1,s.2.1,s.2.2.1,s.2.2.2.1,s.2.2.2.2.1,s.2.2.2.2.2,c.1,c.2.1,c.2.2)
structure Kf (s:FSx):Prop where
 ch:Cu s.1 = true
 ke:Cu s.2.1 = true
 mu:Gd s.2.2.2.1 = true
 ca:Fv s.2.2.2.2.1 = true
 ve:Ho s.2.2.2.2.2 = true
def Qc (b:Bool):List Aj:=if b = true then [111,107] else [110,111]
theorem Ym (b:Bool):Iz b = some (Qc b):=by unfold Iz Qc; cases b <;> rfl
theorem Aba (b:Bool):Ja b = some (Qc b):=by unfold Ja Qc; cases b <;> rfl
def T1 (s:FSx) (w:List Aj) (n:List Int) (F:FSx → List Aj → List Int → Ag (List Aj × FSx)):Prop :=
 ∃ ok s',Kf s' ∧ (ok = false → s' = s) ∧ s'.2.2.2.2.1.length ≤ s.2.2.2.2.1.length + 1 ∧ F s w n = some (Qc ok,s') ∧ ∀ c,C1 (E7 s c) w n = some (ok,E7 s' c)
theorem Xz {n:List Int} (h:n.length = 1):∃ a,n = [a]:=by
 match n,h with
 | [a],_=>exact ⟨a,rfl⟩
theorem nl2 {n:List Int} (h:n.length = 2):∃ a b,n = [a,b]:=by
 match n,h with
 | [a,b],_=>exact ⟨a,b,rfl⟩
theorem nl3 {n:List Int} (h:n.length = 3):∃ a b c,n = [a,b,c]:=by
 match n,h with
 | [a,b,c],_=>exact ⟨a,b,c,rfl⟩
theorem nl4 {n:List Int} (h:n.length = 4):∃ a b c d,n = [a,b,c,d]:=by
 match n,h with
 | [a,b,c,d],_=>exact ⟨a,b,c,d,rfl⟩
theorem Im {α:Type} (a:α) (l:List α):AM (a :: l) 0 = some a:=rfl
theorem MV {α:Type} (a b:α) (l:List α):AM (a :: b :: l) 1 = some b:=rfl
theorem X4 {α:Type} (a b c:α) (l:List α):AM (a :: b :: c :: l) 2 = some c:=rfl
theorem ix3 {α:Type} (a b c d:α) (l:List α):AM (a :: b :: c :: d :: l) 3 = some d:=rfl
def Rj (s:FSx) (c:List (Int × Int)):FSx:=(c,s.2.1,s.2.2.1,s.2.2.2.1,s.2.2.2.2.1,s.2.2.2.2.2)
theorem M4 (s:FSx) (c:List (Int × Int)) (b:Bool):Dj s c b = some (Qc b,if b = true then Rj s c else s) ∧ ∀ k,EH (E7 s k) c b = some (b,E7 (if b = true then Rj s c else s) k):=by
 unfold Dj EH Bk
 dsimp only
 simp only [Ym,Aa]
 cases b
 ·exact ⟨rfl,fun _=>rfl⟩
 ·exact ⟨rfl,fun _=>rfl⟩
theorem Zn {l:List (Int × Int)} (h:(Ps l).2 = true):Cu (Ps l).1 = true:=by
 unfold Ps at h ⊢
 split
 ·assumption
 ·rename_i e; rw [if_neg e] at h; cases h
theorem YI {l:List (Int × Int)} {p:Int} {a:Int × Int} (h:(Lu l p a).2 = true):Cu (Lu l p a).1 = true:=by
 unfold Lu at h ⊢
 split
 ·rename_i e; rw [if_pos e] at h; exact Zn h
 ·rename_i e; rw [if_neg e] at h; cases h
theorem Aaq {s:FSx} (h:Kf s) {r:List (Int × Int) × Bool} (f:r.2 = true → Cu r.1 = true):Kf (if r.2 = true then Rj s r.1 else s):=by
 split
 ·rename_i e; exact ⟨f e,h.ke,h.mu,h.ca,h.ve⟩
 ·exact h
theorem Abb {s:FSx} (h:Kf s) {n:List Int} (f:n.length = 2):T1 s SH n BH:=by
 obtain ⟨a,b,rfl⟩:=nl2 f
 have g:=Dc h.ch
 refine ⟨(Ps (s.1 ++ [(a,b)])).2,if (Ps (s.1 ++ [(a,b)])).2 = true then Rj s (Ps (s.1 ++ [(a,b)])).1 else s,Aaq h Zn,(fun e=>by rw [e]; rfl),?_,?_,fun c=>?_⟩
 ·split <;> exact Nat.le_succ _
 ·unfold BH SH Fz
  dsimp only
  rw [if_pos (by rfl),Im,Aa,MV,Aa,Bt (by simp; omega),Aa,List.nil_append,Bt (by simp; omega),Aa,RT _ (by simp; omega),Aa,(M4 _ _ _).1,Aa]
 ·unfold C1 SH Fz
  dsimp only
  rw [if_pos (by rfl),Im,Aa,MV,Aa,show (E7 s c).1 = s.1 by rfl,Nv _ (by omega),Aa,Bt (by simp; omega),Aa,UJ _ (by simp; omega),Aa,(M4 _ _ _).2,Aa]
theorem ZY {s:FSx} (h:Kf s) {n:List Int} (f:n.length = 3):T1 s Q1 n BH:=by
 obtain ⟨p,a,b,rfl⟩:=nl3 f
 refine ⟨(Lu s.1 p (a,b)).2,if (Lu s.1 p (a,b)).2 = true then Rj s (Lu s.1 p (a,b)).1 else s,Aaq h YI,(fun e=>by rw [e]; rfl),?_,?_,fun c=>?_⟩
 ·split <;> exact Nat.le_succ _
 ·unfold BH Q1 Fz
  dsimp only
  rw [if_neg (by decide),if_pos (by rfl),Im,Aa,MV,Aa,X4,Aa,Qo h.ch,Aa,(M4 _ _ _).1,Aa]
 ·unfold C1 Q1 Fz
  dsimp only
  rw [if_neg (by decide),if_pos (by rfl),Im,Aa,MV,Aa,X4,Aa,show (E7 s c).1 = s.1 by rfl,Qn h.ch,Aa,(M4 _ _ _).2,Aa]
theorem Zi {s:FSx} (h:Kf s) {n:List Int}:T1 s Pe n BH:=by
 refine ⟨true,Rj s (s.1.map MZ),⟨Acb h.ch,h.ke,h.mu,h.ca,h.ve⟩,(fun e=>by cases e),Nat.le_succ _,?_,fun c=>?_⟩
 ·unfold BH Pe Fz
  dsimp only
  rw [if_neg (by decide),if_neg (by decide),if_pos (by rfl),So h.ch,Aa,(M4 _ _ _).1,Aa]
  rfl
 ·unfold C1 Pe Fz
  dsimp only
  rw [if_neg (by decide),if_neg (by decide),if_pos (by rfl),show (E7 s c).1 = s.1 by rfl,Sg h.ch,Aa,(M4 _ _ _).2,Aa]
  rfl
theorem Abc {s:FSx} (h:Kf s) {n:List Int}:T1 s SJ n BH:=by
 have f:=Dc h.ch
 refine ⟨true,(s.1,s.1,s.2.2.1,s.2.2.2.1,s.2.2.2.2.1,s.2.2.2.2.2),⟨h.ch,h.ch,h.mu,h.ca,h.ve⟩,(fun e=>by cases e),Nat.le_succ _,?_,fun c=>?_⟩
 ·unfold BH SJ
  rw [if_neg (by decide),if_neg (by decide),if_neg (by decide),if_pos (by rfl),Bt (by simp; omega),Aa]
  rfl
 ·unfold C1 SJ Fz
  dsimp only
  rw [if_neg (by decide),if_neg (by decide),if_neg (by decide),if_pos (by rfl),show (E7 s c).1 = s.1 by rfl,Nv _ (by omega),Aa]
  rfl
theorem Zj {s:FSx} (h:Kf s) {n:List Int} (f:n.length = 1):T1 s Pf n BH:=by
 obtain ⟨a,rfl⟩:=Xz f
 refine ⟨BJ a 1 64,if BJ a 1 64 = true then (s.1,s.2.1,a,s.2.2.2.1,s.2.2.2.2.1,s.2.2.2.2.2) else s,?_,(fun e=>by rw [e]; rfl),?_,?_,fun c=>?_⟩
 ·split
  ·exact ⟨h.ch,h.ke,h.mu,h.ca,h.ve⟩
  ·exact h
 ·split <;> exact Nat.le_succ _
 ·unfold BH Pf
  rw [if_neg (by decide),if_neg (by decide),if_neg (by decide),if_neg (by decide),Im,Aa,CT,Aa,Aa]
  cases BJ a 1 64 <;> rfl
 ·unfold C1 Pf Fz
  dsimp only
  rw [if_neg (by decide),if_neg (by decide),if_neg (by decide),if_neg (by decide),if_pos (by rfl),Im,Aa,CU,Aa,Aa]
  cases BJ a 1 64 <;> rfl
theorem Yg {s:FSx} (h:Kf s) {n:List Int} (f:n.length = 2):T1 s NG n CI:=by
 obtain ⟨a,b,rfl⟩:=nl2 f
 have g:=(MS h.mu).2.1
 refine ⟨Gd (s.2.2.2.1 ++ [(a,b)]),if Gd (s.2.2.2.1 ++ [(a,b)]) = true then (s.1,s.2.1,s.2.2.1,s.2.2.2.1 ++ [(a,b)],s.2.2.2.2.1,s.2.2.2.2.2) else s,?_,(fun e=>by rw [e]; rfl),?_,?_,fun c=>?_⟩
 ·split
  ·rename_i e; exact ⟨h.ch,h.ke,e,h.ca,h.ve⟩
  ·exact h
 ·split <;> exact Nat.le_succ _
 ·unfold CI NG Fz
  dsimp only
  rw [if_pos (by rfl),Im,Aa,MV,Aa,Bt (by simp; omega),Aa,List.nil_append,Bt (by simp; omega),Aa,QL _ (by simp; omega),Aa]
  cases Gd (s.2.2.2.1 ++ [(a,b)]) <;> rfl
 ·unfold C1 NG Fz
  dsimp only
  rw [if_neg (by decide),if_neg (by decide),if_neg (by decide),if_neg (by decide),if_neg (by decide),if_pos (by rfl),Im,Aa,MV,Aa,show (E7 s c).2.2.2.1 = s.2.2.2.1 by rfl,Bt (by simp; omega),Aa,List.nil_append,Bt (by simp; omega),Aa,RM _ (by simp; omega),Aa]
  cases Gd (s.2.2.2.1 ++ [(a,b)]) <;> rfl
theorem Yf {s:FSx} (h:Kf s) {n:List Int} (l:n.length = 3):T1 s NE n CI:=by
 obtain ⟨a,b,d,rfl⟩:=nl3 l
 have f:=NH h.ve
 refine ⟨(Ly s.2.2.2.2.2 (a,b,d)).2,if (Ly s.2.2.2.2.2 (a,b,d)).2 = true then (s.1,s.2.1,s.2.2.1,s.2.2.2.1,s.2.2.2.2.1,(Ly s.2.2.2.2.2 (a,b,d)).1) else s,?_,(fun e=>by rw [e]; rfl),?_,?_,fun c=>?_⟩
 ·split
  ·rename_i e
   refine ⟨h.ch,h.ke,h.mu,h.ca,?_⟩
   unfold Ly at e ⊢
   dsimp only
   split
   ·assumption
   ·rename_i g; rw [if_neg g] at e; cases e
  ·exact h
 ·split <;> exact Nat.le_succ _
 ·unfold CI NE Bk
  dsimp only
  rw [if_neg (by decide),if_neg (by decide),Im,Aa,MV,Aa,X4,Aa,Tp h.ve f.2,Aa,Ym,Aa,Aa]
  cases (Ly s.2.2.2.2.2 (a,b,d)).2 <;> rfl
 ·unfold C1 NE Fz
  dsimp only
  rw [if_neg (by decide),if_neg (by decide),if_neg (by decide),if_neg (by decide),if_neg (by decide),if_neg (by decide),if_neg (by decide),if_pos (by rfl),Im,Aa,MV,Aa,X4,Aa,show (E7 s c).2.2.2.2.2.1 = s.2.2.2.2.2 by rfl,SS h.ve f.2,Aa]
  cases (Ly s.2.2.2.2.2 (a,b,d)).2 <;> rfl
def Ph (n:List Int):Prop:=∀ x ∈ n,0 ≤ x ∧ x ≤ 99999
theorem ZZ {s:FSx} (h:Kf s) (ai:s.2.2.2.2.1.length ≤ 39) {n:List Int} (hn:n.length = 4) (m:Ph n):T1 s Q4 n CI:=by
 obtain ⟨a,b,d,e,rfl⟩:=nl4 hn
 have ah:=(Hg.1 h.ca).1
 have hK:∀ x ∈ s.2.2.2.2.1 ++ [(a,b,d,e)],Lv x:=by
  intro x f
  rcases AX.1 f with f | f
  ·exact Um h.ca x f
  ·rw [List.mem_singleton] at f
   subst f
   have hb:=m b (by simp)
   have hd:=m d (by simp)
   exact ⟨hb,hd⟩
 obtain ⟨Z,z1,u,z3,v⟩:=Yh (l:=s.2.2.2.2.1 ++ [(a,b,d,e)]) (by simp; omega) hK
 have g:=z1.length_eq
 rw [CD,List.length_singleton] at g
 refine ⟨Fv Z,if Fv Z = true then (s.1,s.2.1,s.2.2.1,s.2.2.2.1,Z,s.2.2.2.2.2) else s,?_,(fun e=>by rw [e]; rfl),?_,?_,fun c=>?_⟩
 ·split
  ·rename_i e; exact ⟨h.ch,h.ke,h.mu,e,h.ve⟩
  ·exact h
 ·split
  ·exact Nat.le_of_eq g
  ·exact Nat.le_succ _
 ·unfold CI Q4 Fz
  dsimp only
  rw [if_neg (by decide),if_pos (by rfl),Im,Aa,MV,Aa,X4,Aa,ix3,Aa,Bt (by simp; omega),Aa,List.nil_append,Bt (by simp; omega),Aa,u,Aa,z3,Aa]
  cases Fv Z <;> rfl
 ·unfold C1 Q4 Fz Wt
  dsimp only
  rw [if_neg (by decide),if_neg (by decide),if_neg (by decide),if_neg (by decide),if_neg (by decide),if_neg (by decide),if_pos (by rfl),Im,Aa,MV,Aa,X4,Aa,ix3,Aa,show (E7 s c).2.2.2.2.1 = s.2.2.2.2.1 by rfl,Bt (by simp; omega),Aa,List.nil_append,Bt (by simp; omega),Aa,v,Aa]
  cases Fv Z <;> rfl
def Pb (s:FSx) (w:List Aj) (n:List Int):Prop:=∃ r,r.length ≤ 1000 ∧ Ca s w n = some r ∧ ∀ c,C5 (E7 s c) w n = some r
theorem NW {r:Int × Bool} (h:0 ≤ r.1) (e:r.1 ≤ 1000000000):(OP r).length ≤ 1000:=by
 unfold OP
 split
 ·have:=Hw (k:=9) (u:=r.1.toNat) (by omega)
  omega
 ·decide
theorem ZW (e:Int):Ld Qd e = ([],false):=by
 unfold Ld
 rw [Sj]
 rfl
theorem ZO (e:Int):Mc Qd e = (0,false):=by
 unfold Mc
 rw [Sj]
 rfl
theorem Aa1:M1 Qd = (0,false):=by
 unfold M1
 rw [Sj]
 rfl
theorem UT {a b:List (Int × Int)} {n:Int} (h:(Ek a b n).2 = false):(Ek a b n).1 = Qd:=by
 unfold Ek at *
 split
 ·rename_i e; rw [if_pos e] at h; cases h
 ·rfl
theorem YX {a b:List (Int × Int)} {n:Int} (h:(Fy a b n).2 = false):(Fy a b n).1 = Qd:=by
 unfold Fy at *
 split
 ·rename_i e; rw [if_pos e] at h; cases h
 ·rfl
theorem Acx {s:FSx} (h:Kf s) {n:List Int}:Pb s VD n:=by
 have h1:=Dc h.ch
 have m:=Dc h.ke
 have f:=YW s.2.1 s.1 s.2.2.1
 have g:=Aa2 (Fy s.2.1 s.1 s.2.2.1).1
 have e:=Od (r:=M1 (Fy s.2.1 s.1 s.2.2.1).1) g.1 (by omega)
 refine ⟨OP (M1 (Fy s.2.1 s.1 s.2.2.1).1),NW g.1 (by omega),?_,fun c=>?_⟩
 ·unfold Ca VD Ws
  dsimp only
  rw [if_pos (by rfl),PM (by omega) (by omega),Aa,show ((Fy s.2.1 s.1 s.2.2.1).1.1,(Fy s.2.1 s.1 s.2.2.1).1.2.1,(Fy s.2.1 s.1 s.2.2.1).1.2.2.1,(Fy s.2.1 s.1 s.2.2.1).1.2.2.2) = (Fy s.2.1 s.1 s.2.2.1).1 by rfl,f.sum.1,Aa,e.1,Aa]
 ·unfold C5 VD jK5
  dsimp only
  rw [if_pos (by rfl),show (E7 s c).1 = s.1 by rfl,show (E7 s c).2.1 = s.2.1 by rfl,show (E7 s c).2.2.1 = s.2.2.1 by rfl,PB (by omega) (by omega),Aa,show ((Fy s.2.1 s.1 s.2.2.1).1.1,(Fy s.2.1 s.1 s.2.2.1).1.2.1,(Fy s.2.1 s.1 s.2.2.1).1.2.2.1,(Fy s.2.1 s.1 s.2.2.1).1.2.2.2) = (Fy s.2.1 s.1 s.2.2.1).1 by rfl]
  cases l:(Fy s.2.1 s.1 s.2.2.1).2 with
  | true=>rw [if_neg (by simp),f.sum.2,Aa,e.2,Aa]
  | false =>
   rw [if_pos (by rfl),YX l,Aa1]
   rfl
theorem Ya {t:BV} (h:SmT t) (e:Int):(∀ q ∈ (Ld t e).1,NV q) ∧ (Ld t e).1.length ≤ 144:=by
 have:=h.h1
 unfold Ld
 split
 ·refine ⟨fun q f=>?_,?_⟩
  ·obtain ⟨i,k,h1,g,l,m,_⟩:=YP f
   exact ⟨i,k,h1,by omega,by omega⟩
  ·have h1:=QG (X8 t e) t.1.length t.1.length
   have g:t.1.length * t.1.length ≤ 12 * 12:=Nat.mul_le_mul this this
   dsimp only
   omega
 ·exact ⟨(fun q f=>by cases f),by simp⟩
theorem Ye {P:List (List Int)} (h:∀ q ∈ P,NV q) (g:P.length ≤ 144):(Oc P).length ≤ 1000:=by
 unfold Oc
 split
 ·decide
 ·have:=QI (B:=5) (P.map Oo) (fun w e=>by
   obtain ⟨q,f,rfl⟩:=List.mem_map.1 e
   exact (Pd (h q f)).2)
  rw [List.length_map] at this
  omega
theorem Aag {s:FSx} (h:Kf s) {n:List Int} (l:n.length = 1):Pb s Q3 n:=by
 obtain ⟨a,rfl⟩:=Xz l
 have h1:=Dc h.ch
 have u:=Dc h.ke
 have g:=US s.2.1 s.1 s.2.2.1
 obtain ⟨e,f⟩:=Ya g a
 refine ⟨if (Ld (Ek s.2.1 s.1 s.2.2.1).1 a).2 = true then Oc (Ld (Ek s.2.1 s.1 s.2.2.1).1 a).1 else [110,111],?_,?_,fun c=>?_⟩
 ·split
  ·exact Ye e f
  ·decide
 ·unfold Ca Q3 GJ Ws
  dsimp only
  rw [if_neg (by decide),if_pos (by rfl),Im,Aa,Me (by omega) (by omega),Aa,show ((Ek s.2.1 s.1 s.2.2.1).1.1,(Ek s.2.1 s.1 s.2.2.1).1.2.1,(Ek s.2.1 s.1 s.2.2.1).1.2.2.1,(Ek s.2.1 s.1 s.2.2.1).1.2.2.2) = (Ek s.2.1 s.1 s.2.2.1).1 by rfl,QM g,Aa]
  generalize Ld (Ek s.2.1 s.1 s.2.2.1).1 a = r at *
  obtain ⟨P,b⟩:=r
  cases b with
  | false=>rfl
  | true =>
   dsimp only at e f ⊢
   rw [if_neg (by simp),if_pos rfl]
   unfold Oc
   cases P with
   | nil=>rfl
   | cons q P =>
    rw [if_neg (by simp; omega),Yd e (by omega),Aa,if_neg (by simp)]
 ·unfold C5 Q3 Hn ED Bk
  dsimp only
  rw [if_neg (by decide),if_pos (by rfl),Im,Aa,show (E7 s c).1 = s.1 by rfl,show (E7 s c).2.1 = s.2.1 by rfl,show (E7 s c).2.2.1 = s.2.2.1 by rfl,LT (by omega) (by omega),Aa,Aa,Q8 g,Aa]
  cases m:(Ek s.2.1 s.1 s.2.2.1).2 with
  | false =>
   rw [UT m,ZW]
   rfl
  | true =>
   generalize Ld (Ek s.2.1 s.1 s.2.2.1).1 a = r at *
   obtain ⟨P,b⟩:=r
   cases b with
   | false=>rfl
   | true =>
    dsimp only at e f ⊢
    rw [if_neg (by simp),if_neg (by simp),Yc e (by omega),Aa,if_pos rfl]
theorem Abi {s:FSx} (h:Kf s) {n:List Int} (l:n.length = 1):Pb s SI n:=by
 obtain ⟨a,rfl⟩:=Xz l
 have h1:=Dc h.ch
 have u:=Dc h.ke
 have f:=US s.2.1 s.1 s.2.2.1
 have g:=ZP (Ek s.2.1 s.1 s.2.2.1).1 a
 have e:=Od (r:=Mc (Ek s.2.1 s.1 s.2.2.1).1 a) g.1 (by omega)
 refine ⟨OP (Mc (Ek s.2.1 s.1 s.2.2.1).1 a),NW g.1 (by omega),?_,fun c=>?_⟩
 ·unfold Ca SI Ws
  dsimp only
  rw [if_neg (by decide),if_neg (by decide),if_pos (by rfl),Me (by omega) (by omega),Aa,Im,Aa,show ((Ek s.2.1 s.1 s.2.2.1).1.1,(Ek s.2.1 s.1 s.2.2.1).1.2.1,(Ek s.2.1 s.1 s.2.2.1).1.2.2.1,(Ek s.2.1 s.1 s.2.2.1).1.2.2.2) = (Ek s.2.1 s.1 s.2.2.1).1 by rfl,To f,Aa,e.1,Aa]
 ·unfold C5 SI ED
  rw [if_neg (by decide),if_neg (by decide),if_pos (by rfl),show (E7 s c).1 = s.1 by rfl,show (E7 s c).2.1 = s.2.1 by rfl,show (E7 s c).2.2.1 = s.2.2.1 by rfl,LT (by omega) (by omega),Aa,Aa,Im,Aa]
  cases m:(Ek s.2.1 s.1 s.2.2.1).2 with
  | true=>rw [if_neg (by simp),SR f,Aa,e.2,Aa]
  | false =>
   rw [if_pos (by rfl),UT m,ZO]
   rfl
theorem Aaf {s:FSx} (h:Kf s) {n:List Int}:Pb s Q2 n:=by
 obtain ⟨g,l,f,m⟩:=Sx h.ch
 have e:=Od (r:=MU s.1) f (by omega)
 refine ⟨OP (MU s.1),NW f (by omega),?_,fun c=>?_⟩
 ·unfold Ca Q2
  rw [if_neg (by decide),if_neg (by decide),if_neg (by decide),if_pos (by rfl),g,Aa,e.1,Aa]
 ·unfold C5 Q2
  rw [if_neg (by decide),if_neg (by decide),if_neg (by decide),if_pos (by rfl),show (E7 s c).1 = s.1 by rfl,l,Aa,e.2,Aa]
theorem Abg {s:FSx} (h:Kf s) {n:List Int} (l:n.length = 1) (m:Ph n):Pb s SF n:=by
 obtain ⟨a,rfl⟩:=Xz l
 have g:=m a (by simp)
 have f:=Zu h.mu (c:=a) g.2
 have e:=Od (r:=Nu s.2.2.2.1 a) f.1 (by omega)
 refine ⟨OP (Nu s.2.2.2.1 a),NW f.1 (by omega),?_,fun c=>?_⟩
 ·unfold Ca SF
  rw [if_neg (by decide),if_neg (by decide),if_neg (by decide),if_neg (by decide),if_neg (by decide),if_neg (by decide),if_pos (by rfl),Im,Aa,Xh h.mu,Aa,e.1,Aa]
 ·unfold C5 SF
  rw [if_neg (by decide),if_neg (by decide),if_neg (by decide),if_neg (by decide),if_pos (by rfl),Im,Aa,show (E7 s c).2.2.2.1 = s.2.2.2.1 by rfl,Xc h.mu,Aa,e.2,Aa]
theorem Acw {s:FSx} (h:Kf s) {n:List Int} (f:n.length = 2):Pb s VC n:=by
 obtain ⟨a,b,rfl⟩:=nl2 f
 have e:=Aax h.ca a b
 refine ⟨if (MX s.2.2.2.2.1 a b).2 = true then Lib.decDigits (MX s.2.2.2.2.1 a b).1.toNat else [110,111,110,101],?_,?_,fun c=>?_⟩
 ·split
  ·have:=Hw (k:=1) (u:=(MX s.2.2.2.2.1 a b).1.toNat) (by omega)
   omega
  ·decide
 ·unfold Ca VC
  rw [if_neg (by decide),if_neg (by decide),if_neg (by decide),if_neg (by decide),if_neg (by decide),if_neg (by decide),if_neg (by decide),if_pos (by rfl),Im,Aa,MV,Aa,TW h.ca,Aa,L8 e.1 (by omega),Aa]
  cases (MX s.2.2.2.2.1 a b).2 <;> rfl
 ·unfold C5 VC
  rw [if_neg (by decide),if_neg (by decide),if_neg (by decide),if_neg (by decide),if_neg (by decide),if_pos (by rfl),Im,Aa,MV,Aa,show (E7 s c).2.2.2.2.1 = s.2.2.2.2.1 by rfl,TH h.ca,Aa,JU e.1 (by omega),Aa]
  cases (MX s.2.2.2.2.1 a b).2 <;> rfl
theorem Aad {s:FSx} (h:Kf s) {n:List Int} (f:n.length = 1):Pb s Qz n:=by
 obtain ⟨a,rfl⟩:=Xz f
 obtain ⟨⟨z,b⟩,l,m,e⟩:=WA h.ve a
 refine ⟨if b = true then Gr (z.map Mu) else [110,111],?_,?_,fun c=>?_⟩
 ·split
  ·rename_i g
   obtain ⟨u,g⟩:=e g
   have:=QI (B:=3) (z.map Mu) (fun w v=>by
    obtain ⟨n,f,rfl⟩:=List.mem_map.1 v
    exact Rk (g n f).2)
   rw [List.length_map] at this
   dsimp only at u
   omega
  ·decide
 ·unfold Ca Qz Fw
  rw [if_neg (by decide),if_neg (by decide),if_neg (by decide),if_neg (by decide),if_neg (by decide),if_neg (by decide),if_neg (by decide),if_neg (by decide),Im,Aa,l,Aa]
  cases b with
  | false=>rfl
  | true =>
   rw [if_neg (by simp),Vf (e rfl),Aa]
   rfl
 ·unfold C5 Qz
  rw [if_neg (by decide),if_neg (by decide),if_neg (by decide),if_neg (by decide),if_neg (by decide),if_neg (by decide),if_pos (by rfl),Im,Aa,show (E7 s c).2.2.2.2.2.1 = s.2.2.2.2.2 by rfl,m,Aa]
  cases b with
  | false=>rfl
  | true =>
   rw [if_neg (by simp),Xj (e rfl),Aa]
   rfl
theorem Abh {s:FSx} (h:Kf s) {n:List Int} (g:n.length = 1) (l:Ph n):Pb s SG n:=by
 obtain ⟨a,rfl⟩:=Xz g
 have f:=l a (by simp)
 have h1:=Dc h.ch
 refine ⟨if (s.1.length:Int) ≤ a then [110,111] else PA (DX s.1 a.toNat),?_,?_,fun c=>?_⟩
 ·split
  ·decide
  ·have:=Yu (I3 h.ch (i:=a.toNat) (by omega))
   omega
 ·unfold Ca SG
  rw [if_neg (by decide),if_neg (by decide),if_neg (by decide),if_neg (by decide),if_pos (by rfl),Im,Aa,Aa]
  by_cases e:(s.1.length:Int) ≤ a
  ·rw [if_pos (decide_eq_true e),if_pos e]
  ·rw [if_neg (by simpa using e),if_neg e,It f.1,Dr (by omega),Aa,Vk (I3 h.ch (by omega)),Aa]
 ·unfold C5 SG
  rw [if_neg (by decide),if_neg (by decide),if_neg (by decide),if_neg (by decide),if_neg (by decide),if_neg (by decide),if_neg (by decide)]
  obtain ⟨m,u⟩:∃ m,FU = m + 2:=⟨FU - 2,rfl⟩
  rw [u,CA,if_pos (by simp),Im,Aa,show (E7 s c).1 = s.1 by rfl]
  by_cases e:(s.1.length:Int) ≤ a
  ·rw [if_pos (decide_eq_true e),if_pos e]
  ·rw [if_neg (by simpa using e),if_neg e,show Af (0 + 1) = 1 by decide,CA,if_neg (by simp),if_pos (by rfl),Im,Aa,show (E7 s c).1 = s.1 by rfl,It f.1,Dr (by omega),Aa,WW (I3 h.ch (by omega)),Aa]
theorem Aae {s:FSx} (h:Kf s) {n:List Int} (hn:n.length = 2) (hs:Ph n):Pb s NF n:=by
 obtain ⟨a,b,rfl⟩:=nl2 hn
 have u:=hs a (by simp)
 have v:=hs b (by simp)
 have h1:=Dc h.ch
 by_cases e:(s.1.length:Int) ≤ Fx a b
 ·have ai:(s.1.length:Int) ≤ a ∨ (s.1.length:Int) ≤ b:=by unfold Fx at e; split at e <;> omega
  refine ⟨[110,111],by decide,?_,fun c=>?_⟩
  ·unfold Ca NF
   rw [if_neg (by decide),if_neg (by decide),if_neg (by decide),if_neg (by decide),if_neg (by decide),if_pos (by rfl),Im,Aa,MV,Aa,if_pos (decide_eq_true e)]
  ·unfold C5 NF
   rw [if_neg (by decide),if_neg (by decide),if_neg (by decide),if_neg (by decide),if_neg (by decide),if_neg (by decide),if_neg (by decide)]
   obtain ⟨m,g⟩:∃ m,FU = m + 3:=⟨FU - 3,rfl⟩
   rw [g,CA,if_pos (by simp),Im,Aa,show (E7 s c).1 = s.1 by rfl]
   by_cases f:(s.1.length:Int) ≤ a
   ·rw [if_pos (decide_eq_true f)]
   ·rw [if_neg (by simpa using f),show Af (0 + 1) = 1 by decide,CA,if_pos (by simp),MV,Aa,show (E7 s c).1 = s.1 by rfl,if_pos (decide_eq_true (by omega))]
 ·have f:¬ (s.1.length:Int) ≤ a:=by unfold Fx at e; split at e <;> omega
  have ac:¬ (s.1.length:Int) ≤ b:=by unfold Fx at e; split at e <;> omega
  obtain ⟨e1,e2,b1,b2⟩:=Uo (I3 h.ch (i:=a.toNat) (by omega)) (I3 h.ch (i:=b.toNat) (by omega))
  have l:=Od (r:=NK (DX s.1 a.toNat) (DX s.1 b.toNat)) b1 (by omega)
  refine ⟨OP (NK (DX s.1 a.toNat) (DX s.1 b.toNat)),NW b1 (by omega),?_,fun c=>?_⟩
  ·unfold Ca NF
   rw [if_neg (by decide),if_neg (by decide),if_neg (by decide),if_neg (by decide),if_neg (by decide),if_pos (by rfl),Im,Aa,MV,Aa,if_neg (by simpa using e),Aa,It u.1,Dr (by omega),Aa,Aa,It v.1,Dr (by omega),Aa,e1,Aa,l.1,Aa]
  ·unfold C5 NF
   rw [if_neg (by decide),if_neg (by decide),if_neg (by decide),if_neg (by decide),if_neg (by decide),if_neg (by decide),if_neg (by decide)]
   obtain ⟨m,g⟩:∃ m,FU = m + 3:=⟨FU - 3,rfl⟩
   rw [g,CA,if_pos (by simp),Im,Aa,show (E7 s c).1 = s.1 by rfl,if_neg (by simpa using f),show Af (0 + 1) = 1 by decide,CA,if_pos (by simp),MV,Aa,show (E7 s c).1 = s.1 by rfl,if_neg (by simpa using ac),show Af (1 + 1) = 2 by decide,CA,if_neg (by simp),if_neg (by decide),Im,Aa,show (E7 s c).1 = s.1 by rfl,It u.1,Dr (by omega),Aa,MV,Aa,It v.1,Dr (by omega),Aa,e2,Aa,l.2,Aa]
structure V9 (s:FSx) (l:List Aj) (r:List Aj) (s':FSx):Prop where
 ok:Kf s'
 len:r.length ≤ 1000
 car:s'.2.2.2.2.1.length ≤ s.2.2.2.2.1.length + 1
 im:Dx s l = some (r,s')
 sp:∀ c,Ec (E7 s c) l = some (r,E7 s' c)
 no:r = [110,111] ∨ r = [119,104,97,116] → s' = s
theorem Zy (c:Aj) (l:List Aj):∃ w e,CZ c l = w :: e:=by
 cases h:CZ c l with
 | nil=>have:=Jh c l; rw [h] at this; simp at this
 | cons w e=>exact ⟨w,e,rfl⟩
theorem Ab9 {b:Bool} (h:Qc b = [110,111] ∨ Qc b = [119,104,97,116]):b = false:=by
 cases b with
 | false=>rfl
 | true=>rcases h with h | h <;> exact absurd h (by decide)
theorem Yv (c:Aj):∀ (m:List Aj),∀ b ∈ CZ c m,b.length ≤ m.length:=by
 intro m
 induction m with
 | nil=>intro b e; simp [CZ] at e; simp [e]
 | cons x m f =>
  intro b e
  rw [CZ] at e
  split at e
  ·rcases List.mem_cons.1 e with rfl | e
   ·simp
   ·have:=f b e; simp; omega
  ·cases g:CZ c m with
   | nil=>have:=Jh c m; rw [g] at this; simp at this
   | cons a t =>
    rw [g] at e f
    rcases List.mem_cons.1 e with rfl | e
    ·have:=f a (List.mem_cons_self ..); simp; omega
    ·have:=f b (List.mem_cons_of_mem _ e); simp; omega
theorem XE {s:FSx} (h:Kf s) (u:s.2.2.2.2.1.length ≤ 39) {w:List Aj} {f:List Int} (g:Ph f) (m:OW w = (f.length:Int)) :
  (∃ F,T1 s w f F ∧ (w ∈ IR ∧ F = BH ∨ w ∈ OX ∧ F = CI)) ∨ (w ∈ LG ∧ Pb s w f):=by
 have l:=ZN (w:=w) (by rw [m]; omega)
 have len:∀ k:Nat,OW w = (k:Int) → f.length = k:=fun k e=>by rw [e] at m; omega
 simp only [IR,OX,LG,List.cons_append,List.nil_append,List.mem_cons,List.not_mem_nil,or_false] at l
 rcases l with rfl | rfl | rfl | rfl | rfl | rfl | rfl | rfl | rfl | rfl | rfl | rfl | rfl | rfl | rfl | rfl | rfl
 ·exact .inl ⟨_,Abb h (len 2 rfl),.inl ⟨by simp [IR],rfl⟩⟩
 ·exact .inl ⟨_,ZY h (len 3 rfl),.inl ⟨by simp [IR],rfl⟩⟩
 ·exact .inl ⟨_,Zi h,.inl ⟨by simp [IR],rfl⟩⟩
 ·exact .inl ⟨_,Abc h,.inl ⟨by simp [IR],rfl⟩⟩
 ·exact .inl ⟨_,Zj h (len 1 rfl),.inl ⟨by simp [IR],rfl⟩⟩
 ·exact .inl ⟨_,Yg h (len 2 rfl),.inr ⟨by simp [OX],rfl⟩⟩
 ·exact .inl ⟨_,ZZ h u (len 4 rfl) g,.inr ⟨by simp [OX],rfl⟩⟩
 ·exact .inl ⟨_,Yf h (len 3 rfl),.inr ⟨by simp [OX],rfl⟩⟩
 ·exact .inr ⟨by simp [LG],Acx h⟩
 ·exact .inr ⟨by simp [LG],Aag h (len 1 rfl)⟩
 ·exact .inr ⟨by simp [LG],Abi h (len 1 rfl)⟩
 ·exact .inr ⟨by simp [LG],Aaf h⟩
 ·exact .inr ⟨by simp [LG],Abg h (len 1 rfl) g⟩
 ·exact .inr ⟨by simp [LG],Acw h (len 2 rfl)⟩
 ·exact .inr ⟨by simp [LG],Aad h (len 1 rfl)⟩
 ·exact .inr ⟨by simp [LG],Abh h (len 1 rfl) g⟩
 ·exact .inr ⟨by simp [LG],Aae h (len 2 rfl) g⟩
theorem ZE {l:List (List Aj)} {f:List Int} (h:IM Pj l = some f):Ph f:=by
 refine Wm (fun x y e=>?_) h
 unfold Pj at e
 split at e
 ·rename_i g
  cases e
  exact D9.1 g
 ·cases e
theorem Z6 (s:FSx) (w:List Aj) {f:List (List Aj)} (hl:f.length ≤ 2000) (hm:∀ a ∈ f,a.length ≤ 2000):BS f s w FU [] 0 = match IM Pj f with
  | none=>some ([119,104,97,116],s)
  | some l=>BS f s w 1 l (f.length:Int):=by
 refine (V5 (BS f s w) f Pj (fun l=>BS f s w 1 l (f.length:Int)) (some ([119,104,97,116],s)) (by omega) (fun m k ad x g ha=>?_) (fun m ad ha=>?_)).trans (by cases IM Pj f <;> rfl)
 ·have hk:=(List.getElem?_eq_some_iff.1 g).1
  have ah:=hm x (List.mem_of_getElem? g)
  rw [BS,if_pos (by simp; omega),AY,g,Aa,Wu x (by omega),Aa,AD (by omega)]
  unfold Bk Pj
  dsimp only
  cases v:BJ (Lc x) 0 99999 with
  | true =>
   obtain ⟨e,u⟩:=Xe v
   rw [e,if_neg (by simp),if_neg (by simp; omega),Bt (by simp; omega),Aa,if_pos rfl]
  | false =>
   rw [if_neg (c:=false = true) (by simp)]
   cases hb:(LZ x).2 with
   | false=>rw [if_pos (by rfl),if_pos rfl]
   | true =>
    have u:99999 < (LZ x).1:=by
     rcases Wg v with h | h
     ·rw [hb] at h; cases h
     ·exact h
    rw [if_neg (by simp),if_pos (decide_eq_true u)]
 ·rw [BS,BS,if_neg (by simp),if_neg (by simp)]
theorem YV (x:SpT) (u:List (List Aj)) {e:List (List Aj)} (hl:e.length ≤ 2000) (l:∀ a ∈ e,a.length ≤ 2000):BR e x u FU [] 0 = match IM Pj e with
  | none=>some ([119,104,97,116],x)
  | some g=>BR e x u 1 g (e.length:Int):=by
 refine (V5 (BR e x u) e Pj (fun g=>BR e x u 1 g (e.length:Int)) (some ([119,104,97,116],x)) (by omega) (fun m k s y f h=>?_) (fun m s h=>?_)).trans (by cases IM Pj e <;> rfl)
 ·have v:=(List.getElem?_eq_some_iff.1 f).1
  have ab:=l y (List.mem_of_getElem? f)
  rw [BR,if_pos (by simp; omega),AY,f,Aa,YY y (by omega),Aa,CU,Aa,AD (by omega),Bt (by simp; omega),Aa]
  unfold Pj
  cases BJ (Lc y) 0 99999 <;> rfl
 ·rw [BR,BR,if_neg (by simp),if_neg (by simp)]
theorem UU {s:FSx} (h:Kf s) (ay:s.2.2.2.2.1.length ≤ 39) {l:List Aj} (hl:l.length ≤ 2000):∃ r s',V9 s l r s':=by
 obtain ⟨w,f,ah⟩:=Zy 32 l
 have am:f.length ≤ 2000:=by
  have h1:=Jh 32 l
  have h2:l.count 32 ≤ l.length:=List.count_le_length
  rw [ah,List.length_cons] at h1
  omega
 have av:∀ a ∈ f,a.length ≤ 2000:=fun a ha=>by
  have:=Yv 32 l a (by rw [ah]; exact List.mem_cons_of_mem _ ha)
  omega
 have a1:FZ l [32] = some (w :: f):=by rw [← ah]; exact Xr l 32 (by omega)
 have a0:FN l 32 = some (w :: f):=by rw [← ah]; exact SP l 32 (by omega)
 have ao:sl (w :: f) 1 (((w :: f).length:Nat):Int) = some f:=SU (w :: f) (k:=1) (by simp)
 have im:Dx s l = match IM Pj f with
  | none=>some ([119,104,97,116],s)
  | some m=>BS f s w 1 m (f.length:Int):=by
  unfold Dx
  rw [a1,Aa,Im,Aa,ao,Aa,Z6 s w am av]
 have sp:∀ c,Ec (E7 s c) l = if (f.length:Int) ≠ OW w then some ([119,104,97,116],E7 s c) else match IM Pj f with
  | none=>some ([119,104,97,116],E7 s c)
  | some m=>BR f (E7 s c) (w :: f) 1 m (f.length:Int):=by
  intro c
  unfold Ec
  rw [a0,Aa,Im,Aa,Tq,Aa,ao,Aa,YV _ _ am av,A6 (by rw [List.length_cons]; omega) (by rw [List.length_cons]; omega),show (((w :: f).length:Nat):Int) - 1 = (f.length:Int) by simp]
  by_cases e:(f.length:Int) = OW w
  ·rw [if_neg (by simpa using e),if_neg (by simpa using e)]
  ·rw [if_pos (by simpa using e),if_pos e]
 have aw:(∀ c,Ec (E7 s c) l = some ([119,104,97,116],E7 s c)) → Dx s l = some ([119,104,97,116],s) → ∃ r s',V9 s l r s':=fun a b=>⟨_,s,h,by decide,Nat.le_succ _,b,a,fun _=>rfl⟩
 cases ad:IM Pj f with
 | none =>
  rw [ad] at im
  refine aw (fun c=>?_) im
  rw [sp c,ad]
  split <;> rfl
 | some m =>
  have au:=Wn ad
  rw [ad] at im
  dsimp only at im
  rw [BS,if_neg (by simp),TA,Aa] at im
  by_cases hc:OW w = (m.length:Int)
  ·rw [if_neg (by simp [hc])] at im
   have aq:∀ c,Ec (E7 s c) l = BR f (E7 s c) (w :: f) 1 m (f.length:Int):=fun c=>by
    rw [sp c,if_neg (by rw [hc,au]; simp),ad]
   rcases XE h ay (ZE ad) hc with ⟨F,⟨ok,s',g1,g2,g3,g4,g5⟩,hF⟩ | ⟨g,r,g1,g2,g3⟩
   ·refine ⟨Qc ok,s',g1,by cases ok <;> decide,g3,?_,fun c=>?_,fun e=>g2 (Ab9 e)⟩
    ·rw [im]
     rcases hF with ⟨g,rfl⟩ | ⟨g,rfl⟩
     ·simp only [IR,List.mem_cons,List.not_mem_nil,or_false] at g
      have ab:(Option.bind (BH s w m) fun u=>some (u.1,u.2)) = some (Qc ok,s'):=by rw [g4]; rfl
      rcases g with rfl | rfl | rfl | rfl | rfl <;> exact ab
     ·simp only [OX,List.mem_cons,List.not_mem_nil,or_false] at g
      have ab:(Option.bind (CI s w m) fun u=>some (u.1,u.2)) = some (Qc ok,s'):=by rw [g4]; rfl
      rcases g with rfl | rfl | rfl <;> exact ab
    ·rw [aq c,BR,if_neg (by simp)]
     have ab:(Option.bind (C1 (E7 s c) w m) fun u=>Option.bind (Ja u.1) fun v=>some (v,u.2)) = some (Qc ok,E7 s' c):=by rw [g5,Aa,Aba]; rfl
     have ap:w ∈ IR ++ OX:=by
      rcases hF with ⟨g,_⟩ | ⟨g,_⟩
      ·exact At _ g
      ·exact Bh _ g
     simp only [IR,OX,List.cons_append,List.nil_append,List.mem_cons,List.not_mem_nil,or_false] at ap
     rcases ap with rfl | rfl | rfl | rfl | rfl | rfl | rfl | rfl <;> exact ab
   ·refine ⟨r,s,h,g1,Nat.le_succ _,?_,fun c=>?_,fun _=>rfl⟩
    ·rw [im]
     have ab:(Option.bind (Ca s w m) fun u=>some (u,s)) = some (r,s):=by rw [g2]; rfl
     simp only [LG,List.mem_cons,List.not_mem_nil,or_false] at g
     rcases g with rfl | rfl | rfl | rfl | rfl | rfl | rfl | rfl | rfl <;> exact ab
    ·rw [aq c,BR,if_neg (by simp)]
     have ab:(Option.bind (C5 (E7 s c) w m) fun u=>some (u,E7 s c)) = some (r,E7 s c):=by rw [g3]; rfl
     simp only [LG,List.mem_cons,List.not_mem_nil,or_false] at g
     rcases g with rfl | rfl | rfl | rfl | rfl | rfl | rfl | rfl | rfl <;> exact ab
  ·rw [if_pos (by simpa using fun e=>hc e.symm)] at im
   refine aw (fun c=>?_) im
   rw [sp c,if_pos (by rw [← au]; exact fun e=>hc e.symm)]
def LR (s:FSx) (l:List Aj):List Aj × FSx:=(Dx s l).getD ([],s)
def LB (s:FSx):List (List Aj) → FSx
 | []=>s
 | l :: ls=>LB (LR s l).2 ls
def Lm (s:FSx):List (List Aj) → List (List Aj)
 | []=>[]
 | l :: ls=>(LR s l).1 :: Lm (LR s l).2 ls
theorem O4 (l:List Aj):∀ (e:List (List Aj)) (s:FSx),LB s (e ++ [l]) = (LR (LB s e) l).2
 | [],s=>rfl
 | a :: e,s=>O4 l e (LR s a).2
theorem QB (l:List Aj):∀ (e:List (List Aj)) (s:FSx),Lm s (e ++ [l]) = Lm s e ++ [(LR (LB s e) l).1]
 | [],s=>rfl
 | a :: e,s=>by rw [List.cons_append,Lm,QB l e,Lm,LB]; rfl
theorem NN:∀ (e:List (List Aj)) (s:FSx),(Lm s e).length = e.length
 | [],s=>rfl
 | a :: e,s=>by rw [Lm,List.length_cons,NN e,List.length_cons]
def KH:FSx:=([(0,0)],[(0,0)],8,[(4,120)],[],[((-1),0,0)])
theorem Aby:Kf KH:=⟨by decide,by decide,by decide,by decide,by decide⟩
theorem Xo {s:FSx} {l r:List Aj} {e:FSx} (h:V9 s l r e):LR s l = (r,e):=by unfold LR; rw [h.im]; rfl
structure Ad1 (ls:List (List Aj)) (k:Nat):Prop where
 ok:Kf (LB KH (ls.take k))
 car:(LB KH (ls.take k)).2.2.2.2.1.length ≤ k
 rep:∀ r ∈ Lm KH (ls.take k),r.length ≤ 1000
theorem LI {α:Type} (l:List α) {k:Nat} (h:k < l.length):l.take (k + 1) = l.take k ++ [l[k]]:=List.take_succ_eq_append_getElem h
theorem Ov {l:List (List Aj)} (v:l.length ≤ 40) (s:∀ a ∈ l,a.length ≤ 2000):∀ k,k ≤ l.length → Ad1 l k
 | 0,_=>⟨Aby,Nat.le_refl _,fun r u=>by cases u⟩
 | k + 1,h=>by
  have f:=Ov v s k (by omega)
  have hc:=f.car
  obtain ⟨r,s',g⟩:=UU f.ok (by omega) (s l[k] (List.getElem_mem _))
  have e:=Xo g
  refine ⟨?_,?_,?_⟩
  ·rw [LI l (by omega),O4,e]; exact g.ok
  ·rw [LI l (by omega),O4,e]; exact Ay g.car (by omega)
  ·rw [LI l (by omega),QB,e]
   intro x m
   rcases AX.1 m with m | m
   ·exact f.rep x m
   ·rw [List.mem_singleton] at m; rw [m]; exact g.len
theorem VX {e:List (List Aj)} (m:e.length ≤ 40) (h:∀ a ∈ e,a.length ≤ 2000) {k:Nat} (l:k < e.length):V9 (LB KH (e.take k)) e[k] (LR (LB KH (e.take k)) e[k]).1 (LB KH (e.take (k + 1))):=by
 have f:=Ov m h k (by omega)
 have u:=f.car
 obtain ⟨r,s,g⟩:=UU f.ok (by omega) (h e[k] (List.getElem_mem _))
 rw [LI e l,O4,Xo g]
 exact g
theorem UO (e:List (List Aj)) {k:Nat} (f:k < e.length):Lm KH (e.take (k + 1)) = Lm KH (e.take k) ++ [(LR (LB KH (e.take k)) e[k]).1]:=by rw [LI e f,QB]
def Hv (p:List Aj → Bool) (rs:List (List Aj)):List Int:=((List.range rs.length).filter fun i=>p ((rs[i]?).getD [])).map fun (i:Nat)=>(i:Int) + 1
theorem QN (p:List Aj → Bool) (e:List (List Aj)) (r:List Aj):Hv p (e ++ [r]) = Hv p e ++ if p r = true then [(e.length:Int) + 1] else []:=by
 unfold Hv
 rw [CD,List.length_singleton,List.range_succ,List.filter_append,List.map_append]
 have f:(List.range e.length).filter (fun i=>p (((e ++ [r])[i]?).getD [])) = (List.range e.length).filter fun i=>p ((e[i]?).getD []):=by
  refine List.filter_congr fun i l=>?_
  rw [List.getElem?_append_left (List.mem_range.1 l)]
 rw [f,List.filter_cons]
 have g:(e ++ [r])[e.length]? = some r:=by simp
 rw [g]
 cases h:p r <;> simp [h]
def Mx (r:List Aj):Bool:=r == [110,111]
def LH (r:List Aj):Bool:=r == [119,104,97,116]
theorem KP (p:List Aj → Bool) (e:List (List Aj)):(Hv p e).length ≤ e.length:=by
 unfold Hv
 rw [List.length_map]
 exact Ay (List.length_filter_le _ _) (by simp)
structure Ad0 (l:List Aj):Prop where
 n40:(Ds l).length ≤ 40
 each:∀ a ∈ Ds l,a.length ≤ 2000
theorem QA {l:List Aj} (h:Hu l = true):Ad0 l:=by
 obtain ⟨h1,g,f⟩:=GN.1 h
 exact ⟨by rw [PJ g]; exact f,fun a e=>Ay (XQ e) h1⟩
def XV (l:List Aj):FSx:=LB KH (Ds l)
def JW (l:List Aj):List (List Aj):=Lm KH (Ds l)
theorem YB {l:List Aj} (h:Hu l = true):(JW l).length ≤ 40 ∧ ∀ r ∈ JW l,r.length ≤ 1000:=by
 have f:=QA h
 have g:=(Ov f.n40 f.each _ (Nat.le_refl _)).rep
 rw [List.take_length] at g
 exact ⟨by unfold JW; rw [NN]; exact f.n40,g⟩
theorem TT {l:List Aj} (u:l.length ≤ 4194304):ID l = some (if Hu l = true then ((true,XV l),JW l,true) else ((false,([],[],0,[],[],[])),[],false)):=by
 unfold ID
 rw [TJ l u,Aa]
 unfold N5
 cases h:Hu l with
 | false=>rfl
 | true =>
  have f:=QA h
  rw [if_pos rfl,if_neg (by simp),if_pos rfl]
  unfold KD
  rw [Aa]
  refine Eq.trans (EF (fun m (z:FSx × List (List Aj)) k=>Es (Ds l,true) m z.1 z.2 k) (Ds l).length (fun k=>(LB KH ((Ds l).take k),Lm KH ((Ds l).take k))) (some ((true,XV l),JW l,true)) (by have:=f.n40; omega) (j:=0) (by omega) (fun m k _ e=>?_) (fun m=>?_)) rfl
  ·have g:=VX f.n40 f.each e
   have s:=NN ((Ds l).take k) KH
   rw [List.length_take,Nat.min_eq_left (by omega)] at s
   have v:=f.n40
   rw [Es,if_pos (by simp; omega),AY,Cp e,Aa,g.im,Aa,Bt (by simp; omega),Aa,AD (by omega),UO _ e]
  ·rw [Es,if_neg (by simp),List.take_length]
   rfl
def ctK (rs:List (List Aj)):CtT:=(Hv Mx rs,Hv LH rs,0)
theorem XK {l:List Aj} (hl:l.length ≤ 4194304):KV l = some (if Hu l = true then (E7 (XV l) (Hv Mx (JW l),Hv LH (JW l),((Ds l).length:Int)),KB (JW l),true) else (E7 KH ([],[],0),[],false)):=by
 unfold KV Lf
 rw [XZ l hl,Aa,Aa]
 unfold N5
 cases h:Hu l with
 | false=>rfl
 | true =>
  have f:=QA h
  have ah:=f.n40
  rw [if_pos rfl,if_neg (by simp),if_pos rfl]
  refine Eq.trans (EF (fun m (z:SpT × List Aj) k=>Gb (Ds l,true) m z.1 z.2 k) (Ds l).length (fun k=>(E7 (LB KH ((Ds l).take k)) (ctK (Lm KH ((Ds l).take k))),KB (Lm KH ((Ds l).take k)))) (some (E7 (XV l) (Hv Mx (JW l),Hv LH (JW l),((Ds l).length:Int)),KB (JW l),true)) (by omega) (j:=0) (by omega) (fun m k _ v=>?_) (fun m=>?_)) rfl
  ·have g:=VX f.n40 f.each v
   have hr:=NN ((Ds l).take k) KH
   have ac:=(Ov f.n40 f.each k (by omega)).rep
   rw [List.length_take,Nat.min_eq_left (by omega)] at hr
   have hj:=UV 1000 _ ac
   have h1:=KP Mx (Lm KH ((Ds l).take k))
   have h2:=KP LH (Lm KH ((Ds l).take k))
   have aj:=g.len
   rw [Gb,if_pos (by simp; omega),AY,Cp v,Aa,g.sp,Aa,UO _ v]
   generalize (LR (LB KH ((Ds l).take k)) (Ds l)[k]).1 = r at *
   unfold Bk ctK E7
   dsimp only
   rw [Wr,QN,QN,hr,AD (by omega)]
   have ej:KB [r] = r ++ [10]:=by unfold KB; simp
   rw [ej]
   by_cases e:r = [110,111]
   ·have n1:Mx r = true:=by rw [e]; rfl
    have s:LH r = false:=by rw [e]; rfl
    rw [if_pos (by rw [e]; rfl),n1,s,if_pos rfl,if_neg (c:=false = true) (by simp),List.append_nil,Bt (by simp; omega),Aa,Bt (by simp; omega),Aa,Bt (by simp; omega),Aa]
    rfl
   ·have n1:Mx r = false:=beq_eq_false_iff_ne.2 e
    rw [if_neg (by simpa using e),n1,if_neg (c:=false = true) (by simp),List.append_nil]
    by_cases u:r = [119,104,97,116]
    ·have s:LH r = true:=by rw [u]; rfl
     rw [if_pos (by rw [u]; rfl),s,if_pos rfl,Bt (by simp; omega),Aa,Bt (by simp; omega),Aa,Bt (by simp; omega),Aa]
     rfl
    ·have s:LH r = false:=beq_eq_false_iff_ne.2 u
     rw [if_neg (by simpa using u),s,if_neg (c:=false = true) (by simp),List.append_nil,Bt (by simp; omega),Aa,Bt (by simp; omega),Aa]
  ·rw [Gb,if_neg (by simp),List.take_length]
   rfl
theorem UX (p:List Aj → Bool) (e:List (List Aj)) {k:Nat} (h:k < e.length):Hv p (e.take (k + 1)) = Hv p (e.take k) ++ if p e[k] = true then [(k:Int) + 1] else []:=by
 rw [LI e h,QN,List.length_take,Nat.min_eq_left (by omega)]
def Tr (l:List Aj):Int × Int × Int × Bool:=if Hu l = true then (((Hv Mx (JW l)).length:Int),((Hv LH (JW l)).length:Int),((JW l).length:Int) - ((Hv Mx (JW l)).length:Int) - ((Hv LH (JW l)).length:Int),true) else (0,0,0,false)
theorem Zh {e:List (List Aj)} (v:e.length ≤ 40):Dn e FU 0 0 0 = some (((Hv Mx e).length:Int),((Hv LH e).length:Int),(e.length:Int) - ((Hv Mx e).length:Int) - ((Hv LH e).length:Int),true):=by
 refine Eq.trans (EF (fun m (z:Int × Int) k=>Dn e m z.1 z.2 k) e.length (fun k=>(((Hv Mx (e.take k)).length:Int),((Hv LH (e.take k)).length:Int))) (some (((Hv Mx e).length:Int),((Hv LH e).length:Int),(e.length:Int) - ((Hv Mx e).length:Int) - ((Hv LH e).length:Int),true)) (by omega) (j:=0) (by omega) (fun m k _ l=>?_) (fun m=>?_)) rfl
 ·have h1:=KP Mx (e.take k)
  have u:=KP LH (e.take k)
  rw [List.length_take,Nat.min_eq_left (by omega)] at h1 u
  rw [Dn,if_pos (by simp; omega)]
  unfold Fz
  dsimp only
  rw [AY,Cp l,Aa,UX _ _ l,UX _ _ l,AD (k:=k) (by omega)]
  by_cases f:e[k] = [110,111]
  ·have s:Mx e[k] = true:=by rw [f]; rfl
   have g:LH e[k] = false:=by rw [f]; rfl
   rw [if_pos (by rw [f]; rfl),s,g,if_pos rfl,if_neg (c:=false = true) (by simp),List.append_nil,CD,AD (by omega)]
   rfl
  ·have s:Mx e[k] = false:=beq_eq_false_iff_ne.2 f
   rw [if_neg (by simpa using f),s,if_neg (c:=false = true) (by simp),List.append_nil]
   by_cases h:e[k] = [119,104,97,116]
   ·have g:LH e[k] = true:=by rw [h]; rfl
    rw [if_pos (by rw [h]; rfl),g,if_pos rfl,CD,AD (by omega)]
    rfl
   ·have g:LH e[k] = false:=beq_eq_false_iff_ne.2 h
    rw [if_neg (by simpa using h),g,if_neg (c:=false = true) (by simp),List.append_nil]
 ·have h1:=KP Mx e
  have u:=KP LH e
  rw [Dn,if_neg (by simp),List.take_length,A6 (x:=(e.length:Int) - _) (by omega) (by omega),A6 (by omega) (by omega)]
theorem ZD {l:List Aj}:(JW l).length = (Ds l).length:=NN _ _
theorem R7 {l:List Aj} (e:l.length ≤ 4194304):Ht l = some (Tr l):=by
 unfold Ht Fz Tr
 dsimp only
 rw [TT e,Aa]
 cases h:Hu l with
 | false=>rfl
 | true=>exact Zh (YB h).1
theorem R4 {l:List Aj} (f:l.length ≤ 4194304):Hr l = some (Tr l):=by
 unfold Hr Tr
 rw [XK f,Aa]
 cases h:Hu l with
 | false=>rfl
 | true =>
  have h1:=KP Mx (JW l)
  have m:=KP LH (JW l)
  have g:=(YB h).1
  have e:=ZD (l:=l)
  rw [if_pos rfl,if_neg (by simp),if_pos rfl]
  unfold E7
  dsimp only
  rw [A6 (x:=((Ds l).length:Int) - _) (by omega) (by omega),A6 (by omega) (by omega),e]
theorem Nc (l:List Aj) {G:Prop} (_:G):Gt l = some true:=by
 unfold Gt Bk
 dsimp only
 by_cases h:1048576 < (l.length:Int)
 ·rw [if_pos (decide_eq_true h)]
 ·rw [if_neg (by simpa using h),R4 (by omega),Aa,R7 (by omega),Aa,if_neg (by simp),if_neg (by simp),if_neg (by simp),if_neg (by simp)]
end Go.Proofs.YtellehgihceicaaGreatDoor
