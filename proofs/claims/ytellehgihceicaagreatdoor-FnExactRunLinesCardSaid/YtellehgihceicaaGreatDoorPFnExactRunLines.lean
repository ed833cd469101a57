/-
 WHAT THE LAWS ON SHOWS HAND OVER AND TAKE BACK, PLAIN.
-/
import Derived.Test.YtellehgihceicaaGreatDoorPH
import Derived.Test.YtellehgihceicaaGreatDoorPB2
set_option linter.unusedVariables false
set_option linter.unusedSimpArgs false
set_option maxHeartbeats 1600000
namespace Go.Proofs.YtellehgihceicaaGreatDoor
open Go
theorem ZV {α:Type} (f:Nat → List α → Int → Int → Af (List α)) (g:List α) (h:g.length ≤ 9223372036854775807)
  (u:∀ m l y z,f (m + 1) l y z = if (decide (y < z)) = true then Option.bind (AM l z) fun a=>Option.bind (AM l y) fun b=>Option.bind (AM l y) fun _=>Option.bind (AM (BG l y a) z) fun _=>f m (BG (BG l y a) z b) (Ag (y + 1)) (Ag (z - 1)) else some l) :
  f FU g 0 (Ag ((List.length g:Int) - 1)) = some g.reverse:=by
 have ac:∀ (P T:List α) (x:α) (y:Int),y = (P.length:Int) → AM (P ++ x :: T) y = some x:=by
  intro P T x y e; unfold AM; rw [if_pos (by omega),show y.toNat = P.length by omega]; simp
 have ad:∀ (P T:List α) (x z:α) (y:Int),y = (P.length:Int) → BG (P ++ x :: T) y z = P ++ z :: T:=by
  intro P T x z y e; unfold BG; rw [show y.toNat = P.length by omega]; simp
 have ai:∀ (n:Nat) (M A B:List α) (m:Nat) (y z:Int),M.length ≤ 2 * n + 1 → n < m → y = (A.length:Int) → z = (A.length:Int) + (M.length:Int) - 1 → A.length + M.length ≤ 9223372036854775807 → f m (A ++ M ++ B) y z = some (A ++ M.reverse ++ B):=by
  intro n
  induction n with
  | zero =>
   intro M A B m y z v hm hy s hl
   cases m with
   | zero=>omega
   | succ m =>
    match M,v with
    | [],_=>rw [u,if_neg (by simp at s ⊢; omega)]; simp
    | [a],_=>rw [u,if_neg (by simp at s ⊢; omega)]; simp
  | succ n ih =>
   intro M A B m y z v hm hy s hl
   cases m with
   | zero=>omega
   | succ m =>
    match M with
    | []=>rw [u,if_neg (by simp at s ⊢; omega)]; simp
    | a :: M' =>
     rcases List.eq_nil_or_concat M' with rfl | ⟨M2,b,rfl⟩
     ·rw [u,if_neg (by simp at s ⊢; omega)]; simp
     ·rw [List.concat_eq_append] at *
      have aa:z = (A.length:Int) + (M2.length:Int) + 1:=by rw [s]; simp; omega
      have aq:A.length + M2.length + 2 ≤ 9223372036854775807:=by simp at hl; omega
      have e1:A ++ a :: (M2 ++ [b]) ++ B = (A ++ a :: M2) ++ b :: B:=by simp
      have e2:A ++ a :: (M2 ++ [b]) ++ B = A ++ a :: (M2 ++ [b] ++ B):=by simp
      have i1:AM (A ++ a :: (M2 ++ [b]) ++ B) z = some b:=by rw [e1]; exact ac _ _ _ _ (by rw [aa]; simp; omega)
      have i2:AM (A ++ a :: (M2 ++ [b]) ++ B) y = some a:=by rw [e2]; exact ac _ _ _ _ hy
      have s1:BG (A ++ a :: (M2 ++ [b]) ++ B) y b = (A ++ b :: M2) ++ b :: B:=by rw [e2,ad _ _ _ _ _ hy]; simp
      have i3:AM ((A ++ b :: M2) ++ b :: B) z = some b:=ac _ _ _ _ (by rw [aa]; simp; omega)
      have s2:BG ((A ++ b :: M2) ++ b :: B) z a = (A ++ [b]) ++ M2 ++ a :: B:=by rw [ad _ _ _ _ _ (by rw [aa]; simp; omega)]; simp
      rw [u,if_pos (by simp; omega),i1,Aa,i2,Aa,Aa,s1,i3,Aa,s2,A8 (x:=y + 1) (by omega) (by omega),A8 (x:=z - 1) (by omega) (by omega)]
      have:=ih M2 (A ++ [b]) (a :: B) m (y + 1) (z - 1) (by simp at v; omega) (by omega) (by simp; omega) (by simp; omega) (by simp; omega)
      rw [this]
      simp
 have:=ai (g.length / 2) g [] [] FU 0 (Ag ((List.length g:Int) - 1)) (by omega) (show g.length / 2 < 4611686018427387904 by omega) rfl (by rw [A8 (by omega) (by omega)]; simp) (by simpa using h)
 simpa using this
theorem ZW (x:List Int) (h:x.length < 4611686018427387904):En x = some x.reverse:=by
 unfold En
 exact ZV CS x (by omega) (fun m l y z=>by rw [CS]; rfl)
def MinSq (l:List (Int × Int)) (v:Int):Prop:=(∃ a b,a < b ∧ b < l.length ∧ v = GJ (DW l a) (DW l b)) ∧ ∀ a b,a < b → b < l.length → v ≤ GJ (DW l a) (DW l b)
theorem MinSq.uniq {l:List (Int × Int)} {v w:Int} (h:MinSq l v) (h':MinSq l w):v = w:=by
 obtain ⟨⟨a,b,h1,s,h3⟩,m⟩:=h
 obtain ⟨⟨u,f,e,g,g3⟩,g4⟩:=h'
 have:=m u f e g
 have:=g4 a b h1 s
 omega
def Lq (i k a b:Nat):Prop:=a < b ∧ (a < i ∨ (a = i ∧ b < k))
theorem Yr {l:List (Int × Int)} (hc:Cu l = true) (h2:2 ≤ l.length):∃ v,EB l = some (v,true) ∧ MinSq l v:=by
 have aq:=(Dc hc).2
 have ap:=fun a b (ha:a < l.length) (hb:b < l.length)=>(LL (I3 hc ha) (I3 hc hb)).2
 have al:∃ z:Int × Int,HH l = some z ∧ ∃ a b:Nat,z = ((a:Int),(b:Int)) ∧ a < b ∧ b < l.length ∧ ∀ g f,g < f → f < l.length → GJ (DW l a) (DW l b) ≤ GJ (DW l g) (DW l f):=by
  unfold HH
  refine Exists.elim (JA (fun (_:Unit) m (z:Int × Int) i=>DQ l m z.1 z.2 i) l.length (fun i z=>∃ a b:Nat,z = ((a:Int),(b:Int)) ∧ a < b ∧ b < l.length ∧ ∀ g f,Lq i 0 g f → f < l.length → GJ (DW l a) (DW l b) ≤ GJ (DW l g) (DW l f))
   (fun _ z=>some z) (by omega) (fun i z _ hi hz=>?_) (fun z hz j m=>?_) (b:=0) (by omega) (s:=(0,1)) ⟨0,1,rfl,by omega,by omega,fun g f h=>by unfold Lq at h; omega⟩) ?_
  ·obtain ⟨a,b,rfl,ad,u,aa⟩:=hz
   refine Exists.elim (JA (fun (nx:Int → Int → Int → Af (Int × Int)) m (z:Int × Int) k=>Ds l (i:Int) nx m z.1 z.2 k) l.length (fun k z=>∃ a b:Nat,z = ((a:Int),(b:Int)) ∧ a < b ∧ b < l.length ∧ ∀ g f,Lq i k g f → f < l.length → GJ (DW l a) (DW l b) ≤ GJ (DW l g) (DW l f))
    (fun nx z=>nx z.1 z.2 ((i + 1:Nat):Int)) (by omega) (fun k z ao hk hz=>?_) (fun z hz j m=>?_) (b:=i + 1) (by omega) (s:=((a:Int),(b:Int))) ⟨a,b,rfl,ad,u,fun g f h ac=>aa g f (by unfold Lq at h ⊢; omega) ac⟩) ?_
   ·obtain ⟨a,b,rfl,ad,u,aa⟩:=hz
    by_cases ai:GJ (DW l i) (DW l k) < GJ (DW l a) (DW l b)
    ·refine ⟨((i:Int),(k:Int)),⟨i,k,rfl,by omega,hk,fun g f h ac=>?_⟩,fun nx m=>?_⟩
     ·by_cases e:g = i ∧ f = k
      ·rw [e.1,e.2]; exact Int.le_refl _
      ·have:=aa g f (by unfold Lq at h ⊢; omega) ac
       omega
     ·rw [Ds,if_pos (by simp; omega)]
      unfold Gk
      dsimp only
      rw [AY,Dq hi,Aa,AY,Dq hk,Aa,AY,Dq (by omega),Aa,AY,Dq u,Aa,Hj,Aa,Hj,Aa,if_pos (decide_eq_true ai),AE (by omega)]
    ·refine ⟨((a:Int),(b:Int)),⟨a,b,rfl,ad,u,fun g f h ac=>?_⟩,fun nx m=>?_⟩
     ·by_cases e:g = i ∧ f = k
      ·rw [e.1,e.2]; omega
      ·exact aa g f (by unfold Lq at h ⊢; omega) ac
     ·rw [Ds,if_pos (by simp; omega)]
      unfold Gk
      dsimp only
      rw [AY,Dq hi,Aa,AY,Dq hk,Aa,AY,Dq (by omega),Aa,AY,Dq u,Aa,Hj,Aa,Hj,Aa,if_neg (by simpa using ai),AE (by omega)]
   ·rw [Ds,if_neg (by simp),AE (by omega)]
   ·rintro z ⟨⟨a,b,rfl,ad,u,aa⟩,hz⟩
    refine ⟨((a:Int),(b:Int)),⟨a,b,rfl,ad,u,fun g f h ac=>aa g f (by unfold Lq at h ⊢; omega) ac⟩,fun _ m=>?_⟩
    dsimp only at hz ⊢
    rw [DQ,if_pos (by simp; omega),AE (by omega)]
    exact hz _
  ·rw [DQ,if_neg (by simp)]
  ·rintro z ⟨⟨a,b,rfl,ad,u,aa⟩,hz⟩
   exact ⟨_,hz (),a,b,rfl,ad,u,fun g f h ac=>aa g f (by unfold Lq; omega) ac⟩
 obtain ⟨z,e,a,b,rfl,ad,u,aa⟩:=al
 refine ⟨GJ (DW l a) (DW l b),?_,⟨a,b,ad,u,rfl⟩,aa⟩
 unfold EB Bk
 dsimp only
 rw [GO l (by omega),Aa,hc,if_neg (by simp),if_neg (by simp; omega),e,Aa,AY,Dq (by omega),Aa,AY,Dq u,Aa,Hj,Aa]
theorem Ye {l:List (Int × Int)} (hc:Cu l = true) (h2:2 ≤ l.length):∃ v,Ec l = some (v,true) ∧ MinSq l v:=by
 have a3:=(Dc hc).2
 have an:=fun a b (ha:a < l.length) (hb:b < l.length)=>(LL (I3 hc ha) (I3 hc hb)).2.1
 have aq:∃ z:Int × Int × Int,JI l = some z ∧ MinSq l z.2.2:=by
  unfold JI
  refine Exists.elim (JA (fun (_:Unit) m (z:Int × Int × Int) i=>Fc l m z.1 z.2.1 z.2.2 i) l.length (fun i z=>(z.2.2 = -1 ∧ i = 0) ∨ ((∃ a b,a < b ∧ b < l.length ∧ z.2.2 = GJ (DW l a) (DW l b)) ∧ ∀ g f,Lq i 0 g f → f < l.length → z.2.2 ≤ GJ (DW l g) (DW l f)))
   (fun _ z=>some z) (by omega) (fun i z _ hi u=>?_) (fun z u j m=>?_) (b:=0) (by omega) (s:=(0,0,-1)) (.inl ⟨rfl,rfl⟩)) ?_
  ·refine Exists.elim (JA (fun (nx:Int → Int → Int → Int → Af (Int × Int × Int)) m (z:Int × Int × Int) k=>D2 l (DW l i) (i:Int) nx m z.1 z.2.1 z.2.2 k) l.length (fun k z=>(z.2.2 = -1 ∧ i = 0 ∧ k = 1) ∨ ((∃ a b,a < b ∧ b < l.length ∧ z.2.2 = GJ (DW l a) (DW l b)) ∧ ∀ g f,Lq i k g f → f < l.length → z.2.2 ≤ GJ (DW l g) (DW l f)))
    (fun nx z=>nx z.1 z.2.1 z.2.2 ((i + 1:Nat):Int)) (by omega) (fun k z a1 hk u=>?_) (fun z u j m=>?_) (b:=i + 1) (by omega) (s:=z) ?_) ?_
   ·have hs:=an i k hi hk
    have al:∀ (nx:Int → Int → Int → Int → Af (Int × Int × Int)) m,D2 l (DW l i) (i:Int) nx (m + 1) z.1 z.2.1 z.2.2 (k:Int) = if z.2.2 < 0 ∨ GJ (DW l i) (DW l k) < z.2.2 then D2 l (DW l i) (i:Int) nx m (i:Int) (k:Int) (GJ (DW l i) (DW l k)) ((k + 1:Nat):Int) else D2 l (DW l i) (i:Int) nx m z.1 z.2.1 z.2.2 ((k + 1:Nat):Int):=by
     intro nx m
     rw [D2,if_pos (by simp; omega)]
     unfold W8 Bk
     dsimp only
     rw [AY,Dq hk,Aa,L3,Aa,AE (by omega)]
     by_cases h1:z.2.2 < 0
     ·rw [if_pos (decide_eq_true h1),if_pos rfl,if_pos (.inl h1)]
     ·rw [if_neg (by simpa using h1)]
      by_cases h3:GJ (DW l i) (DW l k) < z.2.2
      ·rw [if_pos (decide_eq_true h3),if_pos (.inr h3)]
      ·rw [if_neg (by simpa using h3),if_neg (by omega)]
    by_cases ai:z.2.2 < 0 ∨ GJ (DW l i) (DW l k) < z.2.2
    ·refine ⟨((i:Int),(k:Int),GJ (DW l i) (DW l k)),.inr ⟨⟨i,k,by omega,hk,rfl⟩,fun g f h ac=>?_⟩,fun nx m=>?_⟩
     ·dsimp only
      by_cases e:g = i ∧ f = k
      ·rw [e.1,e.2]; exact Int.le_refl _
      ·rcases u with ⟨am,ah,ak⟩ | ⟨⟨a,b,g1,g2,g3⟩,u⟩
       ·unfold Lq at h; omega
       ·have:=u g f (by unfold Lq at h ⊢; omega) ac
        have:=an a b (by omega) g2
        omega
     ·exact (al nx m).trans (if_pos ai)
    ·refine ⟨z,.inr ⟨?_,fun g f h ac=>?_⟩,fun nx m=>(al nx m).trans (if_neg ai)⟩
     ·rcases u with ⟨am,ah,ak⟩ | ⟨u,_⟩
      ·omega
      ·exact u
     ·rcases u with ⟨am,ah,ak⟩ | ⟨_,u⟩
      ·omega
      ·by_cases e:g = i ∧ f = k
       ·rw [e.1,e.2]; omega
       ·exact u g f (by unfold Lq at h ⊢; omega) ac
   ·rw [D2,if_neg (by simp),AE (by omega)]
   ·rcases u with ⟨h1,h3⟩ | ⟨h1,h3⟩
    ·exact .inl ⟨h1,h3,by omega⟩
    ·exact .inr ⟨h1,fun g f h ac=>h3 g f (by unfold Lq at h ⊢; omega) ac⟩
   ·rintro z' ⟨av,ae⟩
    refine ⟨z',?_,fun _ m=>?_⟩
    ·rcases av with ⟨h1,h3,h4⟩ | ⟨h1,h3⟩
     ·omega
     ·exact .inr ⟨h1,fun g f h ac=>h3 g f (by unfold Lq at h ⊢; omega) ac⟩
    ·rw [Fc,if_pos (by simp; omega),AY,Dq hi,Aa,AE (by omega)]
     exact ae _
  ·rw [Fc,if_neg (by simp)]
  ·rintro z ⟨u,ae⟩
   refine ⟨z,ae (),?_⟩
   rcases u with ⟨h1,h3⟩ | ⟨h1,h3⟩
   ·omega
   ·exact ⟨h1,fun g f h ac=>h3 g f (by unfold Lq; omega) ac⟩
 obtain ⟨z,e,hm⟩:=aq
 refine ⟨z.2.2,?_,hm⟩
 unfold Ec Bk
 dsimp only
 rw [J3 l (by omega),Aa,hc,if_neg (by simp),if_neg (by simp; omega),e,Aa]
def MW (l:List (Int × Int)):Int × Bool:=(Ec l).getD (0,false)
theorem S3 {l:List (Int × Int)} (e:Cu l = true):EB l = some (MW l) ∧ Ec l = some (MW l) ∧ 0 ≤ (MW l).1 ∧ (MW l).1 ≤ 100000000:=by
 have ab:=Dc e
 by_cases m:2 ≤ l.length
 ·obtain ⟨v,f,h⟩:=Yr e m
  obtain ⟨w,g,s⟩:=Ye e m
  have:=h.uniq s
  subst this
  unfold MW
  rw [f,g]
  obtain ⟨⟨a,b,h1,u,h4⟩,_⟩:=h
  have:=(LL (I3 e (by omega:a < l.length)) (I3 e u)).2
  exact ⟨rfl,rfl,by dsimp only [Option.getD]; omega,by dsimp only [Option.getD]; omega⟩
 ·have f:Ec l = some (0,false):=by
   unfold Ec Bk
   dsimp only
   rw [J3 l (by omega),Aa,e,if_neg (by simp),if_pos (by simp; omega)]
  have g:EB l = some (0,false):=by
   unfold EB Bk
   dsimp only
   rw [GO l (by omega),Aa,e,if_neg (by simp),if_pos (by simp; omega)]
  unfold MW
  rw [f,g]
  exact ⟨rfl,rfl,by simp,by simp⟩
def My (q:Int) (t:Nat):Bool:=decide (1000000 * q ≤ 23040000 * ((t:Int) * (t:Int)))
theorem Yh {t:Nat} (f:t ≤ 1000):Ag ((Ag ((Ag (4800 * (t:Int))) * 4800)) * (t:Int)) = 23040000 * ((t:Int) * (t:Int)):=by
 have h1:=Mb (x:=(t:Int)) (y:=(t:Int)) (A:=1000) (B:=1000) (by omega) (by omega) (by omega) (by omega)
 rw [A8 (x:=4800 * (t:Int)) (by omega) (by omega),A8 (x:=4800 * (t:Int) * 4800) (by omega) (by omega)]
 have e:4800 * (t:Int) * 4800 * (t:Int) = 23040000 * ((t:Int) * (t:Int)):=by grind
 rw [e,A8 (by omega) (by omega)]
theorem Wq {q:Int} {t t':Nat} (h:t ≤ t') (f:My q t = true):My q t' = true:=by
 unfold My at *
 rw [C7] at *
 have h1:=Nat.mul_le_mul h h
 have e:=Int.ofNat_le.2 h1
 rw [Int.natCast_mul,Int.natCast_mul] at e
 omega
theorem XC {q:Int} (f:q ≤ 2089984) {t:Nat} (e:302 ≤ t):My q t = true:=by
 refine Wq e ?_
 unfold My
 rw [C7]
 omega
def IsT (q:Int) (v:Nat):Prop:=My q v = true ∧ ∀ t,t < v → My q t = false
theorem IsT.uniq {q:Int} {v w:Nat} (h:IsT q v) (f:IsT q w):v = w:=by
 rcases Nat.lt_trichotomy v w with e | e | e
 ·have:=f.2 v e; rw [h.1] at this; cases this
 ·exact e
 ·have:=h.2 w e; rw [f.1] at this; cases this
theorem Zv {q:Int} (h0:0 ≤ q) (hq:q ≤ 2089984):∃ v:Nat,v ≤ 302 ∧ DF q FU 0 = some (v:Int) ∧ IsT q v:=by
 have ab:∀ (d t m:Nat),302 - t = d → t ≤ 302 → d < m → (∀ t',t' < t → My q t' = false) → ∃ v:Nat,v ≤ 302 ∧ DF q m (t:Int) = some (v:Int) ∧ IsT q v:=by
  intro d
  induction d with
  | zero =>
   intro t m hd ht s l
   have:t = 302:=by omega
   subst this
   cases m with
   | zero=>omega
   | succ m =>
    have g:=XC hq (t:=302) (by omega)
    have f:=g
    unfold My at f
    rw [C7] at f
    refine ⟨302,by omega,?_,g,l⟩
    rw [DF,Yh (by omega),A8 (x:=1000000 * q) (by omega) (by omega),if_neg (by rw [C7]; omega)]
  | succ d u =>
   intro t m hd ht s l
   cases m with
   | zero=>omega
   | succ m =>
    rw [DF,Yh (by omega),A8 (x:=1000000 * q) (by omega) (by omega)]
    cases g:My q t with
    | true =>
     have f:=g
     unfold My at f
     rw [C7] at f
     rw [if_neg (by rw [C7]; omega)]
     exact ⟨t,by omega,rfl,g,l⟩
    | false =>
     have f:=g
     unfold My at f
     rw [decide_eq_false_iff_not] at f
     rw [if_pos (by rw [C7]; omega),AE (by omega)]
     refine u (t + 1) m (by omega) (by omega) (by omega) (fun t' h=>?_)
     by_cases e:t' = t
     ·rw [e]; exact g
     ·exact l t' (by omega)
 exact ab 302 0 FU rfl (by omega) (DH (by omega)) (fun t' h=>by omega)
theorem YK {q:Int} (h0:0 ≤ q) (hq:q ≤ 2089984):∃ v:Nat,Ki q = some (v:Int) ∧ IsT q v:=by
 have ah:∀ (d e f m:Nat),f - e ≤ d → e ≤ f → f ≤ 1000 → d < m → (∀ t,t < e → My q t = false) → My q f = true → ∃ v:Nat,EE q m (e:Int) (f:Int) = some (v:Int) ∧ IsT q v:=by
  intro d
  induction d with
  | zero =>
   intro e f m hd h1 h2 hm s u
   have:e = f:=by omega
   subst this
   cases m with
   | zero=>omega
   | succ m=>exact ⟨e,by rw [EE,if_neg (by simp)],u,s⟩
  | succ d ih =>
   intro e f m hd h1 h2 hm s u
   cases m with
   | zero=>omega
   | succ m =>
    rw [EE]
    by_cases aj:e < f
    ·have em:Ag (Int.tdiv (Ag ((e:Int) + (f:Int))) 2) = (((e + f) / 2:Nat):Int):=by
      rw [A8 (x:=(e:Int) + f) (by omega) (by omega),Int.tdiv_eq_ediv_of_nonneg (by omega),A8 (by omega) (by omega)]
      omega
     rw [if_pos (by simp; omega),em,Yh (by omega),A8 (x:=1000000 * q) (by omega) (by omega)]
     cases l:My q ((e + f) / 2) with
     | true =>
      have g:=l
      unfold My at g
      rw [if_pos g]
      exact ih e _ m (by omega) (by omega) (by omega) (by omega) s l
     | false =>
      have g:=l
      unfold My at g
      rw [g,if_neg (by simp),AE (by omega)]
      refine ih ((e + f) / 2 + 1) f m (by omega) (by omega) h2 (by omega) (fun t ht=>?_) u
      cases hx:My q t with
      | false=>rfl
      | true=>have:=Wq (t':=(e + f) / 2) (by omega) hx; rw [l] at this; cases this
    ·have:e = f:=by omega
     subst this
     exact ⟨e,by rw [if_neg (by simp)],u,s⟩
 unfold Ki
 exact ah 1000 0 1000 FU (by omega) (by omega) (by omega) (DH (by omega)) (fun t h=>by omega) (XC hq (by omega))
def NL (a b:Int × Int):Int × Bool:=(Gy a b).getD (0,false)
theorem Uv {a b:Int × Int} (e:CX a = true) (f:CX b = true):Gy a b = some (NL a b) ∧ Hy a b = some (NL a b) ∧ 0 ≤ (NL a b).1 ∧ (NL a b).1 ≤ 302:=by
 obtain ⟨_,h,g⟩:=LL e f
 obtain ⟨v,v1,l,u⟩:=Zv h g
 obtain ⟨w,w1,w2⟩:=YK h g
 have:=u.uniq w2
 subst this
 have m:Gy a b = some ((v:Int),true):=by
  unfold Gy Kc Bk
  dsimp only
  rw [Lw,Aa,e,if_neg (by simp),Lw,Aa,f,Hj,Aa,l]
  rfl
 have s:Hy a b = some ((v:Int),true):=by
  unfold Hy Mm Le Bk
  dsimp only
  rw [OJ,Aa,e,if_pos rfl,OJ,Aa,f,L3,Aa,Aa,w1]
  rfl
 unfold NL
 rw [m,s]
 exact ⟨rfl,rfl,by dsimp only [Option.getD]; omega,by dsimp only [Option.getD]; omega⟩
def MM (load count:Int) (x:BM):Bool:=decide (x.2.1 = load) && (decide (x.2.2.1 ≤ count) && decide (count < x.2.2.2))
def MZ (l:List BM) (load count:Int):Int × Bool:=if (BK load 1 9 && BK count 0 999) = true then (match (List.range l.length).find? fun i=>MM load count (CL l i) with
  | some i=>((CL l i).1,true)
  | none=>(0,false)) else (0,false)
theorem Us {l:List BM} (h:Fv l = true):∀ x ∈ l,Lv x:=by
 intro x e
 have:=MY.1 ((Hh.1 h).2.1 x e)
 unfold Lv
 omega
theorem Uy {l:List BM} {k:Nat} (h:k < l.length):l[k]? = some (CL l k):=by rw [FQ h]; exact Cp h
theorem Uc {l:List BM} (h:Fv l = true) (f e:Int):IF l f e = some (MZ l f e):=by
 have u:=(Hh.1 h).1
 unfold IF Bk MZ
 dsimp only
 rw [O3 (by omega) (Us h),Aa,h,CT,Aa,CT,Aa]
 cases BK f 1 9 with
 | false=>rfl
 | true =>
  cases BK e 0 999 with
  | false=>rfl
  | true =>
   rw [if_neg (by simp),if_neg (by simp),if_neg (by simp),if_pos (c:=(true && true) = true) rfl]
   rw [Tn (Ew l f e) l.length (fun i=>MM f e (CL l i)) (fun i=>some ((CL l i).1,true)) (some (0,false)) (by omega) (fun m k s=>?_) (fun m=>?_)]
   ·cases (List.range l.length).find? fun i=>MM f e (CL l i) <;> rfl
   ·rw [Ew,if_pos (by simp; omega),AY,Uy s,Aa,AE (by omega)]
    unfold Bk MM
    dsimp only
    by_cases h1:(CL l k).2.1 = f
    ·rw [if_pos (by simpa using h1),decide_eq_true h1]
     by_cases g:(CL l k).2.2.1 ≤ e
     ·rw [if_pos (by simpa using g),decide_eq_true g]; rfl
     ·rw [if_neg (by simpa using g),decide_eq_false g]; rfl
    ·rw [if_neg (by simpa using h1),decide_eq_false h1]; rfl
   ·rw [Ew,if_neg (by simp)]
theorem YN {l:List BM} (h:Fv l = true) {g f:Int} (hl:1 ≤ g):Kz l g 0 f = some (Ud ((List.range l.length).find? fun i=>MM g f (CL l i))):=by
 have u:=(Hh.1 h).1
 unfold Kz
 rw [Tn (G9 l g 0 f) l.length (fun i=>MM g f (CL l i)) (fun i=>some (i:Int)) (some (-1)) (by omega) (fun m k s=>?_) (fun m=>?_)]
 ·cases (List.range l.length).find? fun i=>MM g f (CL l i) <;> rfl
 ·have v:=MY.1 ((Hh.1 h).2.1 _ (IW s))
  rw [G9,if_pos (by simp; omega),AY,Uy s,Aa,AE (by omega)]
  unfold Bk MM
  dsimp only
  rw [if_neg (by simp; omega),if_pos (c:=((0:Int) == 0) = true) rfl,A8 (by omega) (by omega),CU,Aa]
  by_cases h1:(CL l k).2.1 = g
  ·rw [if_pos (by simpa using h1),decide_eq_true h1]
   have e:BK f (CL l k).2.2.1 ((CL l k).2.2.2 - 1) = (decide ((CL l k).2.2.1 ≤ f) && decide (f < (CL l k).2.2.2)):=by
    rw [Bool.eq_iff_iff,D9]
    simp
    omega
   rw [e,Bool.true_and]
  ·rw [if_neg (by simpa using h1),decide_eq_false h1]; rfl
 ·rw [G9,if_neg (by simp)]
theorem TO {l:List BM} (h:Fv l = true) (f e:Int):I9 l f e = some (MZ l f e):=by
 have v:=(Hh.1 h).1
 unfold I9 Jf Lh Bk MZ
 dsimp only
 rw [RW (by omega) (Us h),Aa,h,CU,Aa,Aa,CU,Aa,Aa]
 cases g:BK f 1 9 with
 | false=>rfl
 | true =>
  cases BK e 0 999 with
  | false=>rfl
  | true =>
   have m:=D9.1 g
   rw [if_neg (by simp),if_neg (by simp),if_neg (by simp),if_pos (c:=(true && true) = true) rfl,YN h m.1,Aa,Aa]
   cases s:(List.range l.length).find? fun i=>MM f e (CL l i) with
   | none=>rfl
   | some i =>
    have u:i < l.length:=List.mem_range.1 (List.mem_of_find?_eq_some s)
    unfold Ud
    dsimp only
    rw [if_neg (by simp),AY,Uy u,Aa]
theorem Abh {l:List BM} (h:Fv l = true) (f e:Int):0 ≤ (MZ l f e).1 ∧ (MZ l f e).1 ≤ 12:=by
 unfold MZ
 split
 ·cases g:(List.range l.length).find? fun i=>MM f e (CL l i) with
  | none=>exact ⟨Int.le_refl _,by show (0:Int) ≤ 12; omega⟩
  | some i =>
   have m:i < l.length:=List.mem_range.1 (List.mem_of_find?_eq_some g)
   have s:=MY.1 ((Hh.1 h).2.1 _ (IW m))
   dsimp only
   omega
 ·exact ⟨by decide,by decide⟩
theorem VU {l:List I7} (h:Ho l = true) {i:Nat} (g:i < l.length):∃ x:I7,l[i]? = some x ∧ (x.1 = -1 ∨ (0 ≤ x.1 ∧ x.1.toNat < i)) ∧ (0 ≤ x.2.1 ∧ x.2.1 ≤ 7) ∧ 0 ≤ x.2.2 ∧ x.2.2 ≤ 999:=by
 unfold Ho at h
 rw [Cg,List.all_eq_true] at h
 obtain ⟨x,m⟩:∃ x,l[i]? = some x:=⟨_,Cp g⟩
 have f:=h.2 i (List.mem_range.2 g)
 unfold OE at f
 rw [m] at f
 unfold SQ at f
 dsimp only at f
 rw [Cg,Cg,D9,D9] at f
 refine ⟨x,m,?_,f.2.1,f.2.2⟩
 by_cases e:i = 0
 ·rw [if_pos e,C7] at f
  exact .inl f.1
 ·rw [if_neg e,D9] at f
  exact .inr (by omega)
theorem NI {l:List I7} (h:Ho l = true):1 ≤ l.length ∧ l.length ≤ 60:=by
 unfold Ho at h
 rw [Cg,D9] at h
 omega
theorem Acf {l:List I7} (h:Ho l = true):∀ (d i:Nat),i ≤ d → i < l.length → ∃ u:List Int,(∀ x ∈ u,0 ≤ x ∧ x.toNat < l.length) ∧ u.length ≤ i + 1 ∧
  ∀ (m:Nat) (s e:List Int),i + 1 < m → s.length ≤ 1000 - u.length → e.length ≤ 1000 - u.length → E5 l m (i:Int) s = some ((s ++ u).reverse) ∧ E4 l m (i:Int) e = some (u.reverse ++ e):=by
 have ap:=NI h
 have ad:∀ i (x:I7),l[i]? = some x → x.1 = -1 → i < l.length → ∃ u:List Int,(∀ x ∈ u,0 ≤ x ∧ x.toNat < l.length) ∧ u.length ≤ i + 1 ∧
  ∀ (m:Nat) (s e:List Int),i + 1 < m → s.length ≤ 1000 - u.length → e.length ≤ 1000 - u.length → E5 l m (i:Int) s = some ((s ++ u).reverse) ∧ E4 l m (i:Int) e = some (u.reverse ++ e):=by
  intro i x f aa v
  refine ⟨[(i:Int)],fun x f=>?_,by simp,fun m s e hm hs ae=>?_⟩
  ·rw [List.mem_singleton] at f; omega
  obtain ⟨m,rfl⟩:∃ m',m = m' + 2:=⟨m - 2,by omega⟩
  rw [E5,E4,if_pos (by simp),Br (by simp; omega),Aa,if_pos (by simp),Br (by simp; omega),Aa,AY,f,Aa,Aa,aa,E5,E4,if_neg (by decide),if_neg (by decide),ZW _ (by simp; omega)]
  exact ⟨rfl,rfl⟩
 intro d
 induction d with
 | zero =>
  intro i ah v
  have:i = 0:=by omega
  subst this
  obtain ⟨x,f,g,_⟩:=VU h v
  have aa:x.1 = -1:=by rcases g with g | g; exact g; omega
  exact ad 0 x f aa v
 | succ d ih =>
  intro i ah v
  obtain ⟨x,f,g,_⟩:=VU h v
  rcases g with aa | g
  ·exact ad i x f aa v
  ·obtain ⟨u,g1,g2,g3⟩:=ih x.1.toNat (by omega) (by omega)
   refine ⟨(i:Int) :: u,?_,by simp; omega,fun m s e hm hs ae=>?_⟩
   ·intro y hy
    rcases List.mem_cons.1 hy with rfl | hy
    ·omega
    ·exact g1 y hy
   ·obtain ⟨m,rfl⟩:∃ m',m = m' + 1:=⟨m - 1,by omega⟩
    rw [List.length_cons] at hs ae
    obtain ⟨e1,e2⟩:=g3 m (s ++ [(i:Int)]) ((i:Int) :: e) (by omega) (by simp; omega) (by simp; omega)
    have ex:x.1 = ((x.1.toNat:Nat):Int):=by omega
    rw [E5,E4,if_pos (by simp),Br (by simp; omega),Aa,if_pos (by simp),Br (by simp; omega),Aa,AY,f,Aa,Aa,ex,e1,List.singleton_append,e2]
    constructor
    ·rw [List.append_assoc]; rfl
    ·rw [List.reverse_cons,List.append_assoc]; rfl
theorem Yc (u:List Int) (l:List I7):∀ (m:Nat) (s:List Int) (k:Int),ES u l m s k = Dl u l m s k:=by
 intro m
 induction m with
 | zero=>intros; rfl
 | succ m e =>
  intro s k
  rw [ES,Dl]
  simp only [e]
def Wu (s:List Int):Prop:=s.length = 8 ∧ ∀ x ∈ s,-1 ≤ x ∧ x ≤ 999
theorem YF {l:List I7} (h:Ho l = true) {u:List Int} (hu:∀ x ∈ u,0 ≤ x ∧ x.toNat < l.length) (hl:u.length ≤ 1000):∃ s,Wu s ∧ Dl u l FU (List.replicate 8 (-1)) 0 = some s:=by
 have ak:=NI h
 refine Exists.elim (JA (fun (_:Unit) m (z:List Int) k=>Dl u l m z k) u.length (fun _ z=>Wu z) (fun _ z=>some z) (by omega) (fun k z _ v e=>?_) (fun z e j m=>?_) (b:=0) (by omega) (s:=List.replicate 8 (-1)) ⟨by simp,fun x g=>by have:=List.eq_of_mem_replicate g; omega⟩) ?_
 ·obtain ⟨ae,ah⟩:=e
  obtain ⟨g1,g2⟩:=hu _ (List.getElem_mem v)
  obtain ⟨x,g,_,h7,h9⟩:=VU h g2
  have aa:x.2.1.toNat < z.length:=by omega
  refine ⟨BG z x.2.1 x.2.2,⟨by unfold BG; simpa using ae,fun y f=>?_⟩,fun _ m=>?_⟩
  ·unfold BG at f
   rcases List.mem_or_eq_of_mem_set f with f | rfl
   ·exact ah y f
   ·omega
  ·rw [Dl,if_pos (by simp; omega),AY,Cp v,Aa,It g1,g,Aa,Aa,It h7.1,Cp aa,Aa,AE (by omega)]
 ·rw [Dl,if_neg (by simp)]
 ·rintro z ⟨e,hr⟩
  exact ⟨z,e,hr ()⟩
theorem Su {l:List I7} (h:Ho l = true) (i:Int):HG l [i] = some (BK i 0 ((l.length:Int) - 1)):=by
 have g:=NI h
 unfold HG
 rw [O2 (DP [i] l) [i] (fun x=>BK x 0 ((l.length:Int) - 1)) (some true) (some false) (by simp) (fun m k x e f=>?_) (fun m=>?_)]
 ·rw [List.all_cons,List.all_nil,Bool.and_true]
  cases BK i 0 ((l.length:Int) - 1) <;> rfl
 ·rw [DP,if_pos (by simp at e ⊢; omega),AY,f,Aa,CT,A8 (by omega) (by omega),Aa,AE (by simp at e; omega)]
  cases BK x 0 ((l.length:Int) - 1) <;> rfl
 ·rw [DP,if_neg (by simp),LB (by omega),Aa,h]
theorem Wp (k:Nat):List.replicate k (-1:Int) ++ [-1] = List.replicate (k + 1) (-1):=by rw [List.replicate_succ']
theorem WT {l:List I7} (h:Ho l = true) (i:Int):∃ r:List Int × Bool,JR l i = some r ∧ JM l i = some r ∧ (r.2 = true → Wu r.1):=by
 have ai:=NI h
 unfold JR JM Ml Bk
 dsimp only
 rw [Su h,Aa,OI (by omega),Aa,h,if_pos rfl,CU,A8 (by omega) (by omega),Aa,Aa]
 cases hi:BK i 0 ((l.length:Int) - 1) with
 | false=>exact ⟨([],false),rfl,rfl,fun h=>by cases h⟩
 | true =>
  have aj:=D9.1 hi
  obtain ⟨u,g1,g2,g3⟩:=Acf h i.toNat i.toNat (Nat.le_refl _) (by omega)
  obtain ⟨e,f⟩:=g3 FU [] [] (DH (by omega)) (by simp) (by simp)
  rw [show ((i.toNat:Nat):Int) = i by omega] at e f
  rw [List.nil_append] at e
  rw [List.append_nil] at f
  obtain ⟨s,hs,v⟩:=YF h (u:=u.reverse) (fun x hx=>g1 x (List.mem_reverse.1 hx)) (by rw [List.length_reverse]; omega)
  have r1:JN l i = some s:=by
   unfold JN
   refine Eq.trans (ED (fun m (z:List Int) k=>Fh l i m z k) 8 (fun k=>List.replicate k (-1)) (Option.bind (KX l i) fun g=>Dl g l FU (List.replicate 8 (-1)) 0) (by omega) (j:=0) (by omega) (fun m k _ hk=>?_) (fun m=>?_)) ?_
   ·rw [Fh,if_pos (by simp; omega),Br (by simp; omega),Aa,AE (by omega),Wp]
   ·rw [Fh,if_neg (by decide)]
   ·unfold KX
    rw [e,Aa,v]
  have r2:JC l i = some s:=by
   unfold JC
   refine Eq.trans (ED (fun m (z:List Int) (_:Int)=>ET l i m z) 8 (fun k=>List.replicate k (-1)) (Option.bind (KT l i) fun g=>ES g l FU (List.replicate 8 (-1)) 0) (by omega) (j:=0) (by omega) (fun m k _ hk=>?_) (fun m=>?_)) ?_
   ·rw [ET,if_pos (by simp; omega),Br (by simp; omega),Aa,Wp]
   ·rw [ET,if_neg (by decide)]
   ·unfold KT
    rw [f,Aa,Yc,v]
  refine ⟨(s,true),?_,?_,fun _=>hs⟩
  ·rw [if_neg (by simp),r1,Aa]
  ·rw [if_neg (by simp),r2,Aa]
theorem Zt (e:List (List Ai)) (w f:List Ai):Lib.join (e ++ [w]) f = if e = [] then w else Lib.join e f ++ f ++ w:=by
 cases e with
 | nil=>rw [List.nil_append,if_pos rfl,Lib.join_one]
 | cons x r =>
  rw [List.cons_append,Lib.join_cons,Lib.join_cons,if_neg (by simp)]
  unfold Lib.joinTail
  rw [List.map_append,List.flatten_append]
  simp [List.append_assoc]
def Mw (n:Int):List Ai:=if n < 0 then [45] else Lib.decDigits n.toNat
theorem Rt {n:Int} (h:n ≤ 999):(Mw n).length ≤ 3:=by
 unfold Mw
 split
 ·simp
 ·exact Hu (k:=2) (by omega)
def Gq (ws:List (List Ai)):List Ai:=Lib.join ws [32]
theorem Yo (e:List (List Ai)) (w:List Ai):Gq (e ++ [w]) = (if e = [] then [] else Gq e ++ [32]) ++ w:=by
 unfold Gq
 rw [Zt]
 split
 ·rfl
 ·rfl
theorem PS (f:List (List Ai)) {k:Nat} (h:k < f.length):Gq (f.take (k + 1)) = (if k = 0 then [] else Gq (f.take k) ++ [32]) ++ f[k]:=by
 rw [List.take_succ_eq_append_getElem h,Yo]
 by_cases e:k = 0
 ·subst e; simp
 ·have g:f.take k ≠ []:=fun l=>by have:=congrArg List.length l; rw [List.length_take,List.length_nil] at this; omega
  rw [if_neg g,if_neg e]
theorem Nz {B:Nat} (e:List (List Ai)) (h:∀ w ∈ e,w.length ≤ B):∀ k,k ≤ e.length → (Gq (e.take k)).length ≤ (B + 1) * k
 | 0,_=>by simp [Gq,Lib.join_nil]
 | k + 1,hk=>by
  have h1:=Nz e h k (by omega)
  have f:=h e[k] (List.getElem_mem _)
  rw [PS e (by omega),CM,Nat.mul_succ]
  split
  ·simp; omega
  ·rw [CM,List.length_singleton]; omega
theorem QO {B:Nat} (e:List (List Ai)) (h:∀ w ∈ e,w.length ≤ B):(Gq e).length ≤ (B + 1) * e.length:=by
 have:=Nz e h e.length (Nat.le_refl _)
 rwa [List.take_length] at this
theorem W6 {e:List (List Ai)} {B:Nat} (h:∀ w ∈ e,w.length ≤ B) (g:B ≤ 1000) (f:e.length ≤ 1000):Iv e [32] = some (Gq e):=by
 have h1:=QO e h
 have l:(B + 1) * e.length ≤ 1001 * 1000:=Nat.mul_le_mul (by omega) f
 unfold Gq at h1
 unfold Iv Gq
 rw [if_pos (by omega)]

theorem VQ {n:Int} (h:¬ n < 0) (e:n ≤ 999):CY n = some (Mw n) ∧ Dd n = some (Mw n):=by
 unfold Mw
 rw [if_neg h]
 exact ⟨L9 (by omega) (by omega),JW (by omega) (by omega)⟩
theorem X2 {s:List Int} (h:Wu s):JG s = some (Gq (s.map Mw)):=by
 obtain ⟨h8,v⟩:=h
 have g:∀ w ∈ s.map Mw,w.length ≤ 3:=by
  intro w g
  obtain ⟨n,e,rfl⟩:=List.mem_map.1 g
  exact Rt (v n e).2
 unfold JG
 refine Eq.trans (ED (D1 s) s.length (fun k=>Gq ((s.map Mw).take k)) (some (Gq (s.map Mw))) (by omega) (j:=0) (by omega) (fun m k _ hk=>?_) (fun m=>?_)) rfl
 ·have hl:=Nz _ g k (by simp; omega)
  have e:=v _ (List.getElem_mem hk)
  have h3:=Rt e.2
  rw [D1,if_pos (by simp; omega)]
  unfold Bk
  dsimp only
  rw [AY,Cp hk,Aa,AE (by omega),PS _ (by simp; omega),List.getElem_map]
  have l:∀ y:List Ai,y.length ≤ 100 → (if decide (s[k] < 0) = true then Option.bind (Ck y [45]) fun ad=>D1 s m ad ((k + 1:Nat):Int) else Option.bind (Dd s[k]) fun ac=>Option.bind (Ck y ac) fun ab=>D1 s m ab ((k + 1:Nat):Int)) = D1 s m (y ++ Mw s[k]) ((k + 1:Nat):Int):=by
   intro y hy
   by_cases f:s[k] < 0
   ·rw [if_pos (decide_eq_true f),Br (by simp; omega),Aa]
    unfold Mw
    rw [if_pos f]
   ·rw [if_neg (by simpa using f),(VQ f e.2).2,Aa,Br (by omega),Aa]
  by_cases u:k = 0
  ·subst u
   rw [if_neg (by simp),l _ (by omega),if_pos rfl]
   simp [Gq,Lib.join_nil]
  ·rw [if_pos (by simp; omega),Br (by simp; omega),Aa,l _ (by simp; omega),if_neg u]
 ·rw [D1,if_neg (by simp),List.take_of_length_le (by simp)]
theorem Vp {s:List Int} (h:Wu s):Cv (s,true) FU [] 0 = some (Gq (s.map Mw)):=by
 obtain ⟨v,l⟩:=h
 have g:∀ w ∈ s.map Mw,w.length ≤ 3:=by
  intro w g
  obtain ⟨n,f,rfl⟩:=List.mem_map.1 g
  exact Rt (l n f).2
 refine Eq.trans (ED (Cv (s,true)) s.length (fun k=>(s.map Mw).take k) (some (Gq (s.map Mw))) (by omega) (j:=0) (by omega) (fun m k _ u=>?_) (fun m=>?_)) rfl
 ·have f:=l _ (List.getElem_mem u)
  rw [Cv,if_pos (by simp; omega)]
  unfold Bk
  dsimp only
  rw [AY,Cp u,Aa,AE (by omega),List.take_succ_eq_append_getElem (by simp; omega),List.getElem_map]
  by_cases e:s[k] < 0
  ·rw [if_pos (decide_eq_true e),Br (by simp; omega),Aa]
   unfold Mw
   rw [if_pos e]
  ·rw [if_neg (by simpa using e),(VQ e f.2).1,Aa,Br (by simp; omega),Aa]
 ·rw [Cv,if_neg (by simp),List.take_of_length_le (by simp),W6 g (by omega) (by simp; omega),Aa]
def Oq (q:List Int):List Ai:=Lib.decDigits (IK q 0).toNat ++ [45] ++ Lib.decDigits (IK q 1).toNat
def NV (q:List Int):Prop:=∃ i k:Nat,q = [(i:Int),(k:Int)] ∧ i < 100 ∧ k < 100
theorem Pg {q:List Int} (h:NV q):1 ≤ (Oq q).length ∧ (Oq q).length ≤ 5:=by
 obtain ⟨i,k,rfl,g,f⟩:=h
 unfold Oq IK
 have h1:=Hu (k:=1) (u:=i) (by omega)
 have e:=Hu (k:=1) (u:=k) (by omega)
 simp
 omega
theorem Zi {q:List Int} (h:NV q) {R:Type} (f:List Ai → Af R):(Option.bind (AM q 0) fun g=>Option.bind (AM q 1) fun l=>Option.bind (CY g) fun e=>Option.bind (Ck e [45]) fun m=>Option.bind (CY l) fun s=>Option.bind (Ck m s) f) = f (Oq q):=by
 obtain ⟨i,k,rfl,hi,hk⟩:=h
 have h1:=Hu (k:=1) (u:=i) (by omega)
 have v:=Hu (k:=1) (u:=k) (by omega)
 show (Option.bind (some (i:Int)) fun g=>Option.bind (some (k:Int)) fun l=>Option.bind (CY g) fun e=>Option.bind (Ck e [45]) fun m=>Option.bind (CY l) fun s=>Option.bind (Ck m s) f) = _
 rw [Aa,Aa,L9 (by omega) (by omega),Aa,Br (by simp; omega),Aa,L9 (by omega) (by omega),Aa,Br (by simp; omega),Aa]
 rfl
theorem Zh {q:List Int} (h:NV q) {R:Type} (f:List Ai → Af R):(Option.bind (AM q 0) fun g=>Option.bind (AM q 1) fun l=>Option.bind (Dd g) fun e=>Option.bind (Ck e [45]) fun m=>Option.bind (Dd l) fun s=>Option.bind (Ck m s) f) = f (Oq q):=by
 obtain ⟨i,k,rfl,hi,hk⟩:=h
 have h1:=Hu (k:=1) (u:=i) (by omega)
 have v:=Hu (k:=1) (u:=k) (by omega)
 show (Option.bind (some (i:Int)) fun g=>Option.bind (some (k:Int)) fun l=>Option.bind (Dd g) fun e=>Option.bind (Ck e [45]) fun m=>Option.bind (Dd l) fun s=>Option.bind (Ck m s) f) = _
 rw [Aa,Aa,JW (by omega) (by omega),Aa,Br (by simp; omega),Aa,JW (by omega) (by omega),Aa,Br (by simp; omega),Aa]
 rfl
def Oc (P:List (List Int)):List Ai:=if P = [] then [110,111,110,101] else Gq (P.map Oq)
theorem Y0 {P:List (List Int)} (h:∀ q ∈ P,NV q) (l:P.length ≤ 1000) (b:Bool):CE (P,b) FU [] 0 = some (Gq (P.map Oq)):=by
 have e:∀ w ∈ P.map Oq,w.length ≤ 5:=by
  intro w e
  obtain ⟨q,g,rfl⟩:=List.mem_map.1 e
  exact (Pg (h q g)).2
 refine Eq.trans (ED (CE (P,b)) P.length (fun k=>(P.map Oq).take k) (some (Gq (P.map Oq))) (by omega) (j:=0) (by omega) (fun m k _ f=>?_) (fun m=>?_)) rfl
 ·rw [CE,if_pos (by simp; omega)]
  unfold Bk
  dsimp only
  rw [AY,Cp f,Aa,Zi (h _ (List.getElem_mem f)),AE (by omega),List.take_succ_eq_append_getElem (by simp; omega),List.getElem_map,Br (by simp; omega),Aa]
 ·rw [CE,if_neg (by simp),List.take_of_length_le (by simp),W6 e (by omega) (by simp; omega),Aa]
theorem Yz {P:List (List Int)} (h:∀ q ∈ P,NV q) (hl:P.length ≤ 1000) (b:Bool):CR (P,b) FU [] 0 = some (Oc P):=by
 have f:∀ w ∈ P.map Oq,w.length ≤ 5:=by
  intro w f
  obtain ⟨q,u,rfl⟩:=List.mem_map.1 f
  exact (Pg (h q u)).2
 refine Eq.trans (ED (CR (P,b)) P.length (fun k=>Gq ((P.map Oq).take k)) (some (Oc P)) (by omega) (j:=0) (by omega) (fun m k _ g=>?_) (fun m=>?_)) rfl
 ·have aa:=Nz _ f k (by simp; omega)
  have v:=Pg (h _ (List.getElem_mem g))
  rw [CR,if_pos (by simp; omega)]
  unfold Bk
  dsimp only
  rw [AY,Cp g,Aa,PS _ (by simp; omega),List.getElem_map]
  simp only [Zh (h _ (List.getElem_mem g))]
  by_cases l:k = 0
  ·subst l
   rw [if_neg (by simp),Br (by omega),Aa,if_pos rfl,AE (by omega)]
   simp [Gq,Lib.join_nil]
  ·rw [if_pos (by simp; omega),Br (by simp; omega),Aa,Br (by simp; omega),Aa,if_neg l,AE (by omega)]
 ·rw [CR,if_neg (by simp),List.take_of_length_le (by simp)]
  unfold Oc
  cases P with
  | nil=>rfl
  | cons q P =>
   have s:(Gq ((q :: P).map Oq)) ≠ []:=by
    have v:=Pg (h q (List.mem_cons_self ..))
    unfold Gq
    rw [List.map_cons,Lib.join_cons]
    intro e
    have:=congrArg List.length e
    rw [CM,List.length_nil] at this
    omega
   rw [if_neg (by simpa using s),if_neg (by simp)]
theorem RP {n:Int} (h:0 ≤ n ∧ n ≤ 1280):IY n = some (MP n):=by
 have h1:=Hu (k:=2) (u:=n.toNat / 8) (by omega)
 have f:=Hu (k:=0) (u:=n.toNat % 8) (by omega)
 unfold IY MP
 rw [Int.tdiv_eq_ediv_of_nonneg h.1,Int.tmod_eq_emod_of_nonneg h.1,A8 (by omega) (by omega),JW (by omega) (by omega),Aa,Aa,show (n / 8).toNat = n.toNat / 8 by omega]
 by_cases e:0 < n.toNat % 8
 ·rw [if_neg (by simp; omega),JW (by omega) (by omega),show (n % 8).toNat = n.toNat % 8 by omega,O0 (by simp; omega),Aa,Aa,O0 (by simp; omega),Aa,if_pos e,List.append_assoc]
  rfl
 ·rw [if_pos (by simp; omega),if_neg e,List.append_nil]
theorem Xo {s:Int × Int} (h:CX s = true):Kh s = some (PF s):=by
 have f:=FL.1 h
 have e:=LJ (n:=s.1) (by omega)
 have g:=LJ (n:=s.2) (by omega)
 unfold Kh
 rw [RP (by omega),Aa,O0 (by simp; omega),Aa,RP (by omega),Aa,O0 (by simp; omega),Aa]
 unfold PF
 rw [List.append_assoc]
 rfl
def OQ (r:Int × Bool):List Ai:=if r.2 = true then Lib.decDigits r.1.toNat else [110,111]
theorem Od {r:Int × Bool} (h:0 ≤ r.1) (e:r.1 ≤ 9223372036854775807):Fr r.1 r.2 = some (OQ r) ∧ Fq r.1 r.2 = some (OQ r):=by
 unfold Fr Fq Mn OQ
 rw [L9 h e,Aa,if_neg (c:=decide (r.1 < 0) = true) (by simp; omega),JW h e,Aa,Aa]
 cases r.2 <;> exact ⟨rfl,rfl⟩
def Nw (x:G6) (c:Int):Int × Bool:=if BK c 0 (Sj x) = true then (Rv x c,true) else (0,false)
theorem Xz {x:G6} (h:Gc x = true) (c:Int):Kr x c = some (Nw x c):=by
 have e:=(MU h).2.1
 unfold Kr Bk Nw
 dsimp only
 rw [QU x (by omega),Aa,h,Vu x (by omega),Aa,CT,Aa,Xx x h]
 cases BK c 0 (Sj x) <;> rfl
theorem Xu {x:G6} (h:Gc x = true) (c:Int):Kq x c = some (Nw x c):=by
 have e:=(MU h).2.1
 unfold Kq L6 Bk Nw
 dsimp only
 rw [RT x (by omega),Aa,h,Vr x (by omega),Aa,CU,Aa,OK x h]
 cases BK c 0 (Sj x) <;> rfl
theorem ZH {x:G6} (h:Gc x = true) {c:Int} (h1:c ≤ 99999):0 ≤ (Nw x c).1 ∧ (Nw x c).1 ≤ 720000:=by
 unfold Nw
 split
 ·rename_i f
  have e:=D9.1 f
  exact Abk h e.1 (by omega)
 ·simp
abbrev FR:=Ae1 × Ae1 × Int × Ae1 × (List BM) × (List I7)
abbrev SpT:=Ae1 × Ae1 × Int × Ae1 × (List BM) × (List I7) × (List Int) × (List Int) × Int
abbrev CtT:=(List Int) × (List Int) × Int
def EJ (s:FR) (c:CtT):SpT:=(s.1,s.2.1,s.2.2.1,s.2.2.2.1,s.2.2.2.2.1,s.2.2.2.2.2,c.1,c.2.1,c.2.2)
structure Kg (s:FR):Prop where
 ch:Cu s.1 = true
 ke:Cu s.2.1 = true
 mu:Gc s.2.2.2.1 = true
 ca:Fv s.2.2.2.2.1 = true
 ve:Ho s.2.2.2.2.2 = true
def Qj (b:Bool):List Ai:=if b = true then [111,107] else [110,111]
theorem YB (b:Bool):Iz b = some (Qj b):=by unfold Iz Qj; cases b <;> rfl
theorem Abx (b:Bool):Jc b = some (Qj b):=by unfold Jc Qj; cases b <;> rfl
def T6 (s:FR) (w:List Ai) (n:List Int) (F:FR → List Ai → List Int → Af (List Ai × FR)):Prop :=
 ∃ ok s',Kg s' ∧ (ok = false → s' = s) ∧ s'.2.2.2.2.1.length ≤ s.2.2.2.2.1.length + 1 ∧ F s w n = some (Qj ok,s') ∧ ∀ c,C1 (EJ s c) w n = some (ok,EJ s' c)
theorem XJ {n:List Int} (h:n.length = 1):∃ a,n = [a]:=by
 match n,h with
 | [a],_=>exact ⟨a,rfl⟩
theorem nl2 {n:List Int} (h:n.length = 2):∃ a b,n = [a,b]:=by
 match n,h with
 | [a,b],_=>exact ⟨a,b,rfl⟩
theorem nl3 {n:List Int} (h:n.length = 3):∃ a b c,n = [a,b,c]:=by
 match n,h with
 | [a,b,c],_=>exact ⟨a,b,c,rfl⟩
theorem nl4 {n:List Int} (h:n.length = 4):∃ a b c d,n = [a,b,c,d]:=by
 match n,h with
 | [a,b,c,d],_=>exact ⟨a,b,c,d,rfl⟩
theorem Im {α:Type} (a:α) (l:List α):AM (a :: l) 0 = some a:=rfl
theorem MX {α:Type} (a b:α) (l:List α):AM (a :: b :: l) 1 = some b:=rfl
theorem XN {α:Type} (a b c:α) (l:List α):AM (a :: b :: c :: l) 2 = some c:=rfl
theorem ix3 {α:Type} (a b c d:α) (l:List α):AM (a :: b :: c :: d :: l) 3 = some d:=rfl
def Rs (s:FR) (c:List (Int × Int)):FR:=(c,s.2.1,s.2.2.1,s.2.2.2.1,s.2.2.2.2.1,s.2.2.2.2.2)
theorem M5 (s:FR) (c:List (Int × Int)) (b:Bool):Dj s c b = some (Qj b,if b = true then Rs s c else s) ∧ ∀ k,EF (EJ s k) c b = some (b,EJ (if b = true then Rs s c else s) k):=by
 unfold Dj EF Bk
 dsimp only
 simp only [YB,Aa]
 cases b
 ·exact ⟨rfl,fun _=>rfl⟩
 ·exact ⟨rfl,fun _=>rfl⟩
theorem ZC {l:List (Int × Int)} (h:(Pv l).2 = true):Cu (Pv l).1 = true:=by
 unfold Pv at h ⊢
 split
 ·assumption
 ·rename_i e; rw [if_neg e] at h; cases h
theorem Zc {l:List (Int × Int)} {p:Int} {a:Int × Int} (h:(Lu l p a).2 = true):Cu (Lu l p a).1 = true:=by
 unfold Lu at h ⊢
 split
 ·rename_i e; rw [if_pos e] at h; exact ZC h
 ·rename_i e; rw [if_neg e] at h; cases h
theorem Aba {s:FR} (h:Kg s) {r:List (Int × Int) × Bool} (f:r.2 = true → Cu r.1 = true):Kg (if r.2 = true then Rs s r.1 else s):=by
 split
 ·rename_i e; exact ⟨f e,h.ke,h.mu,h.ca,h.ve⟩
 ·exact h
theorem Aby {s:FR} (h:Kg s) {n:List Int} (f:n.length = 2):T6 s SN n BI:=by
 obtain ⟨a,b,rfl⟩:=nl2 f
 have g:=Dc h.ch
 refine ⟨(Pv (s.1 ++ [(a,b)])).2,if (Pv (s.1 ++ [(a,b)])).2 = true then Rs s (Pv (s.1 ++ [(a,b)])).1 else s,Aba h ZC,(fun e=>by rw [e]; rfl),?_,?_,fun c=>?_⟩
 ·split <;> exact Nat.le_succ _
 ·unfold BI SN Gk
  dsimp only
  rw [if_pos (by rfl),Im,Aa,MX,Aa,Br (by simp; omega),Aa,List.nil_append,Br (by simp; omega),Aa,Sa _ (by simp; omega),Aa,(M5 _ _ _).1,Aa]
 ·unfold C1 SN Gk
  dsimp only
  rw [if_pos (by rfl),Im,Aa,MX,Aa,show (EJ s c).1 = s.1 by rfl,Nx _ (by omega),Aa,Br (by simp; omega),Aa,UR _ (by simp; omega),Aa,(M5 _ _ _).2,Aa]
theorem Aar {s:FR} (h:Kg s) {n:List Int} (f:n.length = 3):T6 s Q7 n BI:=by
 obtain ⟨p,a,b,rfl⟩:=nl3 f
 refine ⟨(Lu s.1 p (a,b)).2,if (Lu s.1 p (a,b)).2 = true then Rs s (Lu s.1 p (a,b)).1 else s,Aba h Zc,(fun e=>by rw [e]; rfl),?_,?_,fun c=>?_⟩
 ·split <;> exact Nat.le_succ _
 ·unfold BI Q7 Gk
  dsimp only
  rw [if_neg (by decide),if_pos (by rfl),Im,Aa,MX,Aa,XN,Aa,Qv h.ch,Aa,(M5 _ _ _).1,Aa]
 ·unfold C1 Q7 Gk
  dsimp only
  rw [if_neg (by decide),if_pos (by rfl),Im,Aa,MX,Aa,XN,Aa,show (EJ s c).1 = s.1 by rfl,Qu h.ch,Aa,(M5 _ _ _).2,Aa]
theorem Z4 {s:FR} (h:Kg s) {n:List Int}:T6 s Ph n BI:=by
 refine ⟨true,Rs s (s.1.map Nc),⟨Ac1 h.ch,h.ke,h.mu,h.ca,h.ve⟩,(fun e=>by cases e),Nat.le_succ _,?_,fun c=>?_⟩
 ·unfold BI Ph Gk
  dsimp only
  rw [if_neg (by decide),if_neg (by decide),if_pos (by rfl),Sv h.ch,Aa,(M5 _ _ _).1,Aa]
  rfl
 ·unfold C1 Ph Gk
  dsimp only
  rw [if_neg (by decide),if_neg (by decide),if_pos (by rfl),show (EJ s c).1 = s.1 by rfl,Sm h.ch,Aa,(M5 _ _ _).2,Aa]
  rfl
theorem Abz {s:FR} (h:Kg s) {n:List Int}:T6 s SP n BI:=by
 have f:=Dc h.ch
 refine ⟨true,(s.1,s.1,s.2.2.1,s.2.2.2.1,s.2.2.2.2.1,s.2.2.2.2.2),⟨h.ch,h.ch,h.mu,h.ca,h.ve⟩,(fun e=>by cases e),Nat.le_succ _,?_,fun c=>?_⟩
 ·unfold BI SP
  rw [if_neg (by decide),if_neg (by decide),if_neg (by decide),if_pos (by rfl),Br (by simp; omega),Aa]
  rfl
 ·unfold C1 SP Gk
  dsimp only
  rw [if_neg (by decide),if_neg (by decide),if_neg (by decide),if_pos (by rfl),show (EJ s c).1 = s.1 by rfl,Nx _ (by omega),Aa]
  rfl
theorem Z5 {s:FR} (h:Kg s) {n:List Int} (f:n.length = 1):T6 s Pi n BI:=by
 obtain ⟨a,rfl⟩:=XJ f
 refine ⟨BK a 1 64,if BK a 1 64 = true then (s.1,s.2.1,a,s.2.2.2.1,s.2.2.2.2.1,s.2.2.2.2.2) else s,?_,(fun e=>by rw [e]; rfl),?_,?_,fun c=>?_⟩
 ·split
  ·exact ⟨h.ch,h.ke,h.mu,h.ca,h.ve⟩
  ·exact h
 ·split <;> exact Nat.le_succ _
 ·unfold BI Pi
  rw [if_neg (by decide),if_neg (by decide),if_neg (by decide),if_neg (by decide),Im,Aa,CT,Aa,Aa]
  cases BK a 1 64 <;> rfl
 ·unfold C1 Pi Gk
  dsimp only
  rw [if_neg (by decide),if_neg (by decide),if_neg (by decide),if_neg (by decide),if_pos (by rfl),Im,Aa,CU,Aa,Aa]
  cases BK a 1 64 <;> rfl
theorem Y4 {s:FR} (h:Kg s) {n:List Int} (f:n.length = 2):T6 s NH n CG:=by
 obtain ⟨a,b,rfl⟩:=nl2 f
 have g:=(MU h.mu).2.1
 refine ⟨Gc (s.2.2.2.1 ++ [(a,b)]),if Gc (s.2.2.2.1 ++ [(a,b)]) = true then (s.1,s.2.1,s.2.2.1,s.2.2.2.1 ++ [(a,b)],s.2.2.2.2.1,s.2.2.2.2.2) else s,?_,(fun e=>by rw [e]; rfl),?_,?_,fun c=>?_⟩
 ·split
  ·rename_i e; exact ⟨h.ch,h.ke,e,h.ca,h.ve⟩
  ·exact h
 ·split <;> exact Nat.le_succ _
 ·unfold CG NH Gk
  dsimp only
  rw [if_pos (by rfl),Im,Aa,MX,Aa,Br (by simp; omega),Aa,List.nil_append,Br (by simp; omega),Aa,QU _ (by simp; omega),Aa]
  cases Gc (s.2.2.2.1 ++ [(a,b)]) <;> rfl
 ·unfold C1 NH Gk
  dsimp only
  rw [if_neg (by decide),if_neg (by decide),if_neg (by decide),if_neg (by decide),if_neg (by decide),if_pos (by rfl),Im,Aa,MX,Aa,show (EJ s c).2.2.2.1 = s.2.2.2.1 by rfl,Br (by simp; omega),Aa,List.nil_append,Br (by simp; omega),Aa,RT _ (by simp; omega),Aa]
  cases Gc (s.2.2.2.1 ++ [(a,b)]) <;> rfl
theorem Y3 {s:FR} (h:Kg s) {n:List Int} (g:n.length = 3):T6 s NF n CG:=by
 obtain ⟨a,b,d,rfl⟩:=nl3 g
 have f:=NI h.ve
 refine ⟨(Ly s.2.2.2.2.2 (a,b,d)).2,if (Ly s.2.2.2.2.2 (a,b,d)).2 = true then (s.1,s.2.1,s.2.2.1,s.2.2.2.1,s.2.2.2.2.1,(Ly s.2.2.2.2.2 (a,b,d)).1) else s,?_,(fun e=>by rw [e]; rfl),?_,?_,fun c=>?_⟩
 ·split
  ·rename_i e
   refine ⟨h.ch,h.ke,h.mu,h.ca,?_⟩
   unfold Ly at e ⊢
   dsimp only
   split
   ·assumption
   ·rename_i l; rw [if_neg l] at e; cases e
  ·exact h
 ·split <;> exact Nat.le_succ _
 ·unfold CG NF Bk
  dsimp only
  rw [if_neg (by decide),if_neg (by decide),Im,Aa,MX,Aa,XN,Aa,Tv h.ve f.2,Aa,YB,Aa,Aa]
  cases (Ly s.2.2.2.2.2 (a,b,d)).2 <;> rfl
 ·unfold C1 NF Gk
  dsimp only
  rw [if_neg (by decide),if_neg (by decide),if_neg (by decide),if_neg (by decide),if_neg (by decide),if_neg (by decide),if_neg (by decide),if_pos (by rfl),Im,Aa,MX,Aa,XN,Aa,show (EJ s c).2.2.2.2.2.1 = s.2.2.2.2.2 by rfl,SY h.ve f.2,Aa]
  cases (Ly s.2.2.2.2.2 (a,b,d)).2 <;> rfl
def Pk (n:List Int):Prop:=∀ x ∈ n,0 ≤ x ∧ x ≤ 99999
theorem Aas {s:FR} (h:Kg s) (ai:s.2.2.2.2.1.length ≤ 39) {n:List Int} (u:n.length = 4) (m:Pk n):T6 s QA n CG:=by
 obtain ⟨a,b,d,e,rfl⟩:=nl4 u
 have ah:=(Hh.1 h.ca).1
 have v:∀ x ∈ s.2.2.2.2.1 ++ [(a,b,d,e)],Lv x:=by
  intro x f
  rcases AX.1 f with f | f
  ·exact Us h.ca x f
  ·rw [List.mem_singleton] at f
   subst f
   have hb:=m b (by simp)
   have hd:=m d (by simp)
   exact ⟨hb,hd⟩
 obtain ⟨Z,z1,z2,z3,z4⟩:=Y5 (l:=s.2.2.2.2.1 ++ [(a,b,d,e)]) (by simp; omega) v
 have g:=z1.length_eq
 rw [CM,List.length_singleton] at g
 refine ⟨Fv Z,if Fv Z = true then (s.1,s.2.1,s.2.2.1,s.2.2.2.1,Z,s.2.2.2.2.2) else s,?_,(fun e=>by rw [e]; rfl),?_,?_,fun c=>?_⟩
 ·split
  ·rename_i e; exact ⟨h.ch,h.ke,h.mu,e,h.ve⟩
  ·exact h
 ·split
  ·exact Nat.le_of_eq g
  ·exact Nat.le_succ _
 ·unfold CG QA Gk
  dsimp only
  rw [if_neg (by decide),if_pos (by rfl),Im,Aa,MX,Aa,XN,Aa,ix3,Aa,Br (by simp; omega),Aa,List.nil_append,Br (by simp; omega),Aa,z2,Aa,z3,Aa]
  cases Fv Z <;> rfl
 ·unfold C1 QA Gk W8
  dsimp only
  rw [if_neg (by decide),if_neg (by decide),if_neg (by decide),if_neg (by decide),if_neg (by decide),if_neg (by decide),if_pos (by rfl),Im,Aa,MX,Aa,XN,Aa,ix3,Aa,show (EJ s c).2.2.2.2.1 = s.2.2.2.2.1 by rfl,Br (by simp; omega),Aa,List.nil_append,Br (by simp; omega),Aa,z4,Aa]
  cases Fv Z <;> rfl
def Pe (s:FR) (w:List Ai) (n:List Int):Prop:=∃ r,r.length ≤ 1000 ∧ Ca s w n = some r ∧ ∀ c,C5 (EJ s c) w n = some r
theorem NW {r:Int × Bool} (h:0 ≤ r.1) (e:r.1 ≤ 1000000000):(OQ r).length ≤ 1000:=by
 unfold OQ
 split
 ·have:=Hu (k:=9) (u:=r.1.toNat) (by omega)
  omega
 ·decide
theorem Aap (e:Int):Ld Qk e = ([],false):=by
 unfold Ld
 rw [So]
 rfl
theorem Aah (e:Int):Me Qk e = (0,false):=by
 unfold Me
 rw [So]
 rfl
theorem Abn:M3 Qk = (0,false):=by
 unfold M3
 rw [So]
 rfl
theorem Vc {a b:List (Int × Int)} {n:Int} (h:(Em a b n).2 = false):(Em a b n).1 = Qk:=by
 unfold Em at *
 split
 ·rename_i e; rw [if_pos e] at h; cases h
 ·rfl
theorem Zr {a b:List (Int × Int)} {n:Int} (h:(Fy a b n).2 = false):(Fy a b n).1 = Qk:=by
 unfold Fy at *
 split
 ·rename_i e; rw [if_pos e] at h; cases h
 ·rfl
theorem Adm {s:FR} (h:Kg s) {n:List Int}:Pe s VT n:=by
 have h1:=Dc h.ch
 have m:=Dc h.ke
 have f:=Zq s.2.1 s.1 s.2.2.1
 have e:=Abo (Fy s.2.1 s.1 s.2.2.1).1
 have g:=Od (r:=M3 (Fy s.2.1 s.1 s.2.2.1).1) e.1 (by omega)
 refine ⟨OQ (M3 (Fy s.2.1 s.1 s.2.2.1).1),NW e.1 (by omega),?_,fun c=>?_⟩
 ·unfold Ca VT W7
  dsimp only
  rw [if_pos (by rfl),PT (by omega) (by omega),Aa,show ((Fy s.2.1 s.1 s.2.2.1).1.1,(Fy s.2.1 s.1 s.2.2.1).1.2.1,(Fy s.2.1 s.1 s.2.2.1).1.2.2.1,(Fy s.2.1 s.1 s.2.2.1).1.2.2.2) = (Fy s.2.1 s.1 s.2.2.1).1 by rfl,f.sum.1,Aa,g.1,Aa]
 ·unfold C5 VT jK5
  dsimp only
  rw [if_pos (by rfl),show (EJ s c).1 = s.1 by rfl,show (EJ s c).2.1 = s.2.1 by rfl,show (EJ s c).2.2.1 = s.2.2.1 by rfl,PG (by omega) (by omega),Aa,show ((Fy s.2.1 s.1 s.2.2.1).1.1,(Fy s.2.1 s.1 s.2.2.1).1.2.1,(Fy s.2.1 s.1 s.2.2.1).1.2.2.1,(Fy s.2.1 s.1 s.2.2.1).1.2.2.2) = (Fy s.2.1 s.1 s.2.2.1).1 by rfl]
  cases l:(Fy s.2.1 s.1 s.2.2.1).2 with
  | true=>rw [if_neg (by simp),f.sum.2,Aa,g.2,Aa]
  | false =>
   rw [if_pos (by rfl),Zr l,Abn]
   rfl
theorem Yx {t:BU} (h:SmT t) (f:Int):(∀ q ∈ (Ld t f).1,NV q) ∧ (Ld t f).1.length ≤ 144:=by
 have:=h.h1
 unfold Ld
 split
 ·refine ⟨fun q e=>?_,?_⟩
  ·obtain ⟨i,k,h1,g,m,l,_⟩:=Zj e
   exact ⟨i,k,h1,by omega,by omega⟩
  ·have h1:=QM (XS t f) t.1.length t.1.length
   have g:t.1.length * t.1.length ≤ 12 * 12:=Nat.mul_le_mul this this
   dsimp only
   omega
 ·exact ⟨(fun q e=>by cases e),by simp⟩
theorem Y1 {P:List (List Int)} (h:∀ q ∈ P,NV q) (g:P.length ≤ 144):(Oc P).length ≤ 1000:=by
 unfold Oc
 split
 ·decide
 ·have:=QO (B:=5) (P.map Oq) (fun w e=>by
   obtain ⟨q,f,rfl⟩:=List.mem_map.1 e
   exact (Pg (h q f)).2)
  rw [List.length_map] at this
  omega
theorem Aa0 {s:FR} (h:Kg s) {n:List Int} (l:n.length = 1):Pe s Q9 n:=by
 obtain ⟨a,rfl⟩:=XJ l
 have h1:=Dc h.ch
 have u:=Dc h.ke
 have g:=Vb s.2.1 s.1 s.2.2.1
 obtain ⟨e,f⟩:=Yx g a
 refine ⟨if (Ld (Em s.2.1 s.1 s.2.2.1).1 a).2 = true then Oc (Ld (Em s.2.1 s.1 s.2.2.1).1 a).1 else [110,111],?_,?_,fun c=>?_⟩
 ·split
  ·exact Y1 e f
  ·decide
 ·unfold Ca Q9 GI W7
  dsimp only
  rw [if_neg (by decide),if_pos (by rfl),Im,Aa,Mg (by omega) (by omega),Aa,show ((Em s.2.1 s.1 s.2.2.1).1.1,(Em s.2.1 s.1 s.2.2.1).1.2.1,(Em s.2.1 s.1 s.2.2.1).1.2.2.1,(Em s.2.1 s.1 s.2.2.1).1.2.2.2) = (Em s.2.1 s.1 s.2.2.1).1 by rfl,QV g,Aa]
  generalize Ld (Em s.2.1 s.1 s.2.2.1).1 a = r at *
  obtain ⟨P,b⟩:=r
  cases b with
  | false=>rfl
  | true =>
   dsimp only at e f ⊢
   rw [if_neg (by simp),if_pos rfl]
   unfold Oc
   cases P with
   | nil=>rfl
   | cons q P =>
    rw [if_neg (by simp; omega),Y0 e (by omega),Aa,if_neg (by simp)]
 ·unfold C5 Q9 Hn EC Bk
  dsimp only
  rw [if_neg (by decide),if_pos (by rfl),Im,Aa,show (EJ s c).1 = s.1 by rfl,show (EJ s c).2.1 = s.2.1 by rfl,show (EJ s c).2.2.1 = s.2.2.1 by rfl,LT (by omega) (by omega),Aa,Aa,QE g,Aa]
  cases m:(Em s.2.1 s.1 s.2.2.1).2 with
  | false =>
   rw [Vc m,Aap]
   rfl
  | true =>
   generalize Ld (Em s.2.1 s.1 s.2.2.1).1 a = r at *
   obtain ⟨P,b⟩:=r
   cases b with
   | false=>rfl
   | true =>
    dsimp only at e f ⊢
    rw [if_neg (by simp),if_neg (by simp),Yz e (by omega),Aa,if_pos rfl]
theorem Ab5 {s:FR} (h:Kg s) {n:List Int} (l:n.length = 1):Pe s SO n:=by
 obtain ⟨a,rfl⟩:=XJ l
 have h1:=Dc h.ch
 have u:=Dc h.ke
 have f:=Vb s.2.1 s.1 s.2.2.1
 have e:=Aai (Em s.2.1 s.1 s.2.2.1).1 a
 have g:=Od (r:=Me (Em s.2.1 s.1 s.2.2.1).1 a) e.1 (by omega)
 refine ⟨OQ (Me (Em s.2.1 s.1 s.2.2.1).1 a),NW e.1 (by omega),?_,fun c=>?_⟩
 ·unfold Ca SO W7
  dsimp only
  rw [if_neg (by decide),if_neg (by decide),if_pos (by rfl),Mg (by omega) (by omega),Aa,Im,Aa,show ((Em s.2.1 s.1 s.2.2.1).1.1,(Em s.2.1 s.1 s.2.2.1).1.2.1,(Em s.2.1 s.1 s.2.2.1).1.2.2.1,(Em s.2.1 s.1 s.2.2.1).1.2.2.2) = (Em s.2.1 s.1 s.2.2.1).1 by rfl,Tu f,Aa,g.1,Aa]
 ·unfold C5 SO EC
  rw [if_neg (by decide),if_neg (by decide),if_pos (by rfl),show (EJ s c).1 = s.1 by rfl,show (EJ s c).2.1 = s.2.1 by rfl,show (EJ s c).2.2.1 = s.2.2.1 by rfl,LT (by omega) (by omega),Aa,Aa,Im,Aa]
  cases m:(Em s.2.1 s.1 s.2.2.1).2 with
  | true=>rw [if_neg (by simp),SX f,Aa,g.2,Aa]
  | false =>
   rw [if_pos (by rfl),Vc m,Aah]
   rfl
theorem Aaz {s:FR} (h:Kg s) {n:List Int}:Pe s Q8 n:=by
 obtain ⟨g,l,e,m⟩:=S3 h.ch
 have f:=Od (r:=MW s.1) e (by omega)
 refine ⟨OQ (MW s.1),NW e (by omega),?_,fun c=>?_⟩
 ·unfold Ca Q8
  rw [if_neg (by decide),if_neg (by decide),if_neg (by decide),if_pos (by rfl),g,Aa,f.1,Aa]
 ·unfold C5 Q8
  rw [if_neg (by decide),if_neg (by decide),if_neg (by decide),if_pos (by rfl),show (EJ s c).1 = s.1 by rfl,l,Aa,f.2,Aa]
theorem Ab3 {s:FR} (h:Kg s) {n:List Int} (g:n.length = 1) (m:Pk n):Pe s SL n:=by
 obtain ⟨a,rfl⟩:=XJ g
 have l:=m a (by simp)
 have e:=ZH h.mu (c:=a) l.2
 have f:=Od (r:=Nw s.2.2.2.1 a) e.1 (by omega)
 refine ⟨OQ (Nw s.2.2.2.1 a),NW e.1 (by omega),?_,fun c=>?_⟩
 ·unfold Ca SL
  rw [if_neg (by decide),if_neg (by decide),if_neg (by decide),if_neg (by decide),if_neg (by decide),if_neg (by decide),if_pos (by rfl),Im,Aa,Xz h.mu,Aa,f.1,Aa]
 ·unfold C5 SL
  rw [if_neg (by decide),if_neg (by decide),if_neg (by decide),if_neg (by decide),if_pos (by rfl),Im,Aa,show (EJ s c).2.2.2.1 = s.2.2.2.1 by rfl,Xu h.mu,Aa,f.2,Aa]
theorem Adl {s:FR} (h:Kg s) {n:List Int} (f:n.length = 2):Pe s VS n:=by
 obtain ⟨a,b,rfl⟩:=nl2 f
 have e:=Abh h.ca a b
 refine ⟨if (MZ s.2.2.2.2.1 a b).2 = true then Lib.decDigits (MZ s.2.2.2.2.1 a b).1.toNat else [110,111,110,101],?_,?_,fun c=>?_⟩
 ·split
  ·have:=Hu (k:=1) (u:=(MZ s.2.2.2.2.1 a b).1.toNat) (by omega)
   omega
  ·decide
 ·unfold Ca VS
  rw [if_neg (by decide),if_neg (by decide),if_neg (by decide),if_neg (by decide),if_neg (by decide),if_neg (by decide),if_neg (by decide),if_pos (by rfl),Im,Aa,MX,Aa,Uc h.ca,Aa,L9 e.1 (by omega),Aa]
  cases (MZ s.2.2.2.2.1 a b).2 <;> rfl
 ·unfold C5 VS
  rw [if_neg (by decide),if_neg (by decide),if_neg (by decide),if_neg (by decide),if_neg (by decide),if_pos (by rfl),Im,Aa,MX,Aa,show (EJ s c).2.2.2.2.1 = s.2.2.2.2.1 by rfl,TO h.ca,Aa,JW e.1 (by omega),Aa]
  cases (MZ s.2.2.2.2.1 a b).2 <;> rfl
theorem Aax {s:FR} (h:Kg s) {n:List Int} (e:n.length = 1):Pe s Q6 n:=by
 obtain ⟨a,rfl⟩:=XJ e
 obtain ⟨⟨z,b⟩,l,m,f⟩:=WT h.ve a
 refine ⟨if b = true then Gq (z.map Mw) else [110,111],?_,?_,fun c=>?_⟩
 ·split
  ·rename_i g
   obtain ⟨u,g⟩:=f g
   have:=QO (B:=3) (z.map Mw) (fun w v=>by
    obtain ⟨n,e,rfl⟩:=List.mem_map.1 v
    exact Rt (g n e).2)
   rw [List.length_map] at this
   dsimp only at u
   omega
  ·decide
 ·unfold Ca Q6 Fw
  rw [if_neg (by decide),if_neg (by decide),if_neg (by decide),if_neg (by decide),if_neg (by decide),if_neg (by decide),if_neg (by decide),if_neg (by decide),Im,Aa,l,Aa]
  cases b with
  | false=>rfl
  | true =>
   rw [if_neg (by simp),Vp (f rfl),Aa]
   rfl
 ·unfold C5 Q6
  rw [if_neg (by decide),if_neg (by decide),if_neg (by decide),if_neg (by decide),if_neg (by decide),if_neg (by decide),if_pos (by rfl),Im,Aa,show (EJ s c).2.2.2.2.2.1 = s.2.2.2.2.2 by rfl,m,Aa]
  cases b with
  | false=>rfl
  | true =>
   rw [if_neg (by simp),X2 (f rfl),Aa]
   rfl
theorem Ab4 {s:FR} (h:Kg s) {n:List Int} (g:n.length = 1) (u:Pk n):Pe s SM n:=by
 obtain ⟨a,rfl⟩:=XJ g
 have f:=u a (by simp)
 have h1:=Dc h.ch
 refine ⟨if (s.1.length:Int) ≤ a then [110,111] else PF (DW s.1 a.toNat),?_,?_,fun c=>?_⟩
 ·split
  ·decide
  ·have:=YH (I3 h.ch (i:=a.toNat) (by omega))
   omega
 ·unfold Ca SM
  rw [if_neg (by decide),if_neg (by decide),if_neg (by decide),if_neg (by decide),if_pos (by rfl),Im,Aa,Aa]
  by_cases e:(s.1.length:Int) ≤ a
  ·rw [if_pos (decide_eq_true e),if_pos e]
  ·rw [if_neg (by simpa using e),if_neg e,It f.1,Dq (by omega),Aa,Vv (I3 h.ch (by omega)),Aa]
 ·unfold C5 SM
  rw [if_neg (by decide),if_neg (by decide),if_neg (by decide),if_neg (by decide),if_neg (by decide),if_neg (by decide),if_neg (by decide)]
  obtain ⟨m,l⟩:∃ m,FU = m + 2:=⟨FU - 2,rfl⟩
  rw [l,CB,if_pos (by simp),Im,Aa,show (EJ s c).1 = s.1 by rfl]
  by_cases e:(s.1.length:Int) ≤ a
  ·rw [if_pos (decide_eq_true e),if_pos e]
  ·rw [if_neg (by simpa using e),if_neg e,show Ag (0 + 1) = 1 by decide,CB,if_neg (by simp),if_pos (by rfl),Im,Aa,show (EJ s c).1 = s.1 by rfl,It f.1,Dq (by omega),Aa,Xo (I3 h.ch (by omega)),Aa]
theorem Aay {s:FR} (h:Kg s) {n:List Int} (hn:n.length = 2) (hs:Pk n):Pe s NG n:=by
 obtain ⟨a,b,rfl⟩:=nl2 hn
 have u:=hs a (by simp)
 have hb:=hs b (by simp)
 have h1:=Dc h.ch
 by_cases e:(s.1.length:Int) ≤ Fx a b
 ·have ai:(s.1.length:Int) ≤ a ∨ (s.1.length:Int) ≤ b:=by unfold Fx at e; split at e <;> omega
  refine ⟨[110,111],by decide,?_,fun c=>?_⟩
  ·unfold Ca NG
   rw [if_neg (by decide),if_neg (by decide),if_neg (by decide),if_neg (by decide),if_neg (by decide),if_pos (by rfl),Im,Aa,MX,Aa,if_pos (decide_eq_true e)]
  ·unfold C5 NG
   rw [if_neg (by decide),if_neg (by decide),if_neg (by decide),if_neg (by decide),if_neg (by decide),if_neg (by decide),if_neg (by decide)]
   obtain ⟨m,g⟩:∃ m,FU = m + 3:=⟨FU - 3,rfl⟩
   rw [g,CB,if_pos (by simp),Im,Aa,show (EJ s c).1 = s.1 by rfl]
   by_cases f:(s.1.length:Int) ≤ a
   ·rw [if_pos (decide_eq_true f)]
   ·rw [if_neg (by simpa using f),show Ag (0 + 1) = 1 by decide,CB,if_pos (by simp),MX,Aa,show (EJ s c).1 = s.1 by rfl,if_pos (decide_eq_true (by omega))]
 ·have f:¬ (s.1.length:Int) ≤ a:=by unfold Fx at e; split at e <;> omega
  have ag:¬ (s.1.length:Int) ≤ b:=by unfold Fx at e; split at e <;> omega
  obtain ⟨e1,e2,l,b2⟩:=Uv (I3 h.ch (i:=a.toNat) (by omega)) (I3 h.ch (i:=b.toNat) (by omega))
  have v:=Od (r:=NL (DW s.1 a.toNat) (DW s.1 b.toNat)) l (by omega)
  refine ⟨OQ (NL (DW s.1 a.toNat) (DW s.1 b.toNat)),NW l (by omega),?_,fun c=>?_⟩
  ·unfold Ca NG
   rw [if_neg (by decide),if_neg (by decide),if_neg (by decide),if_neg (by decide),if_neg (by decide),if_pos (by rfl),Im,Aa,MX,Aa,if_neg (by simpa using e),Aa,It u.1,Dq (by omega),Aa,Aa,It hb.1,Dq (by omega),Aa,e1,Aa,v.1,Aa]
  ·unfold C5 NG
   rw [if_neg (by decide),if_neg (by decide),if_neg (by decide),if_neg (by decide),if_neg (by decide),if_neg (by decide),if_neg (by decide)]
   obtain ⟨m,g⟩:∃ m,FU = m + 3:=⟨FU - 3,rfl⟩
   rw [g,CB,if_pos (by simp),Im,Aa,show (EJ s c).1 = s.1 by rfl,if_neg (by simpa using f),show Ag (0 + 1) = 1 by decide,CB,if_pos (by simp),MX,Aa,show (EJ s c).1 = s.1 by rfl,if_neg (by simpa using ag),show Ag (1 + 1) = 2 by decide,CB,if_neg (by simp),if_neg (by decide),Im,Aa,show (EJ s c).1 = s.1 by rfl,It u.1,Dq (by omega),Aa,MX,Aa,It hb.1,Dq (by omega),Aa,e2,Aa,v.2,Aa]
structure VL (s:FR) (l:List Ai) (r:List Ai) (s':FR):Prop where
 ok:Kg s'
 len:r.length ≤ 1000
 car:s'.2.2.2.2.1.length ≤ s.2.2.2.2.1.length + 1
 im:Dv s l = some (r,s')
 sp:∀ c,Eb (EJ s c) l = some (r,EJ s' c)
 no:r = [110,111] ∨ r = [119,104,97,116] → s' = s
theorem ZL (c:Ai) (l:List Ai):∃ w e,CZ c l = w :: e:=by
 cases h:CZ c l with
 | nil=>have:=Jj c l; rw [h] at this; simp at this
 | cons w e=>exact ⟨w,e,rfl⟩
theorem Acz {b:Bool} (h:Qj b = [110,111] ∨ Qj b = [119,104,97,116]):b = false:=by
 cases b with
 | false=>rfl
 | true=>rcases h with h | h <;> exact absurd h (by decide)
theorem YI (c:Ai):∀ (m:List Ai),∀ b ∈ CZ c m,b.length ≤ m.length:=by
 intro m
 induction m with
 | nil=>intro b e; simp [CZ] at e; simp [e]
 | cons x m f =>
  intro b e
  rw [CZ] at e
  split at e
  ·rcases List.mem_cons.1 e with rfl | e
   ·simp
   ·have:=f b e; simp; omega
  ·cases g:CZ c m with
   | nil=>have:=Jj c m; rw [g] at this; simp at this
   | cons a t =>
    rw [g] at e f
    rcases List.mem_cons.1 e with rfl | e
    ·have:=f a (List.mem_cons_self ..); simp; omega
    ·have:=f b (List.mem_cons_of_mem _ e); simp; omega
theorem XZ {s:FR} (h:Kg s) (u:s.2.2.2.2.1.length ≤ 39) {w:List Ai} {f:List Int} (g:Pk f) (l:OX w = (f.length:Int)) :
  (∃ F,T6 s w f F ∧ (w ∈ IV ∧ F = BI ∨ w ∈ OY ∧ F = CG)) ∨ (w ∈ LH ∧ Pe s w f):=by
 have m:=Aag (w:=w) (by rw [l]; omega)
 have len:∀ k:Nat,OX w = (k:Int) → f.length = k:=fun k e=>by rw [e] at l; omega
 simp only [IV,OY,LH,List.cons_append,List.nil_append,List.mem_cons,List.not_mem_nil,or_false] at m
 rcases m with rfl | rfl | rfl | rfl | rfl | rfl | rfl | rfl | rfl | rfl | rfl | rfl | rfl | rfl | rfl | rfl | rfl
 ·exact .inl ⟨_,Aby h (len 2 rfl),.inl ⟨by simp [IV],rfl⟩⟩
 ·exact .inl ⟨_,Aar h (len 3 rfl),.inl ⟨by simp [IV],rfl⟩⟩
 ·exact .inl ⟨_,Z4 h,.inl ⟨by simp [IV],rfl⟩⟩
 ·exact .inl ⟨_,Abz h,.inl ⟨by simp [IV],rfl⟩⟩
 ·exact .inl ⟨_,Z5 h (len 1 rfl),.inl ⟨by simp [IV],rfl⟩⟩
 ·exact .inl ⟨_,Y4 h (len 2 rfl),.inr ⟨by simp [OY],rfl⟩⟩
 ·exact .inl ⟨_,Aas h u (len 4 rfl) g,.inr ⟨by simp [OY],rfl⟩⟩
 ·exact .inl ⟨_,Y3 h (len 3 rfl),.inr ⟨by simp [OY],rfl⟩⟩
 ·exact .inr ⟨by simp [LH],Adm h⟩
 ·exact .inr ⟨by simp [LH],Aa0 h (len 1 rfl)⟩
 ·exact .inr ⟨by simp [LH],Ab5 h (len 1 rfl)⟩
 ·exact .inr ⟨by simp [LH],Aaz h⟩
 ·exact .inr ⟨by simp [LH],Ab3 h (len 1 rfl) g⟩
 ·exact .inr ⟨by simp [LH],Adl h (len 2 rfl)⟩
 ·exact .inr ⟨by simp [LH],Aax h (len 1 rfl)⟩
 ·exact .inr ⟨by simp [LH],Ab4 h (len 1 rfl) g⟩
 ·exact .inr ⟨by simp [LH],Aay h (len 2 rfl) g⟩
theorem ZX {l:List (List Ai)} {f:List Int} (h:IP Pm l = some f):Pk f:=by
 refine W2 (fun x y e=>?_) h
 unfold Pm at e
 split at e
 ·rename_i g
  cases e
  exact D9.1 g
 ·cases e
theorem ZQ (s:FR) (w:List Ai) {f:List (List Ai)} (hl:f.length ≤ 2000) (hm:∀ a ∈ f,a.length ≤ 2000):BS f s w FU [] 0 = match IP Pm f with
  | none=>some ([119,104,97,116],s)
  | some l=>BS f s w 1 l (f.length:Int):=by
 refine (VH (BS f s w) f Pm (fun l=>BS f s w 1 l (f.length:Int)) (some ([119,104,97,116],s)) (by omega) (fun m k aa x g ha=>?_) (fun m aa ha=>?_)).trans (by cases IP Pm f <;> rfl)
 ·have hk:=(List.getElem?_eq_some_iff.1 g).1
  have ae:=hm x (List.mem_of_getElem? g)
  rw [BS,if_pos (by simp; omega),AY,g,Aa,W9 x (by omega),Aa,AE (by omega)]
  unfold Bk Pm
  dsimp only
  cases u:BK (Lc x) 0 99999 with
  | true =>
   obtain ⟨e,v⟩:=Xw u
   rw [e,if_neg (by simp),if_neg (by simp; omega),Br (by simp; omega),Aa,if_pos rfl]
  | false =>
   rw [if_neg (c:=false = true) (by simp)]
   cases hb:(Ma x).2 with
   | false=>rw [if_pos (by rfl),if_pos rfl]
   | true =>
    have v:99999 < (Ma x).1:=by
     rcases Ww u with h | h
     ·rw [hb] at h; cases h
     ·exact h
    rw [if_neg (by simp),if_pos (decide_eq_true v)]
 ·rw [BS,BS,if_neg (by simp),if_neg (by simp)]
theorem Zp (x:SpT) (u:List (List Ai)) {e:List (List Ai)} (hl:e.length ≤ 2000) (l:∀ a ∈ e,a.length ≤ 2000):BR e x u FU [] 0 = match IP Pm e with
  | none=>some ([119,104,97,116],x)
  | some g=>BR e x u 1 g (e.length:Int):=by
 refine (VH (BR e x u) e Pm (fun g=>BR e x u 1 g (e.length:Int)) (some ([119,104,97,116],x)) (by omega) (fun m k h y f s=>?_) (fun m h s=>?_)).trans (by cases IP Pm e <;> rfl)
 ·have hk:=(List.getElem?_eq_some_iff.1 f).1
  have v:=l y (List.mem_of_getElem? f)
  rw [BR,if_pos (by simp; omega),AY,f,Aa,Zs y (by omega),Aa,CU,Aa,AE (by omega),Br (by simp; omega),Aa]
  unfold Pm
  cases BK (Lc y) 0 99999 <;> rfl
 ·rw [BR,BR,if_neg (by simp),if_neg (by simp)]
theorem Ve {s:FR} (h:Kg s) (ax:s.2.2.2.2.1.length ≤ 39) {l:List Ai} (hl:l.length ≤ 2000):∃ r s',VL s l r s':=by
 obtain ⟨w,f,ah⟩:=ZL 32 l
 have av:f.length ≤ 2000:=by
  have h1:=Jj 32 l
  have h2:l.count 32 ≤ l.length:=List.count_le_length
  rw [ah,List.length_cons] at h1
  omega
 have ao:∀ a ∈ f,a.length ≤ 2000:=fun a ha=>by
  have:=YI 32 l a (by rw [ah]; exact List.mem_cons_of_mem _ ha)
  omega
 have a1:FY l [32] = some (w :: f):=by rw [← ah]; exact XA l 32 (by omega)
 have az:FM l 32 = some (w :: f):=by rw [← ah]; exact SV l 32 (by omega)
 have ar:sl (w :: f) 1 (((w :: f).length:Nat):Int) = some f:=Ta (w :: f) (k:=1) (by simp)
 have im:Dv s l = match IP Pm f with
  | none=>some ([119,104,97,116],s)
  | some m=>BS f s w 1 m (f.length:Int):=by
  unfold Dv
  rw [a1,Aa,Im,Aa,ar,Aa,ZQ s w av ao]
 have sp:∀ c,Eb (EJ s c) l = if (f.length:Int) ≠ OX w then some ([119,104,97,116],EJ s c) else match IP Pm f with
  | none=>some ([119,104,97,116],EJ s c)
  | some m=>BR f (EJ s c) (w :: f) 1 m (f.length:Int):=by
  intro c
  unfold Eb
  rw [az,Aa,Im,Aa,Tw,Aa,ar,Aa,Zp _ _ av ao,A8 (by rw [List.length_cons]; omega) (by rw [List.length_cons]; omega),show (((w :: f).length:Nat):Int) - 1 = (f.length:Int) by simp]
  by_cases e:(f.length:Int) = OX w
  ·rw [if_neg (by simpa using e),if_neg (by simpa using e)]
  ·rw [if_pos (by simpa using e),if_pos e]
 have aw:(∀ c,Eb (EJ s c) l = some ([119,104,97,116],EJ s c)) → Dv s l = some ([119,104,97,116],s) → ∃ r s',VL s l r s':=fun a b=>⟨_,s,h,by decide,Nat.le_succ _,b,a,fun _=>rfl⟩
 cases ad:IP Pm f with
 | none =>
  rw [ad] at im
  refine aw (fun c=>?_) im
  rw [sp c,ad]
  split <;> rfl
 | some m =>
  have ap:=W3 ad
  rw [ad] at im
  dsimp only at im
  rw [BS,if_neg (by simp),TJ,Aa] at im
  by_cases hc:OX w = (m.length:Int)
  ·rw [if_neg (by simp [hc])] at im
   have am:∀ c,Eb (EJ s c) l = BR f (EJ s c) (w :: f) 1 m (f.length:Int):=fun c=>by
    rw [sp c,if_neg (by rw [hc,ap]; simp),ad]
   rcases XZ h ax (ZX ad) hc with ⟨F,⟨ok,s',g1,g2,g3,g4,g5⟩,hF⟩ | ⟨g,r,g1,g2,g3⟩
   ·refine ⟨Qj ok,s',g1,by cases ok <;> decide,g3,?_,fun c=>?_,fun e=>g2 (Acz e)⟩
    ·rw [im]
     rcases hF with ⟨g,rfl⟩ | ⟨g,rfl⟩
     ·simp only [IV,List.mem_cons,List.not_mem_nil,or_false] at g
      have ab:(Option.bind (BI s w m) fun u=>some (u.1,u.2)) = some (Qj ok,s'):=by rw [g4]; rfl
      rcases g with rfl | rfl | rfl | rfl | rfl <;> exact ab
     ·simp only [OY,List.mem_cons,List.not_mem_nil,or_false] at g
      have ab:(Option.bind (CG s w m) fun u=>some (u.1,u.2)) = some (Qj ok,s'):=by rw [g4]; rfl
      rcases g with rfl | rfl | rfl <;> exact ab
    ·rw [am c,BR,if_neg (by simp)]
     have ab:(Option.bind (C1 (EJ s c) w m) fun u=>Option.bind (Jc u.1) fun v=>some (v,u.2)) = some (Qj ok,EJ s' c):=by rw [g5,Aa,Abx]; rfl
     have au:w ∈ IV ++ OY:=by
      rcases hF with ⟨g,_⟩ | ⟨g,_⟩
      ·exact At _ g
      ·exact Bi _ g
     simp only [IV,OY,List.cons_append,List.nil_append,List.mem_cons,List.not_mem_nil,or_false] at au
     rcases au with rfl | rfl | rfl | rfl | rfl | rfl | rfl | rfl <;> exact ab
   ·refine ⟨r,s,h,g1,Nat.le_succ _,?_,fun c=>?_,fun _=>rfl⟩
    ·rw [im]
     have ab:(Option.bind (Ca s w m) fun u=>some (u,s)) = some (r,s):=by rw [g2]; rfl
     simp only [LH,List.mem_cons,List.not_mem_nil,or_false] at g
     rcases g with rfl | rfl | rfl | rfl | rfl | rfl | rfl | rfl | rfl <;> exact ab
    ·rw [am c,BR,if_neg (by simp)]
     have ab:(Option.bind (C5 (EJ s c) w m) fun u=>some (u,EJ s c)) = some (r,EJ s c):=by rw [g3]; rfl
     simp only [LH,List.mem_cons,List.not_mem_nil,or_false] at g
     rcases g with rfl | rfl | rfl | rfl | rfl | rfl | rfl | rfl | rfl <;> exact ab
  ·rw [if_pos (by simpa using fun e=>hc e.symm)] at im
   refine aw (fun c=>?_) im
   rw [sp c,if_pos (by rw [← ap]; exact fun e=>hc e.symm)]
def LR (s:FR) (l:List Ai):List Ai × FR:=(Dv s l).getD ([],s)
def LC (s:FR):List (List Ai) → FR
 | []=>s
 | l :: ls=>LC (LR s l).2 ls
def Lm (s:FR):List (List Ai) → List (List Ai)
 | []=>[]
 | l :: ls=>(LR s l).1 :: Lm (LR s l).2 ls
theorem O5 (l:List Ai):∀ (e:List (List Ai)) (s:FR),LC s (e ++ [l]) = (LR (LC s e) l).2
 | [],s=>rfl
 | a :: e,s=>O5 l e (LR s a).2
theorem QH (l:List Ai):∀ (e:List (List Ai)) (s:FR),Lm s (e ++ [l]) = Lm s e ++ [(LR (LC s e) l).1]
 | [],s=>rfl
 | a :: e,s=>by rw [List.cons_append,Lm,QH l e,Lm,LC]; rfl
theorem PI:∀ (e:List (List Ai)) (s:FR),(Lm s e).length = e.length
 | [],s=>rfl
 | a :: e,s=>by rw [Lm,List.length_cons,PI e,List.length_cons]
def KJ:FR:=([(0,0)],[(0,0)],8,[(4,120)],[],[((-1),0,0)])
theorem Acm:Kg KJ:=⟨by decide,by decide,by decide,by decide,by decide⟩
theorem X7 {s:FR} {l r:List Ai} {e:FR} (h:VL s l r e):LR s l = (r,e):=by unfold LR; rw [h.im]; rfl
structure Aep (ls:List (List Ai)) (k:Nat):Prop where
 ok:Kg (LC KJ (ls.take k))
 car:(LC KJ (ls.take k)).2.2.2.2.1.length ≤ k
 rep:∀ r ∈ Lm KJ (ls.take k),r.length ≤ 1000
theorem LI {α:Type} (l:List α) {k:Nat} (h:k < l.length):l.take (k + 1) = l.take k ++ [l[k]]:=List.take_succ_eq_append_getElem h
theorem Ow {l:List (List Ai)} (u:l.length ≤ 40) (s:∀ a ∈ l,a.length ≤ 2000):∀ k,k ≤ l.length → Aep l k
 | 0,_=>⟨Acm,Nat.le_refl _,fun r v=>by cases v⟩
 | k + 1,h=>by
  have f:=Ow u s k (by omega)
  have hc:=f.car
  obtain ⟨r,s',g⟩:=Ve f.ok (by omega) (s l[k] (List.getElem_mem _))
  have e:=X7 g
  refine ⟨?_,?_,?_⟩
  ·rw [LI l (by omega),O5,e]; exact g.ok
  ·rw [LI l (by omega),O5,e]; exact Aw g.car (by omega)
  ·rw [LI l (by omega),QH,e]
   intro x m
   rcases AX.1 m with m | m
   ·exact f.rep x m
   ·rw [List.mem_singleton] at m; rw [m]; exact g.len
theorem Wn {e:List (List Ai)} (l:e.length ≤ 40) (h:∀ a ∈ e,a.length ≤ 2000) {k:Nat} (m:k < e.length):VL (LC KJ (e.take k)) e[k] (LR (LC KJ (e.take k)) e[k]).1 (LC KJ (e.take (k + 1))):=by
 have f:=Ow l h k (by omega)
 have s:=f.car
 obtain ⟨r,u,g⟩:=Ve f.ok (by omega) (h e[k] (List.getElem_mem _))
 rw [LI e m,O5,X7 g]
 exact g
theorem UX (e:List (List Ai)) {k:Nat} (f:k < e.length):Lm KJ (e.take (k + 1)) = Lm KJ (e.take k) ++ [(LR (LC KJ (e.take k)) e[k]).1]:=by rw [LI e f,QH]
def Ob (p:List Ai → Bool) (rs:List (List Ai)):List Int:=((List.range rs.length).filter fun i=>p ((rs[i]?).getD [])).map fun (i:Nat)=>(i:Int) + 1
theorem Vg (p:List Ai → Bool) (rs:List (List Ai)) (r:List Ai):Ob p (rs ++ [r]) = Ob p rs ++ if p r = true then [(rs.length:Int) + 1] else []:=by
 unfold Ob
 rw [CM,List.length_singleton,List.range_succ,List.filter_append,List.map_append]
 have h:(List.range rs.length).filter (fun i=>p (((rs ++ [r])[i]?).getD [])) = (List.range rs.length).filter fun i=>p ((rs[i]?).getD []):=by
  refine List.filter_congr fun i g=>?_
  rw [List.getElem?_append_left (List.mem_range.1 g)]
 rw [h,List.filter_cons]
 have e:(rs ++ [r])[rs.length]? = some r:=by simp
 rw [e]
 cases f:p r <;> simp [f]
def XI (r:List Ai):Bool:=r == [110,111]
def VP (r:List Ai):Bool:=r == [119,104,97,116]
theorem WB (p:List Ai → Bool) (rs:List (List Ai)):(Ob p rs).length ≤ rs.length:=by
 unfold Ob
 rw [List.length_map]
 exact Aw (List.length_filter_le _ _) (by simp)
structure Aeo (l:List Ai):Prop where
 n40:(D5 l).length ≤ 40
 each:∀ a ∈ D5 l,a.length ≤ 2000
theorem QG {l:List Ai} (h:Ht l = true):Aeo l:=by
 obtain ⟨h1,f,g⟩:=GN.1 h
 exact ⟨by rw [PP f]; exact g,fun a e=>Aw (Yn e) h1⟩
def Yt (l:List Ai):FR:=LC KJ (D5 l)
def Nb (l:List Ai):List (List Ai):=Lm KJ (D5 l)
theorem Acr {l:List Ai} (h:Ht l = true):(Nb l).length ≤ 40 ∧ ∀ r ∈ Nb l,r.length ≤ 1000:=by
 have f:=QG h
 have g:=(Ow f.n40 f.each _ (Nat.le_refl _)).rep
 rw [List.take_length] at g
 exact ⟨by unfold Nb; rw [PI]; exact f.n40,g⟩
theorem TZ {l:List Ai} (u:l.length ≤ 4194304):ID l = some (if Ht l = true then ((true,Yt l),Nb l,true) else ((false,([],[],0,[],[],[])),[],false)):=by
 unfold ID
 rw [TQ l u,Aa]
 unfold N6
 cases h:Ht l with
 | false=>rfl
 | true =>
  have f:=QG h
  rw [if_pos rfl,if_neg (by simp),if_pos rfl]
  unfold KF
  rw [Aa]
  refine Eq.trans (ED (fun m (z:FR × List (List Ai)) k=>Eu (D5 l,true) m z.1 z.2 k) (D5 l).length (fun k=>(LC KJ ((D5 l).take k),Lm KJ ((D5 l).take k))) (some ((true,Yt l),Nb l,true)) (by have:=f.n40; omega) (j:=0) (by omega) (fun m k _ e=>?_) (fun m=>?_)) rfl
  ·have g:=Wn f.n40 f.each e
   have s:=PI ((D5 l).take k) KJ
   rw [List.length_take,Nat.min_eq_left (by omega)] at s
   have v:=f.n40
   rw [Eu,if_pos (by simp; omega),AY,Cp e,Aa,g.im,Aa,Br (by simp; omega),Aa,AE (by omega),UX _ e]
  ·rw [Eu,if_neg (by simp),List.take_length]
   rfl
def ctK (rs:List (List Ai)):CtT:=(Ob XI rs,Ob VP rs,0)
theorem Yg {l:List Ai} (hl:l.length ≤ 4194304):KV l = some (if Ht l = true then (EJ (Yt l) (Ob XI (Nb l),Ob VP (Nb l),((D5 l).length:Int)),H7 (Nb l),true) else (EJ KJ ([],[],0),[],false)):=by
 unfold KV Lf
 rw [Yw l hl,Aa,Aa]
 unfold N6
 cases h:Ht l with
 | false=>rfl
 | true =>
  have f:=QG h
  have ah:=f.n40
  rw [if_pos rfl,if_neg (by simp),if_pos rfl]
  refine Eq.trans (ED (fun m (z:SpT × List Ai) k=>Ga (D5 l,true) m z.1 z.2 k) (D5 l).length (fun k=>(EJ (LC KJ ((D5 l).take k)) (ctK (Lm KJ ((D5 l).take k))),H7 (Lm KJ ((D5 l).take k)))) (some (EJ (Yt l) (Ob XI (Nb l),Ob VP (Nb l),((D5 l).length:Int)),H7 (Nb l),true)) (by omega) (j:=0) (by omega) (fun m k _ hk=>?_) (fun m=>?_)) rfl
  ·have g:=Wn f.n40 f.each hk
   have hr:=PI ((D5 l).take k) KJ
   have ad:=(Ow f.n40 f.each k (by omega)).rep
   rw [List.length_take,Nat.min_eq_left (by omega)] at hr
   have hj:=QP 1000 _ ad
   have h1:=WB XI (Lm KJ ((D5 l).take k))
   have h2:=WB VP (Lm KJ ((D5 l).take k))
   have aj:=g.len
   rw [Ga,if_pos (by simp; omega),AY,Cp hk,Aa,g.sp,Aa,UX _ hk]
   generalize (LR (LC KJ ((D5 l).take k)) (D5 l)[k]).1 = r at *
   unfold Bk ctK EJ
   dsimp only
   rw [QQ,Vg,Vg,hr,AE (by omega)]
   have ej:H7 [r] = r ++ [10]:=by unfold H7; simp
   rw [ej]
   by_cases e:r = [110,111]
   ·have v:XI r = true:=by rw [e]; rfl
    have s:VP r = false:=by rw [e]; rfl
    rw [if_pos (by rw [e]; rfl),v,s,if_pos rfl,if_neg (c:=false = true) (by simp),List.append_nil,Br (by simp; omega),Aa,Br (by simp; omega),Aa,Br (by simp; omega),Aa]
    rfl
   ·have v:XI r = false:=beq_eq_false_iff_ne.2 e
    rw [if_neg (by simpa using e),v,if_neg (c:=false = true) (by simp),List.append_nil]
    by_cases u:r = [119,104,97,116]
    ·have s:VP r = true:=by rw [u]; rfl
     rw [if_pos (by rw [u]; rfl),s,if_pos rfl,Br (by simp; omega),Aa,Br (by simp; omega),Aa,Br (by simp; omega),Aa]
     rfl
    ·have s:VP r = false:=beq_eq_false_iff_ne.2 u
     rw [if_neg (by simpa using u),s,if_neg (c:=false = true) (by simp),List.append_nil,Br (by simp; omega),Aa,Br (by simp; omega),Aa]
  ·rw [Ga,if_neg (by simp),List.take_length]
   rfl
theorem Yp (rs:List (List Ai)) {k:Nat} (h:k < rs.length):H7 (rs.take (k + 1)) = H7 (rs.take k) ++ (rs[k] ++ [10]):=by
 rw [LI rs h,QQ]
 unfold H7
 simp
theorem Vd {rs:List (List Ai)} (l:rs.length ≤ 40) (f:∀ r ∈ rs,r.length ≤ 1000):Eg rs FU [] 0 = some (H7 rs):=by
 refine Eq.trans (ED (Eg rs) rs.length (fun k=>Ka (H7 (rs.take k))) (some (H7 rs)) (by omega) (j:=0) (by omega) (fun m k _ e=>?_) (fun m=>?_)) rfl
 ·have h1:=f _ (List.getElem_mem e)
  have g:=QP 1000 (rs.take k) (fun a h=>f a (List.mem_of_mem_take h))
  rw [List.length_take,Nat.min_eq_left (by omega)] at g
  rw [Eg,if_pos (by simp; omega),AY,Cp e,Aa,Br (by simp; omega),Aa,Ach (by simp; omega),Aa,AE (by omega),Yp rs e]
 ·rw [Eg,if_neg (by simp),List.take_length,Abj,Aa]
def Yi (l:List Ai):List Ai:=if Ht l = true then H7 (Nb l) else []
theorem Vw {l:List Ai} (g:l.length ≤ 4194304):Jz l = some (Yi l):=by
 unfold Jz Bk Yi
 dsimp only
 rw [TZ g,Aa]
 cases h:Ht l with
 | false=>exact Vd (rs:=[]) (by simp) (fun r e=>by cases e)
 | true =>
  obtain ⟨h1,f⟩:=Acr h
  exact Vd h1 f
theorem Vt {l:List Ai} (e:l.length ≤ 4194304):Jv l = some (Yi l):=by
 unfold Jv Yi
 rw [Yg e,Aa]
 cases Ht l <;> rfl
theorem OZ (l:List Ai) {G:Prop} (_:G):H9 l = some true:=by
 unfold H9
 by_cases h:1048576 < (l.length:Int)
 ·rw [if_pos (decide_eq_true h)]
 ·rw [if_neg (by simpa using h),Vt (by omega),Aa,Vw (by omega),Aa,if_neg (by simp)]
end Go.Proofs.YtellehgihceicaaGreatDoor
