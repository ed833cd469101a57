/-
 WHAT THE LAWS ON SHOWS HAND OVER AND TAKE BACK, PLAIN.
-/
import Derived.Test.YtellehgihceicaaGreatDoorPH
import Derived.Test.YtellehgihceicaaGreatDoorPB2
set_option linter.unusedVariables false
set_option linter.unusedSimpArgs false
set_option maxHeartbeats 1600000
namespace Go.Proofs.YtellehgihceicaaGreatDoor
open Go
theorem ZV {α:Type} (f:Nat → List α → Int → Int → Af (List α)) (g:List α) (h:g.length ≤ 9223372036854775807)
  (u:∀ m l y z,f (m + 1) l y z = if (decide (y < z)) = true then Option.bind (AL l z) fun a=>Option.bind (AL l y) fun b=>Option.bind (AL l y) fun _=>Option.bind (AL (BE l y a) z) fun _=>f m (BE (BE l y a) z b) (Ag (y + 1)) (Ag (z - 1)) else some l) :
  f FU g 0 (Ag ((List.length g:Int) - 1)) = some g.reverse:=by
 have aa:∀ (P T:List α) (x:α) (y:Int),y = (P.length:Int) → AL (P ++ x :: T) y = some x:=by
  intro P T x y e; unfold AL; rw [if_pos (by omega),show y.toNat = P.length by omega]; simp
 have ag:∀ (P T:List α) (x z:α) (y:Int),y = (P.length:Int) → BE (P ++ x :: T) y z = P ++ z :: T:=by
  intro P T x z y e; unfold BE; rw [show y.toNat = P.length by omega]; simp
 have ak:∀ (n:Nat) (M A B:List α) (m:Nat) (y z:Int),M.length ≤ 2 * n + 1 → n < m → y = (A.length:Int) → z = (A.length:Int) + (M.length:Int) - 1 → A.length + M.length ≤ 9223372036854775807 → f m (A ++ M ++ B) y z = some (A ++ M.reverse ++ B):=by
  intro n
  induction n with
  | zero =>
   intro M A B m y z hn hm v s hl
   cases m with
   | zero=>omega
   | succ m =>
    match M,hn with
    | [],_=>rw [u,if_neg (by simp at s ⊢; omega)]; simp
    | [a],_=>rw [u,if_neg (by simp at s ⊢; omega)]; simp
  | succ n ih =>
   intro M A B m y z hn hm v s hl
   cases m with
   | zero=>omega
   | succ m =>
    match M with
    | []=>rw [u,if_neg (by simp at s ⊢; omega)]; simp
    | a :: M' =>
     rcases List.eq_nil_or_concat M' with rfl | ⟨M2,b,rfl⟩
     ·rw [u,if_neg (by simp at s ⊢; omega)]; simp
     ·rw [List.concat_eq_append] at *
      have ab:z = (A.length:Int) + (M2.length:Int) + 1:=by rw [s]; simp; omega
      have aq:A.length + M2.length + 2 ≤ 9223372036854775807:=by simp at hl; omega
      have e1:A ++ a :: (M2 ++ [b]) ++ B = (A ++ a :: M2) ++ b :: B:=by simp
      have e2:A ++ a :: (M2 ++ [b]) ++ B = A ++ a :: (M2 ++ [b] ++ B):=by simp
      have i1:AL (A ++ a :: (M2 ++ [b]) ++ B) z = some b:=by rw [e1]; exact aa _ _ _ _ (by rw [ab]; simp; omega)
      have i2:AL (A ++ a :: (M2 ++ [b]) ++ B) y = some a:=by rw [e2]; exact aa _ _ _ _ v
      have s1:BE (A ++ a :: (M2 ++ [b]) ++ B) y b = (A ++ b :: M2) ++ b :: B:=by rw [e2,ag _ _ _ _ _ v]; simp
      have i3:AL ((A ++ b :: M2) ++ b :: B) z = some b:=aa _ _ _ _ (by rw [ab]; simp; omega)
      have s2:BE ((A ++ b :: M2) ++ b :: B) z a = (A ++ [b]) ++ M2 ++ a :: B:=by rw [ag _ _ _ _ _ (by rw [ab]; simp; omega)]; simp
      rw [u,if_pos (by simp; omega),i1,Aa,i2,Aa,Aa,s1,i3,Aa,s2,A8 (x:=y + 1) (by omega) (by omega),A8 (x:=z - 1) (by omega) (by omega)]
      have:=ih M2 (A ++ [b]) (a :: B) m (y + 1) (z - 1) (by simp at hn; omega) (by omega) (by simp; omega) (by simp; omega) (by simp; omega)
      rw [this]
      simp
 have:=ak (g.length / 2) g [] [] FU 0 (Ag ((List.length g:Int) - 1)) (by omega) (show g.length / 2 < 4611686018427387904 by omega) rfl (by rw [A8 (by omega) (by omega)]; simp) (by simpa using h)
 simpa using this
theorem ZW (x:List Int) (h:x.length < 4611686018427387904):Er x = some x.reverse:=by
 unfold Er
 exact ZV CS x (by omega) (fun m l y z=>by rw [CS]; rfl)
def MinSq (l:List (Int × Int)) (v:Int):Prop:=(∃ a b,a < b ∧ b < l.length ∧ v = GP (DZ l a) (DZ l b)) ∧ ∀ a b,a < b → b < l.length → v ≤ GP (DZ l a) (DZ l b)
theorem MinSq.uniq {l:List (Int × Int)} {v w:Int} (h:MinSq l v) (g:MinSq l w):v = w:=by
 obtain ⟨⟨a,b,h1,h2,h3⟩,u⟩:=h
 obtain ⟨⟨e,s,m,g2,g3⟩,f⟩:=g
 have:=u e s m g2
 have:=f a b h1 h2
 omega
def L0 (i k a b:Nat):Prop:=a < b ∧ (a < i ∨ (a = i ∧ b < k))
theorem Yl {l:List (Int × Int)} (hc:Cv l = true) (h2:2 ≤ l.length):∃ v,EG l = some (v,true) ∧ MinSq l v:=by
 have aq:=(Dc hc).2
 have ap:=fun a b (ha:a < l.length) (hb:b < l.length)=>(LT (I8 hc ha) (I8 hc hb)).2
 have am:∃ z:Int × Int,HM l = some z ∧ ∃ a b:Nat,z = ((a:Int),(b:Int)) ∧ a < b ∧ b < l.length ∧ ∀ g f,g < f → f < l.length → GP (DZ l a) (DZ l b) ≤ GP (DZ l g) (DZ l f):=by
  unfold HM
  refine Exists.elim (IY (fun (_:Unit) m (z:Int × Int) i=>DT l m z.1 z.2 i) l.length (fun i z=>∃ a b:Nat,z = ((a:Int),(b:Int)) ∧ a < b ∧ b < l.length ∧ ∀ g f,L0 i 0 g f → f < l.length → GP (DZ l a) (DZ l b) ≤ GP (DZ l g) (DZ l f))
   (fun _ z=>some z) (by omega) (fun i z _ hi hz=>?_) (fun z hz j m=>?_) (b:=0) (by omega) (s:=(0,1)) ⟨0,1,rfl,by omega,by omega,fun g f h=>by unfold L0 at h; omega⟩) ?_
  ·obtain ⟨a,b,rfl,ad,u,ab⟩:=hz
   refine Exists.elim (IY (fun (nx:Int → Int → Int → Af (Int × Int)) m (z:Int × Int) k=>Ds l (i:Int) nx m z.1 z.2 k) l.length (fun k z=>∃ a b:Nat,z = ((a:Int),(b:Int)) ∧ a < b ∧ b < l.length ∧ ∀ g f,L0 i k g f → f < l.length → GP (DZ l a) (DZ l b) ≤ GP (DZ l g) (DZ l f))
    (fun nx z=>nx z.1 z.2 ((i + 1:Nat):Int)) (by omega) (fun k z ao hk hz=>?_) (fun z hz j m=>?_) (b:=i + 1) (by omega) (s:=((a:Int),(b:Int))) ⟨a,b,rfl,ad,u,fun g f h ac=>ab g f (by unfold L0 at h ⊢; omega) ac⟩) ?_
   ·obtain ⟨a,b,rfl,ad,u,ab⟩:=hz
    by_cases aj:GP (DZ l i) (DZ l k) < GP (DZ l a) (DZ l b)
    ·refine ⟨((i:Int),(k:Int)),⟨i,k,rfl,by omega,hk,fun g f h ac=>?_⟩,fun nx m=>?_⟩
     ·by_cases e:g = i ∧ f = k
      ·rw [e.1,e.2]; exact Int.le_refl _
      ·have:=ab g f (by unfold L0 at h ⊢; omega) ac
       omega
     ·rw [Ds,if_pos (by simp; omega)]
      unfold FT
      dsimp only
      rw [AX,Dq hi,Aa,AX,Dq hk,Aa,AX,Dq (by omega),Aa,AX,Dq u,Aa,Hp,Aa,Hp,Aa,if_pos (decide_eq_true aj),AC (by omega)]
    ·refine ⟨((a:Int),(b:Int)),⟨a,b,rfl,ad,u,fun g f h ac=>?_⟩,fun nx m=>?_⟩
     ·by_cases e:g = i ∧ f = k
      ·rw [e.1,e.2]; omega
      ·exact ab g f (by unfold L0 at h ⊢; omega) ac
     ·rw [Ds,if_pos (by simp; omega)]
      unfold FT
      dsimp only
      rw [AX,Dq hi,Aa,AX,Dq hk,Aa,AX,Dq (by omega),Aa,AX,Dq u,Aa,Hp,Aa,Hp,Aa,if_neg (by simpa using aj),AC (by omega)]
   ·rw [Ds,if_neg (by simp),AC (by omega)]
   ·rintro z ⟨⟨a,b,rfl,ad,u,ab⟩,hz⟩
    refine ⟨((a:Int),(b:Int)),⟨a,b,rfl,ad,u,fun g f h ac=>ab g f (by unfold L0 at h ⊢; omega) ac⟩,fun _ m=>?_⟩
    dsimp only at hz ⊢
    rw [DT,if_pos (by simp; omega),AC (by omega)]
    exact hz _
  ·rw [DT,if_neg (by simp)]
  ·rintro z ⟨⟨a,b,rfl,ad,u,ab⟩,hz⟩
   exact ⟨_,hz (),a,b,rfl,ad,u,fun g f h ac=>ab g f (by unfold L0; omega) ac⟩
 obtain ⟨z,e,a,b,rfl,ad,u,ab⟩:=am
 refine ⟨GP (DZ l a) (DZ l b),?_,⟨a,b,ad,u,rfl⟩,ab⟩
 unfold EG Bj
 dsimp only
 rw [GV l (by omega),Aa,hc,if_neg (by simp),if_neg (by simp; omega),e,Aa,AX,Dq (by omega),Aa,AX,Dq u,Aa,Hp,Aa]
theorem Ya {l:List (Int × Int)} (hc:Cv l = true) (h2:2 ≤ l.length):∃ v,Ef l = some (v,true) ∧ MinSq l v:=by
 have a0:=(Dc hc).2
 have am:=fun a b (ha:a < l.length) (hb:b < l.length)=>(LT (I8 hc ha) (I8 hc hb)).2.1
 have av:∃ z:Int × Int × Int,JN l = some z ∧ MinSq l z.2.2:=by
  unfold JN
  refine Exists.elim (IY (fun (_:Unit) m (z:Int × Int × Int) i=>Fh l m z.1 z.2.1 z.2.2 i) l.length (fun i z=>(z.2.2 = -1 ∧ i = 0) ∨ ((∃ a b,a < b ∧ b < l.length ∧ z.2.2 = GP (DZ l a) (DZ l b)) ∧ ∀ g f,L0 i 0 g f → f < l.length → z.2.2 ≤ GP (DZ l g) (DZ l f)))
   (fun _ z=>some z) (by omega) (fun i z _ hi u=>?_) (fun z u j m=>?_) (b:=0) (by omega) (s:=(0,0,-1)) (.inl ⟨rfl,rfl⟩)) ?_
  ·refine Exists.elim (IY (fun (nx:Int → Int → Int → Int → Af (Int × Int × Int)) m (z:Int × Int × Int) k=>D4 l (DZ l i) (i:Int) nx m z.1 z.2.1 z.2.2 k) l.length (fun k z=>(z.2.2 = -1 ∧ i = 0 ∧ k = 1) ∨ ((∃ a b,a < b ∧ b < l.length ∧ z.2.2 = GP (DZ l a) (DZ l b)) ∧ ∀ g f,L0 i k g f → f < l.length → z.2.2 ≤ GP (DZ l g) (DZ l f)))
    (fun nx z=>nx z.1 z.2.1 z.2.2 ((i + 1:Nat):Int)) (by omega) (fun k z ay hk u=>?_) (fun z u j m=>?_) (b:=i + 1) (by omega) (s:=z) ?_) ?_
   ·have hs:=am i k hi hk
    have aj:∀ (nx:Int → Int → Int → Int → Af (Int × Int × Int)) m,D4 l (DZ l i) (i:Int) nx (m + 1) z.1 z.2.1 z.2.2 (k:Int) = if z.2.2 < 0 ∨ GP (DZ l i) (DZ l k) < z.2.2 then D4 l (DZ l i) (i:Int) nx m (i:Int) (k:Int) (GP (DZ l i) (DZ l k)) ((k + 1:Nat):Int) else D4 l (DZ l i) (i:Int) nx m z.1 z.2.1 z.2.2 ((k + 1:Nat):Int):=by
     intro nx m
     rw [D4,if_pos (by simp; omega)]
     unfold WB Bj
     dsimp only
     rw [AX,Dq hk,Aa,LD,Aa,AC (by omega)]
     by_cases h1:z.2.2 < 0
     ·rw [if_pos (decide_eq_true h1),if_pos rfl,if_pos (.inl h1)]
     ·rw [if_neg (by simpa using h1)]
      by_cases h3:GP (DZ l i) (DZ l k) < z.2.2
      ·rw [if_pos (decide_eq_true h3),if_pos (.inr h3)]
      ·rw [if_neg (by simpa using h3),if_neg (by omega)]
    by_cases an:z.2.2 < 0 ∨ GP (DZ l i) (DZ l k) < z.2.2
    ·refine ⟨((i:Int),(k:Int),GP (DZ l i) (DZ l k)),.inr ⟨⟨i,k,by omega,hk,rfl⟩,fun g f h ac=>?_⟩,fun nx m=>?_⟩
     ·dsimp only
      by_cases e:g = i ∧ f = k
      ·rw [e.1,e.2]; exact Int.le_refl _
      ·rcases u with ⟨ai,ak,ah⟩ | ⟨⟨a,b,g1,g2,g3⟩,u⟩
       ·unfold L0 at h; omega
       ·have:=u g f (by unfold L0 at h ⊢; omega) ac
        have:=am a b (by omega) g2
        omega
     ·exact (aj nx m).trans (if_pos an)
    ·refine ⟨z,.inr ⟨?_,fun g f h ac=>?_⟩,fun nx m=>(aj nx m).trans (if_neg an)⟩
     ·rcases u with ⟨ai,ak,ah⟩ | ⟨u,_⟩
      ·omega
      ·exact u
     ·rcases u with ⟨ai,ak,ah⟩ | ⟨_,u⟩
      ·omega
      ·by_cases e:g = i ∧ f = k
       ·rw [e.1,e.2]; omega
       ·exact u g f (by unfold L0 at h ⊢; omega) ac
   ·rw [D4,if_neg (by simp),AC (by omega)]
   ·rcases u with ⟨h1,h3⟩ | ⟨h1,h3⟩
    ·exact .inl ⟨h1,h3,by omega⟩
    ·exact .inr ⟨h1,fun g f h ac=>h3 g f (by unfold L0 at h ⊢; omega) ac⟩
   ·rintro z' ⟨aq,ae⟩
    refine ⟨z',?_,fun _ m=>?_⟩
    ·rcases aq with ⟨h1,h3,h4⟩ | ⟨h1,h3⟩
     ·omega
     ·exact .inr ⟨h1,fun g f h ac=>h3 g f (by unfold L0 at h ⊢; omega) ac⟩
    ·rw [Fh,if_pos (by simp; omega),AX,Dq hi,Aa,AC (by omega)]
     exact ae _
  ·rw [Fh,if_neg (by simp)]
  ·rintro z ⟨u,ae⟩
   refine ⟨z,ae (),?_⟩
   rcases u with ⟨h1,h3⟩ | ⟨h1,h3⟩
   ·omega
   ·exact ⟨h1,fun g f h ac=>h3 g f (by unfold L0; omega) ac⟩
 obtain ⟨z,e,hm⟩:=av
 refine ⟨z.2.2,?_,hm⟩
 unfold Ef Bj
 dsimp only
 rw [J7 l (by omega),Aa,hc,if_neg (by simp),if_neg (by simp; omega),e,Aa]
def Nc (l:List (Int × Int)):Int × Bool:=(Ef l).getD (0,false)
theorem SF {l:List (Int × Int)} (e:Cv l = true):EG l = some (Nc l) ∧ Ef l = some (Nc l) ∧ 0 ≤ (Nc l).1 ∧ (Nc l).1 ≤ 100000000:=by
 have ab:=Dc e
 by_cases h:2 ≤ l.length
 ·obtain ⟨v,g,m⟩:=Yl e h
  obtain ⟨w,f,s⟩:=Ya e h
  have:=m.uniq s
  subst this
  unfold Nc
  rw [g,f]
  obtain ⟨⟨a,b,h1,u,h4⟩,_⟩:=m
  have:=(LT (I8 e (by omega:a < l.length)) (I8 e u)).2
  exact ⟨rfl,rfl,by dsimp only [Option.getD]; omega,by dsimp only [Option.getD]; omega⟩
 ·have g:Ef l = some (0,false):=by
   unfold Ef Bj
   dsimp only
   rw [J7 l (by omega),Aa,e,if_neg (by simp),if_pos (by simp; omega)]
  have f:EG l = some (0,false):=by
   unfold EG Bj
   dsimp only
   rw [GV l (by omega),Aa,e,if_neg (by simp),if_pos (by simp; omega)]
  unfold Nc
  rw [g,f]
  exact ⟨rfl,rfl,by simp,by simp⟩
def M5 (q:Int) (t:Nat):Bool:=decide (1000000 * q ≤ 23040000 * ((t:Int) * (t:Int)))
theorem Yd {t:Nat} (f:t ≤ 1000):Ag ((Ag ((Ag (4800 * (t:Int))) * 4800)) * (t:Int)) = 23040000 * ((t:Int) * (t:Int)):=by
 have h1:=Mi (x:=(t:Int)) (y:=(t:Int)) (A:=1000) (B:=1000) (by omega) (by omega) (by omega) (by omega)
 rw [A8 (x:=4800 * (t:Int)) (by omega) (by omega),A8 (x:=4800 * (t:Int) * 4800) (by omega) (by omega)]
 have e:4800 * (t:Int) * 4800 * (t:Int) = 23040000 * ((t:Int) * (t:Int)):=by grind
 rw [e,A8 (by omega) (by omega)]
theorem Ws {q:Int} {t t':Nat} (h:t ≤ t') (f:M5 q t = true):M5 q t' = true:=by
 unfold M5 at *
 rw [C9] at *
 have h1:=Nat.mul_le_mul h h
 have e:=Int.ofNat_le.2 h1
 rw [Int.natCast_mul,Int.natCast_mul] at e
 omega
theorem XD {q:Int} (f:q ≤ 2089984) {t:Nat} (e:302 ≤ t):M5 q t = true:=by
 refine Ws e ?_
 unfold M5
 rw [C9]
 omega
def IsT (q:Int) (v:Nat):Prop:=M5 q v = true ∧ ∀ t,t < v → M5 q t = false
theorem IsT.uniq {q:Int} {v w:Nat} (h:IsT q v) (f:IsT q w):v = w:=by
 rcases Nat.lt_trichotomy v w with e | e | e
 ·have:=f.2 v e; rw [h.1] at this; cases this
 ·exact e
 ·have:=h.2 w e; rw [f.1] at this; cases this
theorem Zu {q:Int} (h0:0 ≤ q) (hq:q ≤ 2089984):∃ v:Nat,v ≤ 302 ∧ DG q FU 0 = some (v:Int) ∧ IsT q v:=by
 have u:∀ (d t m:Nat),302 - t = d → t ≤ 302 → d < m → (∀ t',t' < t → M5 q t' = false) → ∃ v:Nat,v ≤ 302 ∧ DG q m (t:Int) = some (v:Int) ∧ IsT q v:=by
  intro d
  induction d with
  | zero =>
   intro t m s ht hm l
   have:t = 302:=by omega
   subst this
   cases m with
   | zero=>omega
   | succ m =>
    have g:=XD hq (t:=302) (by omega)
    have f:=g
    unfold M5 at f
    rw [C9] at f
    refine ⟨302,by omega,?_,g,l⟩
    rw [DG,Yd (by omega),A8 (x:=1000000 * q) (by omega) (by omega),if_neg (by rw [C9]; omega)]
  | succ d ih =>
   intro t m s ht hm l
   cases m with
   | zero=>omega
   | succ m =>
    rw [DG,Yd (by omega),A8 (x:=1000000 * q) (by omega) (by omega)]
    cases g:M5 q t with
    | true =>
     have f:=g
     unfold M5 at f
     rw [C9] at f
     rw [if_neg (by rw [C9]; omega)]
     exact ⟨t,by omega,rfl,g,l⟩
    | false =>
     have f:=g
     unfold M5 at f
     rw [decide_eq_false_iff_not] at f
     rw [if_pos (by rw [C9]; omega),AC (by omega)]
     refine ih (t + 1) m (by omega) (by omega) (by omega) (fun t' h=>?_)
     by_cases e:t' = t
     ·rw [e]; exact g
     ·exact l t' (by omega)
 exact u 302 0 FU rfl (by omega) (D1 (by omega)) (fun t' h=>by omega)
theorem YH {q:Int} (h0:0 ≤ q) (hq:q ≤ 2089984):∃ v:Nat,Kn q = some (v:Int) ∧ IsT q v:=by
 have ae:∀ (d e f m:Nat),f - e ≤ d → e ≤ f → f ≤ 1000 → d < m → (∀ t,t < e → M5 q t = false) → M5 q f = true → ∃ v:Nat,EJ q m (e:Int) (f:Int) = some (v:Int) ∧ IsT q v:=by
  intro d
  induction d with
  | zero =>
   intro e f m hd h1 h2 hm s u
   have:e = f:=by omega
   subst this
   cases m with
   | zero=>omega
   | succ m=>exact ⟨e,by rw [EJ,if_neg (by simp)],u,s⟩
  | succ d ih =>
   intro e f m hd h1 h2 hm s u
   cases m with
   | zero=>omega
   | succ m =>
    rw [EJ]
    by_cases aj:e < f
    ·have em:Ag (Int.tdiv (Ag ((e:Int) + (f:Int))) 2) = (((e + f) / 2:Nat):Int):=by
      rw [A8 (x:=(e:Int) + f) (by omega) (by omega),Int.tdiv_eq_ediv_of_nonneg (by omega),A8 (by omega) (by omega)]
      omega
     rw [if_pos (by simp; omega),em,Yd (by omega),A8 (x:=1000000 * q) (by omega) (by omega)]
     cases l:M5 q ((e + f) / 2) with
     | true =>
      have g:=l
      unfold M5 at g
      rw [if_pos g]
      exact ih e _ m (by omega) (by omega) (by omega) (by omega) s l
     | false =>
      have g:=l
      unfold M5 at g
      rw [g,if_neg (by simp),AC (by omega)]
      refine ih ((e + f) / 2 + 1) f m (by omega) (by omega) h2 (by omega) (fun t ht=>?_) u
      cases hx:M5 q t with
      | false=>rfl
      | true=>have:=Ws (t':=(e + f) / 2) (by omega) hx; rw [l] at this; cases this
    ·have:e = f:=by omega
     subst this
     exact ⟨e,by rw [if_neg (by simp)],u,s⟩
 unfold Kn
 exact ae 1000 0 1000 FU (by omega) (by omega) (by omega) (D1 (by omega)) (fun t h=>by omega) (XD hq (by omega))
def NU (a b:Int × Int):Int × Bool:=(G6 a b).getD (0,false)
theorem U5 {a b:Int × Int} (f:CX a = true) (e:CX b = true):G6 a b = some (NU a b) ∧ H3 a b = some (NU a b) ∧ 0 ≤ (NU a b).1 ∧ (NU a b).1 ≤ 302:=by
 obtain ⟨_,g,h⟩:=LT f e
 obtain ⟨v,v1,v2,v3⟩:=Zu g h
 obtain ⟨w,l,u⟩:=YH g h
 have:=v3.uniq u
 subst this
 have s:G6 a b = some ((v:Int),true):=by
  unfold G6 Kg Bj
  dsimp only
  rw [L6,Aa,f,if_neg (by simp),L6,Aa,e,Hp,Aa,v2]
  rfl
 have m:H3 a b = some ((v:Int),true):=by
  unfold H3 Ms Lo Bj
  dsimp only
  rw [OU,Aa,f,if_pos rfl,OU,Aa,e,LD,Aa,Aa,l]
  rfl
 unfold NU
 rw [s,m]
 exact ⟨rfl,rfl,by dsimp only [Option.getD]; omega,by dsimp only [Option.getD]; omega⟩
def MS (load count:Int) (x:BL):Bool:=decide (x.2.1 = load) && (decide (x.2.2.1 ≤ count) && decide (count < x.2.2.2))
def Ni (l:List BL) (load count:Int):Int × Bool:=if (BK load 1 9 && BK count 0 999) = true then (match (List.range l.length).find? fun i=>MS load count (CN l i) with
  | some i=>((CN l i).1,true)
  | none=>(0,false)) else (0,false)
theorem U3 {l:List BL} (h:Fz l = true):∀ x ∈ l,L5 x:=by
 intro x e
 have:=Ng.1 ((Hn.1 h).2.1 x e)
 unfold L5
 omega
theorem U8 {l:List BL} {k:Nat} (h:k < l.length):l[k]? = some (CN l k):=by rw [FW h]; exact Cb h
theorem Ul {l:List BL} (h:Fz l = true) (f e:Int):IL l f e = some (Ni l f e):=by
 have u:=(Hn.1 h).1
 unfold IL Bj Ni
 dsimp only
 rw [OB (by omega) (U3 h),Aa,h,CT,Aa,CT,Aa]
 cases BK f 1 9 with
 | false=>rfl
 | true =>
  cases BK e 0 999 with
  | false=>rfl
  | true =>
   rw [if_neg (by simp),if_neg (by simp),if_neg (by simp),if_pos (c:=(true && true) = true) rfl]
   rw [Tv (Ey l f e) l.length (fun i=>MS f e (CN l i)) (fun i=>some ((CN l i).1,true)) (some (0,false)) (by omega) (fun m k s=>?_) (fun m=>?_)]
   ·cases (List.range l.length).find? fun i=>MS f e (CN l i) <;> rfl
   ·rw [Ey,if_pos (by simp; omega),AX,U8 s,Aa,AC (by omega)]
    unfold Bj MS
    dsimp only
    by_cases h1:(CN l k).2.1 = f
    ·rw [if_pos (by simpa using h1),decide_eq_true h1]
     by_cases g:(CN l k).2.2.1 ≤ e
     ·rw [if_pos (by simpa using g),decide_eq_true g]; rfl
     ·rw [if_neg (by simpa using g),decide_eq_false g]; rfl
    ·rw [if_neg (by simpa using h1),decide_eq_false h1]; rfl
   ·rw [Ey,if_neg (by simp)]
theorem YK {l:List BL} (h:Fz l = true) {g f:Int} (hl:1 ≤ g):KC l g 0 f = some (Um ((List.range l.length).find? fun i=>MS g f (CN l i))):=by
 have u:=(Hn.1 h).1
 unfold KC
 rw [Tv (GD l g 0 f) l.length (fun i=>MS g f (CN l i)) (fun i=>some (i:Int)) (some (-1)) (by omega) (fun m k s=>?_) (fun m=>?_)]
 ·cases (List.range l.length).find? fun i=>MS g f (CN l i) <;> rfl
 ·have v:=Ng.1 ((Hn.1 h).2.1 _ (Jb s))
  rw [GD,if_pos (by simp; omega),AX,U8 s,Aa,AC (by omega)]
  unfold Bj MS
  dsimp only
  rw [if_neg (by simp; omega),if_pos (c:=((0:Int) == 0) = true) rfl,A8 (by omega) (by omega),CU,Aa]
  by_cases h1:(CN l k).2.1 = g
  ·rw [if_pos (by simpa using h1),decide_eq_true h1]
   have e:BK f (CN l k).2.2.1 ((CN l k).2.2.2 - 1) = (decide ((CN l k).2.2.1 ≤ f) && decide (f < (CN l k).2.2.2)):=by
    rw [Bool.eq_iff_iff,DB]
    simp
    omega
   rw [e,Bool.true_and]
  ·rw [if_neg (by simpa using h1),decide_eq_false h1]; rfl
 ·rw [GD,if_neg (by simp)]
theorem TW {l:List BL} (h:Fz l = true) (f e:Int):IF l f e = some (Ni l f e):=by
 have v:=(Hn.1 h).1
 unfold IF Jk Lr Bj Ni
 dsimp only
 rw [Sc (by omega) (U3 h),Aa,h,CU,Aa,Aa,CU,Aa,Aa]
 cases s:BK f 1 9 with
 | false=>rfl
 | true =>
  cases BK e 0 999 with
  | false=>rfl
  | true =>
   have u:=DB.1 s
   rw [if_neg (by simp),if_neg (by simp),if_neg (by simp),if_pos (c:=(true && true) = true) rfl,YK h u.1,Aa,Aa]
   cases g:(List.range l.length).find? fun i=>MS f e (CN l i) with
   | none=>rfl
   | some i =>
    have m:i < l.length:=List.mem_range.1 (List.mem_of_find?_eq_some g)
    unfold Um
    dsimp only
    rw [if_neg (by simp),AX,U8 m,Aa]
theorem Abh {l:List BL} (h:Fz l = true) (f e:Int):0 ≤ (Ni l f e).1 ∧ (Ni l f e).1 ≤ 12:=by
 unfold Ni
 split
 ·cases g:(List.range l.length).find? fun i=>MS f e (CN l i) with
  | none=>exact ⟨Int.le_refl _,by show (0:Int) ≤ 12; omega⟩
  | some i =>
   have m:i < l.length:=List.mem_range.1 (List.mem_of_find?_eq_some g)
   have s:=Ng.1 ((Hn.1 h).2.1 _ (Jb m))
   dsimp only
   omega
 ·exact ⟨by decide,by decide⟩
theorem VU {l:List IC} (h:Hu l = true) {i:Nat} (g:i < l.length):∃ x:IC,l[i]? = some x ∧ (x.1 = -1 ∨ (0 ≤ x.1 ∧ x.1.toNat < i)) ∧ (0 ≤ x.2.1 ∧ x.2.1 ≤ 7) ∧ 0 ≤ x.2.2 ∧ x.2.2 ≤ 999:=by
 unfold Hu at h
 rw [Ck,List.all_eq_true] at h
 obtain ⟨x,m⟩:∃ x,l[i]? = some x:=⟨_,Cb g⟩
 have f:=h.2 i (List.mem_range.2 g)
 unfold OQ at f
 rw [m] at f
 unfold Ta at f
 dsimp only at f
 rw [Ck,Ck,DB,DB] at f
 refine ⟨x,m,?_,f.2.1,f.2.2⟩
 by_cases e:i = 0
 ·rw [if_pos e,C9] at f
  exact .inl f.1
 ·rw [if_neg e,DB] at f
  exact .inr (by omega)
theorem NR {l:List IC} (h:Hu l = true):1 ≤ l.length ∧ l.length ≤ 60:=by
 unfold Hu at h
 rw [Ck,DB] at h
 omega
theorem Acg {l:List IC} (h:Hu l = true):∀ (d i:Nat),i ≤ d → i < l.length → ∃ u:List Int,(∀ x ∈ u,0 ≤ x ∧ x.toNat < l.length) ∧ u.length ≤ i + 1 ∧
  ∀ (m:Nat) (s e:List Int),i + 1 < m → s.length ≤ 1000 - u.length → e.length ≤ 1000 - u.length → E7 l m (i:Int) s = some ((s ++ u).reverse) ∧ E6 l m (i:Int) e = some (u.reverse ++ e):=by
 have ao:=NR h
 have ac:∀ i (x:IC),l[i]? = some x → x.1 = -1 → i < l.length → ∃ u:List Int,(∀ x ∈ u,0 ≤ x ∧ x.toNat < l.length) ∧ u.length ≤ i + 1 ∧
  ∀ (m:Nat) (s e:List Int),i + 1 < m → s.length ≤ 1000 - u.length → e.length ≤ 1000 - u.length → E7 l m (i:Int) s = some ((s ++ u).reverse) ∧ E6 l m (i:Int) e = some (u.reverse ++ e):=by
  intro i x f aa v
  refine ⟨[(i:Int)],fun x f=>?_,by simp,fun m s e hm hs ae=>?_⟩
  ·rw [List.mem_singleton] at f; omega
  obtain ⟨m,rfl⟩:∃ m',m = m' + 2:=⟨m - 2,by omega⟩
  rw [E7,E6,if_pos (by simp),Bm (by simp; omega),Aa,if_pos (by simp),Bm (by simp; omega),Aa,AX,f,Aa,Aa,aa,E7,E6,if_neg (by decide),if_neg (by decide),ZW _ (by simp; omega)]
  exact ⟨rfl,rfl⟩
 intro d
 induction d with
 | zero =>
  intro i ag v
  have:i = 0:=by omega
  subst this
  obtain ⟨x,f,g,_⟩:=VU h v
  have aa:x.1 = -1:=by rcases g with g | g; exact g; omega
  exact ac 0 x f aa v
 | succ d ih =>
  intro i ag v
  obtain ⟨x,f,g,_⟩:=VU h v
  rcases g with aa | g
  ·exact ac i x f aa v
  ·obtain ⟨u,g1,g2,g3⟩:=ih x.1.toNat (by omega) (by omega)
   refine ⟨(i:Int) :: u,?_,by simp; omega,fun m s e hm hs ae=>?_⟩
   ·intro y hy
    rcases List.mem_cons.1 hy with rfl | hy
    ·omega
    ·exact g1 y hy
   ·obtain ⟨m,rfl⟩:∃ m',m = m' + 1:=⟨m - 1,by omega⟩
    rw [List.length_cons] at hs ae
    obtain ⟨e1,e2⟩:=g3 m (s ++ [(i:Int)]) ((i:Int) :: e) (by omega) (by simp; omega) (by simp; omega)
    have ex:x.1 = ((x.1.toNat:Nat):Int):=by omega
    rw [E7,E6,if_pos (by simp),Bm (by simp; omega),Aa,if_pos (by simp),Bm (by simp; omega),Aa,AX,f,Aa,Aa,ex,e1,List.singleton_append,e2]
    constructor
    ·rw [List.append_assoc]; rfl
    ·rw [List.reverse_cons,List.append_assoc]; rfl
theorem XY (u:List Int) (l:List IC):∀ (m:Nat) (s:List Int) (k:Int),EX u l m s k = Dl u l m s k:=by
 intro m
 induction m with
 | zero=>intros; rfl
 | succ m e =>
  intro s k
  rw [EX,Dl]
  simp only [e]
def Ww (s:List Int):Prop:=s.length = 8 ∧ ∀ x ∈ s,-1 ≤ x ∧ x ≤ 999
theorem YC {l:List IC} (h:Hu l = true) {u:List Int} (hu:∀ x ∈ u,0 ≤ x ∧ x.toNat < l.length) (hl:u.length ≤ 1000):∃ s,Ww s ∧ Dl u l FU (List.replicate 8 (-1)) 0 = some s:=by
 have ak:=NR h
 refine Exists.elim (IY (fun (_:Unit) m (z:List Int) k=>Dl u l m z k) u.length (fun _ z=>Ww z) (fun _ z=>some z) (by omega) (fun k z _ v e=>?_) (fun z e j m=>?_) (b:=0) (by omega) (s:=List.replicate 8 (-1)) ⟨by simp,fun x g=>by have:=List.eq_of_mem_replicate g; omega⟩) ?_
 ·obtain ⟨ah,ac⟩:=e
  obtain ⟨g1,g2⟩:=hu _ (List.getElem_mem v)
  obtain ⟨x,g,_,h7,h9⟩:=VU h g2
  have ai:x.2.1.toNat < z.length:=by omega
  refine ⟨BE z x.2.1 x.2.2,⟨by unfold BE; simpa using ah,fun y f=>?_⟩,fun _ m=>?_⟩
  ·unfold BE at f
   rcases List.mem_or_eq_of_mem_set f with f | rfl
   ·exact ac y f
   ·omega
  ·rw [Dl,if_pos (by simp; omega),AX,Cb v,Aa,Iy g1,g,Aa,Aa,Iy h7.1,Cb ai,Aa,AC (by omega)]
 ·rw [Dl,if_neg (by simp)]
 ·rintro z ⟨e,hr⟩
  exact ⟨z,e,hr ()⟩
theorem S5 {l:List IC} (h:Hu l = true) (i:Int):HL l [i] = some (BK i 0 ((l.length:Int) - 1)):=by
 have g:=NR h
 unfold HL
 rw [N5 (DS [i] l) [i] (fun x=>BK x 0 ((l.length:Int) - 1)) (some true) (some false) (by simp) (fun m k x e f=>?_) (fun m=>?_)]
 ·rw [List.all_cons,List.all_nil,Bool.and_true]
  cases BK i 0 ((l.length:Int) - 1) <;> rfl
 ·rw [DS,if_pos (by simp at e ⊢; omega),AX,f,Aa,CT,A8 (by omega) (by omega),Aa,AC (by simp at e; omega)]
  cases BK x 0 ((l.length:Int) - 1) <;> rfl
 ·rw [DS,if_neg (by simp),LK (by omega),Aa,h]
theorem Wq (k:Nat):List.replicate k (-1:Int) ++ [-1] = List.replicate (k + 1) (-1):=by rw [List.replicate_succ']
theorem WU {l:List IC} (h:Hu l = true) (i:Int):∃ r:List Int × Bool,JW l i = some r ∧ JR l i = some r ∧ (r.2 = true → Ww r.1):=by
 have aj:=NR h
 unfold JW JR Mr Bj
 dsimp only
 rw [S5 h,Aa,OT (by omega),Aa,h,if_pos rfl,CU,A8 (by omega) (by omega),Aa,Aa]
 cases hi:BK i 0 ((l.length:Int) - 1) with
 | false=>exact ⟨([],false),rfl,rfl,fun h=>by cases h⟩
 | true =>
  have ah:=DB.1 hi
  obtain ⟨u,g1,g2,g3⟩:=Acg h i.toNat i.toNat (Nat.le_refl _) (by omega)
  obtain ⟨f,e⟩:=g3 FU [] [] (D1 (by omega)) (by simp) (by simp)
  rw [show ((i.toNat:Nat):Int) = i by omega] at f e
  rw [List.nil_append] at f
  rw [List.append_nil] at e
  obtain ⟨s,hs,v⟩:=YC h (u:=u.reverse) (fun x hx=>g1 x (List.mem_reverse.1 hx)) (by rw [List.length_reverse]; omega)
  have r1:JS l i = some s:=by
   unfold JS
   refine Eq.trans (EI (fun m (z:List Int) k=>Fm l i m z k) 8 (fun k=>List.replicate k (-1)) (Option.bind (Lf l i) fun g=>Dl g l FU (List.replicate 8 (-1)) 0) (by omega) (j:=0) (by omega) (fun m k _ hk=>?_) (fun m=>?_)) ?_
   ·rw [Fm,if_pos (by simp; omega),Bm (by simp; omega),Aa,AC (by omega),Wq]
   ·rw [Fm,if_neg (by decide)]
   ·unfold Lf
    rw [f,Aa,v]
  have r2:JI l i = some s:=by
   unfold JI
   refine Eq.trans (EI (fun m (z:List Int) (_:Int)=>EY l i m z) 8 (fun k=>List.replicate k (-1)) (Option.bind (Lb l i) fun g=>EX g l FU (List.replicate 8 (-1)) 0) (by omega) (j:=0) (by omega) (fun m k _ hk=>?_) (fun m=>?_)) ?_
   ·rw [EY,if_pos (by simp; omega),Bm (by simp; omega),Aa,Wq]
   ·rw [EY,if_neg (by decide)]
   ·unfold Lb
    rw [e,Aa,XY,v]
  refine ⟨(s,true),?_,?_,fun _=>hs⟩
  ·rw [if_neg (by simp),r1,Aa]
  ·rw [if_neg (by simp),r2,Aa]
theorem Zs (e:List (List Aj)) (w f:List Aj):Lib.join (e ++ [w]) f = if e = [] then w else Lib.join e f ++ f ++ w:=by
 cases e with
 | nil=>rw [List.nil_append,if_pos rfl,Lib.join_one]
 | cons x r =>
  rw [List.cons_append,Lib.join_cons,Lib.join_cons,if_neg (by simp)]
  unfold Lib.joinTail
  rw [List.map_append,List.flatten_append]
  simp [List.append_assoc]
def M3 (n:Int):List Aj:=if n < 0 then [45] else Lib.decDigits n.toNat
theorem Rz {n:Int} (h:n ≤ 999):(M3 n).length ≤ 3:=by
 unfold M3
 split
 ·simp
 ·exact Hy (k:=2) (by omega)
def Gw (ws:List (List Aj)):List Aj:=Lib.join ws [32]
theorem Yj (e:List (List Aj)) (w:List Aj):Gw (e ++ [w]) = (if e = [] then [] else Gw e ++ [32]) ++ w:=by
 unfold Gw
 rw [Zs]
 split
 ·rfl
 ·rfl
theorem PZ (f:List (List Aj)) {k:Nat} (h:k < f.length):Gw (f.take (k + 1)) = (if k = 0 then [] else Gw (f.take k) ++ [32]) ++ f[k]:=by
 rw [List.take_succ_eq_append_getElem h,Yj]
 by_cases e:k = 0
 ·subst e; simp
 ·have l:f.take k ≠ []:=fun g=>by have:=congrArg List.length g; rw [List.length_take,List.length_nil] at this; omega
  rw [if_neg l,if_neg e]
theorem N6 {B:Nat} (e:List (List Aj)) (h:∀ w ∈ e,w.length ≤ B):∀ k,k ≤ e.length → (Gw (e.take k)).length ≤ (B + 1) * k
 | 0,_=>by simp [Gw,Lib.join_nil]
 | k + 1,hk=>by
  have h1:=N6 e h k (by omega)
  have f:=h e[k] (List.getElem_mem _)
  rw [PZ e (by omega),CH,Nat.mul_succ]
  split
  ·simp; omega
  ·rw [CH,List.length_singleton]; omega
theorem QW {B:Nat} (e:List (List Aj)) (h:∀ w ∈ e,w.length ≤ B):(Gw e).length ≤ (B + 1) * e.length:=by
 have:=N6 e h e.length (Nat.le_refl _)
 rwa [List.take_length] at this
theorem W8 {e:List (List Aj)} {B:Nat} (h:∀ w ∈ e,w.length ≤ B) (l:B ≤ 1000) (f:e.length ≤ 1000):I0 e [32] = some (Gw e):=by
 have h1:=QW e h
 have g:(B + 1) * e.length ≤ 1001 * 1000:=Nat.mul_le_mul (by omega) f
 unfold Gw at h1
 unfold I0 Gw
 rw [if_pos (by omega)]

theorem VQ {n:Int} (h:¬ n < 0) (e:n ≤ 999):CY n = some (M3 n) ∧ Dd n = some (M3 n):=by
 unfold M3
 rw [if_neg h]
 exact ⟨LI (by omega) (by omega),Kc (by omega) (by omega)⟩
theorem X2 {s:List Int} (h:Ww s):JL s = some (Gw (s.map M3)):=by
 obtain ⟨h8,u⟩:=h
 have g:∀ w ∈ s.map M3,w.length ≤ 3:=by
  intro w g
  obtain ⟨n,f,rfl⟩:=List.mem_map.1 g
  exact Rz (u n f).2
 unfold JL
 refine Eq.trans (EI (D3 s) s.length (fun k=>Gw ((s.map M3).take k)) (some (Gw (s.map M3))) (by omega) (j:=0) (by omega) (fun m k _ hk=>?_) (fun m=>?_)) rfl
 ·have hl:=N6 _ g k (by simp; omega)
  have f:=u _ (List.getElem_mem hk)
  have h3:=Rz f.2
  rw [D3,if_pos (by simp; omega)]
  unfold Bj
  dsimp only
  rw [AX,Cb hk,Aa,AC (by omega),PZ _ (by simp; omega),List.getElem_map]
  have l:∀ y:List Aj,y.length ≤ 100 → (if decide (s[k] < 0) = true then Option.bind (Cg y [45]) fun ad=>D3 s m ad ((k + 1:Nat):Int) else Option.bind (Dd s[k]) fun ac=>Option.bind (Cg y ac) fun ab=>D3 s m ab ((k + 1:Nat):Int)) = D3 s m (y ++ M3 s[k]) ((k + 1:Nat):Int):=by
   intro y hy
   by_cases e:s[k] < 0
   ·rw [if_pos (decide_eq_true e),Bm (by simp; omega),Aa]
    unfold M3
    rw [if_pos e]
   ·rw [if_neg (by simpa using e),(VQ e f.2).2,Aa,Bm (by omega),Aa]
  by_cases v:k = 0
  ·subst v
   rw [if_neg (by simp),l _ (by omega),if_pos rfl]
   simp [Gw,Lib.join_nil]
  ·rw [if_pos (by simp; omega),Bm (by simp; omega),Aa,l _ (by simp; omega),if_neg v]
 ·rw [D3,if_neg (by simp),List.take_of_length_le (by simp)]
theorem Vv {s:List Int} (h:Ww s):Cw (s,true) FU [] 0 = some (Gw (s.map M3)):=by
 obtain ⟨v,u⟩:=h
 have f:∀ w ∈ s.map M3,w.length ≤ 3:=by
  intro w f
  obtain ⟨n,g,rfl⟩:=List.mem_map.1 f
  exact Rz (u n g).2
 refine Eq.trans (EI (Cw (s,true)) s.length (fun k=>(s.map M3).take k) (some (Gw (s.map M3))) (by omega) (j:=0) (by omega) (fun m k _ l=>?_) (fun m=>?_)) rfl
 ·have g:=u _ (List.getElem_mem l)
  rw [Cw,if_pos (by simp; omega)]
  unfold Bj
  dsimp only
  rw [AX,Cb l,Aa,AC (by omega),List.take_succ_eq_append_getElem (by simp; omega),List.getElem_map]
  by_cases e:s[k] < 0
  ·rw [if_pos (decide_eq_true e),Bm (by simp; omega),Aa]
   unfold M3
   rw [if_pos e]
  ·rw [if_neg (by simpa using e),(VQ e g.2).1,Aa,Bm (by simp; omega),Aa]
 ·rw [Cw,if_neg (by simp),List.take_of_length_le (by simp),W8 f (by omega) (by simp; omega),Aa]
def O1 (q:List Int):List Aj:=Lib.decDigits (IU q 0).toNat ++ [45] ++ Lib.decDigits (IU q 1).toNat
def Oe (q:List Int):Prop:=∃ i k:Nat,q = [(i:Int),(k:Int)] ∧ i < 100 ∧ k < 100
theorem Po {q:List Int} (h:Oe q):1 ≤ (O1 q).length ∧ (O1 q).length ≤ 5:=by
 obtain ⟨i,k,rfl,f,g⟩:=h
 unfold O1 IU
 have h1:=Hy (k:=1) (u:=i) (by omega)
 have e:=Hy (k:=1) (u:=k) (by omega)
 simp
 omega
theorem Zh {q:List Int} (h:Oe q) {R:Type} (f:List Aj → Af R):(Option.bind (AL q 0) fun g=>Option.bind (AL q 1) fun m=>Option.bind (CY g) fun l=>Option.bind (Cg l [45]) fun e=>Option.bind (CY m) fun s=>Option.bind (Cg e s) f) = f (O1 q):=by
 obtain ⟨i,k,rfl,v,hk⟩:=h
 have h1:=Hy (k:=1) (u:=i) (by omega)
 have h2:=Hy (k:=1) (u:=k) (by omega)
 show (Option.bind (some (i:Int)) fun g=>Option.bind (some (k:Int)) fun m=>Option.bind (CY g) fun l=>Option.bind (Cg l [45]) fun e=>Option.bind (CY m) fun s=>Option.bind (Cg e s) f) = _
 rw [Aa,Aa,LI (by omega) (by omega),Aa,Bm (by simp; omega),Aa,LI (by omega) (by omega),Aa,Bm (by simp; omega),Aa]
 rfl
theorem Zg {q:List Int} (h:Oe q) {R:Type} (f:List Aj → Af R):(Option.bind (AL q 0) fun g=>Option.bind (AL q 1) fun m=>Option.bind (Dd g) fun l=>Option.bind (Cg l [45]) fun e=>Option.bind (Dd m) fun s=>Option.bind (Cg e s) f) = f (O1 q):=by
 obtain ⟨i,k,rfl,v,hk⟩:=h
 have h1:=Hy (k:=1) (u:=i) (by omega)
 have h2:=Hy (k:=1) (u:=k) (by omega)
 show (Option.bind (some (i:Int)) fun g=>Option.bind (some (k:Int)) fun m=>Option.bind (Dd g) fun l=>Option.bind (Cg l [45]) fun e=>Option.bind (Dd m) fun s=>Option.bind (Cg e s) f) = _
 rw [Aa,Aa,Kc (by omega) (by omega),Aa,Bm (by simp; omega),Aa,Kc (by omega) (by omega),Aa,Bm (by simp; omega),Aa]
 rfl
def Ol (P:List (List Int)):List Aj:=if P = [] then [110,111,110,101] else Gw (P.map O1)
theorem Yv {P:List (List Int)} (h:∀ q ∈ P,Oe q) (l:P.length ≤ 1000) (b:Bool):CD (P,b) FU [] 0 = some (Gw (P.map O1)):=by
 have e:∀ w ∈ P.map O1,w.length ≤ 5:=by
  intro w e
  obtain ⟨q,g,rfl⟩:=List.mem_map.1 e
  exact (Po (h q g)).2
 refine Eq.trans (EI (CD (P,b)) P.length (fun k=>(P.map O1).take k) (some (Gw (P.map O1))) (by omega) (j:=0) (by omega) (fun m k _ f=>?_) (fun m=>?_)) rfl
 ·rw [CD,if_pos (by simp; omega)]
  unfold Bj
  dsimp only
  rw [AX,Cb f,Aa,Zh (h _ (List.getElem_mem f)),AC (by omega),List.take_succ_eq_append_getElem (by simp; omega),List.getElem_map,Bm (by simp; omega),Aa]
 ·rw [CD,if_neg (by simp),List.take_of_length_le (by simp),W8 e (by omega) (by simp; omega),Aa]
theorem Yu {P:List (List Int)} (h:∀ q ∈ P,Oe q) (hl:P.length ≤ 1000) (b:Bool):CR (P,b) FU [] 0 = some (Ol P):=by
 have f:∀ w ∈ P.map O1,w.length ≤ 5:=by
  intro w f
  obtain ⟨q,u,rfl⟩:=List.mem_map.1 f
  exact (Po (h q u)).2
 refine Eq.trans (EI (CR (P,b)) P.length (fun k=>Gw ((P.map O1).take k)) (some (Ol P)) (by omega) (j:=0) (by omega) (fun m k _ g=>?_) (fun m=>?_)) rfl
 ·have ab:=N6 _ f k (by simp; omega)
  have s:=Po (h _ (List.getElem_mem g))
  rw [CR,if_pos (by simp; omega)]
  unfold Bj
  dsimp only
  rw [AX,Cb g,Aa,PZ _ (by simp; omega),List.getElem_map]
  simp only [Zg (h _ (List.getElem_mem g))]
  by_cases l:k = 0
  ·subst l
   rw [if_neg (by simp),Bm (by omega),Aa,if_pos rfl,AC (by omega)]
   simp [Gw,Lib.join_nil]
  ·rw [if_pos (by simp; omega),Bm (by simp; omega),Aa,Bm (by simp; omega),Aa,if_neg l,AC (by omega)]
 ·rw [CR,if_neg (by simp),List.take_of_length_le (by simp)]
  unfold Ol
  cases P with
  | nil=>rfl
  | cons q P =>
   have v:(Gw ((q :: P).map O1)) ≠ []:=by
    have s:=Po (h q (List.mem_cons_self ..))
    unfold Gw
    rw [List.map_cons,Lib.join_cons]
    intro e
    have:=congrArg List.length e
    rw [CH,List.length_nil] at this
    omega
   rw [if_neg (by simpa using v),if_neg (by simp)]
theorem RW {n:Int} (h:0 ≤ n ∧ n ≤ 1280):Jd n = some (MV n):=by
 have h1:=Hy (k:=2) (u:=n.toNat / 8) (by omega)
 have f:=Hy (k:=0) (u:=n.toNat % 8) (by omega)
 unfold Jd MV
 rw [Int.tdiv_eq_ediv_of_nonneg h.1,Int.tmod_eq_emod_of_nonneg h.1,A8 (by omega) (by omega),Kc (by omega) (by omega),Aa,Aa,show (n / 8).toNat = n.toNat / 8 by omega]
 by_cases e:0 < n.toNat % 8
 ·rw [if_neg (by simp; omega),Kc (by omega) (by omega),show (n % 8).toNat = n.toNat % 8 by omega,O9 (by simp; omega),Aa,Aa,O9 (by simp; omega),Aa,if_pos e,List.append_assoc]
  rfl
 ·rw [if_pos (by simp; omega),if_neg e,List.append_nil]
theorem Xo {s:Int × Int} (h:CX s = true):Km s = some (PL s):=by
 have f:=FP.1 h
 have g:=LR (n:=s.1) (by omega)
 have e:=LR (n:=s.2) (by omega)
 unfold Km
 rw [RW (by omega),Aa,O9 (by simp; omega),Aa,RW (by omega),Aa,O9 (by simp; omega),Aa]
 unfold PL
 rw [List.append_assoc]
 rfl
def Pa (r:Int × Bool):List Aj:=if r.2 = true then Lib.decDigits r.1.toNat else [110,111]
theorem Om {r:Int × Bool} (h:0 ≤ r.1) (e:r.1 ≤ 9223372036854775807):Fw r.1 r.2 = some (Pa r) ∧ Fv r.1 r.2 = some (Pa r):=by
 unfold Fw Fv Mt Pa
 rw [LI h e,Aa,if_neg (c:=decide (r.1 < 0) = true) (by simp; omega),Kc h e,Aa,Aa]
 cases r.2 <;> exact ⟨rfl,rfl⟩
def N1 (x:GA) (c:Int):Int × Bool:=if BK c 0 (Ss x) = true then (R1 x c,true) else (0,false)
theorem Xz {x:GA} (h:Gi x = true) (c:Int):Kx x c = some (N1 x c):=by
 have e:=(Na h).2.1
 unfold Kx Bj N1
 dsimp only
 rw [QZ x (by omega),Aa,h,Vz x (by omega),Aa,CT,Aa,Xx x h]
 cases BK c 0 (Ss x) <;> rfl
theorem Xu {x:GA} (h:Gi x = true) (c:Int):Kv x c = some (N1 x c):=by
 have e:=(Na h).2.1
 unfold Kv LG Bj N1
 dsimp only
 rw [Sa x (by omega),Aa,h,Vx x (by omega),Aa,CU,Aa,OV x h]
 cases BK c 0 (Ss x) <;> rfl
theorem ZH {x:GA} (h:Gi x = true) {c:Int} (h1:c ≤ 99999):0 ≤ (N1 x c).1 ∧ (N1 x c).1 ≤ 720000:=by
 unfold N1
 split
 ·rename_i e
  have f:=DB.1 e
  exact Abi h f.1 (by omega)
 ·simp
abbrev FX:=Ae4 × Ae4 × Int × Ae4 × (List BL) × (List IC)
abbrev SpT:=Ae4 × Ae4 × Int × Ae4 × (List BL) × (List IC) × (List Int) × (List Int) × Int
abbrev CtT:=(List Int) × (List Int) × Int
def E9 (s:FX) (c:CtT):SpT:=(s.1,s.2.1,s.2.2.1,s.2.2.2.1,s.2.2.2.2.1,s.2.2.2.2.2,c.1,c.2.1,c.2.2)
structure Kl (s:FX):Prop where
 ch:Cv s.1 = true
 ke:Cv s.2.1 = true
 mu:Gi s.2.2.2.1 = true
 ca:Fz s.2.2.2.2.1 = true
 ve:Hu s.2.2.2.2.2 = true
def Qp (b:Bool):List Aj:=if b = true then [111,107] else [110,111]
theorem Y6 (b:Bool):I4 b = some (Qp b):=by unfold I4 Qp; cases b <;> rfl
theorem Aby (b:Bool):Jh b = some (Qp b):=by unfold Jh Qp; cases b <;> rfl
def TG (s:FX) (w:List Aj) (n:List Int) (F:FX → List Aj → List Int → Af (List Aj × FX)):Prop :=
 ∃ ok s',Kl s' ∧ (ok = false → s' = s) ∧ s'.2.2.2.2.1.length ≤ s.2.2.2.2.1.length + 1 ∧ F s w n = some (Qp ok,s') ∧ ∀ c,C0 (E9 s c) w n = some (ok,E9 s' c)
theorem XJ {n:List Int} (h:n.length = 1):∃ a,n = [a]:=by
 match n,h with
 | [a],_=>exact ⟨a,rfl⟩
theorem nl2 {n:List Int} (h:n.length = 2):∃ a b,n = [a,b]:=by
 match n,h with
 | [a,b],_=>exact ⟨a,b,rfl⟩
theorem nl3 {n:List Int} (h:n.length = 3):∃ a b c,n = [a,b,c]:=by
 match n,h with
 | [a,b,c],_=>exact ⟨a,b,c,rfl⟩
theorem nl4 {n:List Int} (h:n.length = 4):∃ a b c d,n = [a,b,c,d]:=by
 match n,h with
 | [a,b,c,d],_=>exact ⟨a,b,c,d,rfl⟩
theorem Is {α:Type} (a:α) (l:List α):AL (a :: l) 0 = some a:=rfl
theorem Nf {α:Type} (a b:α) (l:List α):AL (a :: b :: l) 1 = some b:=rfl
theorem XN {α:Type} (a b c:α) (l:List α):AL (a :: b :: c :: l) 2 = some c:=rfl
theorem ix3 {α:Type} (a b c d:α) (l:List α):AL (a :: b :: c :: d :: l) 3 = some d:=rfl
def Ry (s:FX) (c:List (Int × Int)):FX:=(c,s.2.1,s.2.2.1,s.2.2.2.1,s.2.2.2.2.1,s.2.2.2.2.2)
theorem MA (s:FX) (c:List (Int × Int)) (b:Bool):Dj s c b = some (Qp b,if b = true then Ry s c else s) ∧ ∀ k,EK (E9 s k) c b = some (b,E9 (if b = true then Ry s c else s) k):=by
 unfold Dj EK Bj
 dsimp only
 simp only [Y6,Aa]
 cases b
 ·exact ⟨rfl,fun _=>rfl⟩
 ·exact ⟨rfl,fun _=>rfl⟩
theorem ZA {l:List (Int × Int)} (h:(P4 l).2 = true):Cv (P4 l).1 = true:=by
 unfold P4 at h ⊢
 split
 ·assumption
 ·rename_i e; rw [if_neg e] at h; cases h
theorem Zb {l:List (Int × Int)} {p:Int} {a:Int × Int} (h:(L4 l p a).2 = true):Cv (L4 l p a).1 = true:=by
 unfold L4 at h ⊢
 split
 ·rename_i e; rw [if_pos e] at h; exact ZA h
 ·rename_i e; rw [if_neg e] at h; cases h
theorem Abb {s:FX} (h:Kl s) {r:List (Int × Int) × Bool} (f:r.2 = true → Cv r.1 = true):Kl (if r.2 = true then Ry s r.1 else s):=by
 split
 ·rename_i e; exact ⟨f e,h.ke,h.mu,h.ca,h.ve⟩
 ·exact h
theorem Abz {s:FX} (h:Kl s) {n:List Int} (f:n.length = 2):TG s SX n BH:=by
 obtain ⟨a,b,rfl⟩:=nl2 f
 have g:=Dc h.ch
 refine ⟨(P4 (s.1 ++ [(a,b)])).2,if (P4 (s.1 ++ [(a,b)])).2 = true then Ry s (P4 (s.1 ++ [(a,b)])).1 else s,Abb h ZA,(fun e=>by rw [e]; rfl),?_,?_,fun c=>?_⟩
 ·split <;> exact Nat.le_succ _
 ·unfold BH SX FT
  dsimp only
  rw [if_pos (by rfl),Is,Aa,Nf,Aa,Bm (by simp; omega),Aa,List.nil_append,Bm (by simp; omega),Aa,Si _ (by simp; omega),Aa,(MA _ _ _).1,Aa]
 ·unfold C0 SX FT
  dsimp only
  rw [if_pos (by rfl),Is,Aa,Nf,Aa,show (E9 s c).1 = s.1 by rfl,N2 _ (by omega),Aa,Bm (by simp; omega),Aa,Va _ (by simp; omega),Aa,(MA _ _ _).2,Aa]
theorem Aat {s:FX} (h:Kl s) {n:List Int} (f:n.length = 3):TG s QE n BH:=by
 obtain ⟨p,a,b,rfl⟩:=nl3 f
 refine ⟨(L4 s.1 p (a,b)).2,if (L4 s.1 p (a,b)).2 = true then Ry s (L4 s.1 p (a,b)).1 else s,Abb h Zb,(fun e=>by rw [e]; rfl),?_,?_,fun c=>?_⟩
 ·split <;> exact Nat.le_succ _
 ·unfold BH QE FT
  dsimp only
  rw [if_neg (by decide),if_pos (by rfl),Is,Aa,Nf,Aa,XN,Aa,Q4 h.ch,Aa,(MA _ _ _).1,Aa]
 ·unfold C0 QE FT
  dsimp only
  rw [if_neg (by decide),if_pos (by rfl),Is,Aa,Nf,Aa,XN,Aa,show (E9 s c).1 = s.1 by rfl,Q3 h.ch,Aa,(MA _ _ _).2,Aa]
theorem Z5 {s:FX} (h:Kl s) {n:List Int}:TG s Pp n BH:=by
 refine ⟨true,Ry s (s.1.map Nk),⟨Ac0 h.ch,h.ke,h.mu,h.ca,h.ve⟩,(fun e=>by cases e),Nat.le_succ _,?_,fun c=>?_⟩
 ·unfold BH Pp FT
  dsimp only
  rw [if_neg (by decide),if_neg (by decide),if_pos (by rfl),S6 h.ch,Aa,(MA _ _ _).1,Aa]
  rfl
 ·unfold C0 Pp FT
  dsimp only
  rw [if_neg (by decide),if_neg (by decide),if_pos (by rfl),show (E9 s c).1 = s.1 by rfl,Sw h.ch,Aa,(MA _ _ _).2,Aa]
  rfl
theorem Ab0 {s:FX} (h:Kl s) {n:List Int}:TG s SZ n BH:=by
 have f:=Dc h.ch
 refine ⟨true,(s.1,s.1,s.2.2.1,s.2.2.2.1,s.2.2.2.2.1,s.2.2.2.2.2),⟨h.ch,h.ch,h.mu,h.ca,h.ve⟩,(fun e=>by cases e),Nat.le_succ _,?_,fun c=>?_⟩
 ·unfold BH SZ
  rw [if_neg (by decide),if_neg (by decide),if_neg (by decide),if_pos (by rfl),Bm (by simp; omega),Aa]
  rfl
 ·unfold C0 SZ FT
  dsimp only
  rw [if_neg (by decide),if_neg (by decide),if_neg (by decide),if_pos (by rfl),show (E9 s c).1 = s.1 by rfl,N2 _ (by omega),Aa]
  rfl
theorem Z6 {s:FX} (h:Kl s) {n:List Int} (f:n.length = 1):TG s Pq n BH:=by
 obtain ⟨a,rfl⟩:=XJ f
 refine ⟨BK a 1 64,if BK a 1 64 = true then (s.1,s.2.1,a,s.2.2.2.1,s.2.2.2.2.1,s.2.2.2.2.2) else s,?_,(fun e=>by rw [e]; rfl),?_,?_,fun c=>?_⟩
 ·split
  ·exact ⟨h.ch,h.ke,h.mu,h.ca,h.ve⟩
  ·exact h
 ·split <;> exact Nat.le_succ _
 ·unfold BH Pq
  rw [if_neg (by decide),if_neg (by decide),if_neg (by decide),if_neg (by decide),Is,Aa,CT,Aa,Aa]
  cases BK a 1 64 <;> rfl
 ·unfold C0 Pq FT
  dsimp only
  rw [if_neg (by decide),if_neg (by decide),if_neg (by decide),if_neg (by decide),if_pos (by rfl),Is,Aa,CU,Aa,Aa]
  cases BK a 1 64 <;> rfl
theorem Yy {s:FX} (h:Kl s) {n:List Int} (f:n.length = 2):TG s NQ n CG:=by
 obtain ⟨a,b,rfl⟩:=nl2 f
 have g:=(Na h.mu).2.1
 refine ⟨Gi (s.2.2.2.1 ++ [(a,b)]),if Gi (s.2.2.2.1 ++ [(a,b)]) = true then (s.1,s.2.1,s.2.2.1,s.2.2.2.1 ++ [(a,b)],s.2.2.2.2.1,s.2.2.2.2.2) else s,?_,(fun e=>by rw [e]; rfl),?_,?_,fun c=>?_⟩
 ·split
  ·rename_i e; exact ⟨h.ch,h.ke,e,h.ca,h.ve⟩
  ·exact h
 ·split <;> exact Nat.le_succ _
 ·unfold CG NQ FT
  dsimp only
  rw [if_pos (by rfl),Is,Aa,Nf,Aa,Bm (by simp; omega),Aa,List.nil_append,Bm (by simp; omega),Aa,QZ _ (by simp; omega),Aa]
  cases Gi (s.2.2.2.1 ++ [(a,b)]) <;> rfl
 ·unfold C0 NQ FT
  dsimp only
  rw [if_neg (by decide),if_neg (by decide),if_neg (by decide),if_neg (by decide),if_neg (by decide),if_pos (by rfl),Is,Aa,Nf,Aa,show (E9 s c).2.2.2.1 = s.2.2.2.1 by rfl,Bm (by simp; omega),Aa,List.nil_append,Bm (by simp; omega),Aa,Sa _ (by simp; omega),Aa]
  cases Gi (s.2.2.2.1 ++ [(a,b)]) <;> rfl
theorem Yx {s:FX} (h:Kl s) {n:List Int} (l:n.length = 3):TG s NO n CG:=by
 obtain ⟨a,b,d,rfl⟩:=nl3 l
 have f:=NR h.ve
 refine ⟨(L8 s.2.2.2.2.2 (a,b,d)).2,if (L8 s.2.2.2.2.2 (a,b,d)).2 = true then (s.1,s.2.1,s.2.2.1,s.2.2.2.1,s.2.2.2.2.1,(L8 s.2.2.2.2.2 (a,b,d)).1) else s,?_,(fun e=>by rw [e]; rfl),?_,?_,fun c=>?_⟩
 ·split
  ·rename_i e
   refine ⟨h.ch,h.ke,h.mu,h.ca,?_⟩
   unfold L8 at e ⊢
   dsimp only
   split
   ·assumption
   ·rename_i g; rw [if_neg g] at e; cases e
  ·exact h
 ·split <;> exact Nat.le_succ _
 ·unfold CG NO Bj
  dsimp only
  rw [if_neg (by decide),if_neg (by decide),Is,Aa,Nf,Aa,XN,Aa,T4 h.ve f.2,Aa,Y6,Aa,Aa]
  cases (L8 s.2.2.2.2.2 (a,b,d)).2 <;> rfl
 ·unfold C0 NO FT
  dsimp only
  rw [if_neg (by decide),if_neg (by decide),if_neg (by decide),if_neg (by decide),if_neg (by decide),if_neg (by decide),if_neg (by decide),if_pos (by rfl),Is,Aa,Nf,Aa,XN,Aa,show (E9 s c).2.2.2.2.2.1 = s.2.2.2.2.2 by rfl,Th h.ve f.2,Aa]
  cases (L8 s.2.2.2.2.2 (a,b,d)).2 <;> rfl
def Ps (n:List Int):Prop:=∀ x ∈ n,0 ≤ x ∧ x ≤ 99999
theorem Aau {s:FX} (h:Kl s) (ai:s.2.2.2.2.1.length ≤ 39) {n:List Int} (hn:n.length = 4) (m:Ps n):TG s QH n CG:=by
 obtain ⟨a,b,d,e,rfl⟩:=nl4 hn
 have ah:=(Hn.1 h.ca).1
 have hK:∀ x ∈ s.2.2.2.2.1 ++ [(a,b,d,e)],L5 x:=by
  intro x f
  rcases AP.1 f with f | f
  ·exact U3 h.ca x f
  ·rw [List.mem_singleton] at f
   subst f
   have hb:=m b (by simp)
   have v:=m d (by simp)
   exact ⟨hb,v⟩
 obtain ⟨Z,z1,u,z3,z4⟩:=Yz (l:=s.2.2.2.2.1 ++ [(a,b,d,e)]) (by simp; omega) hK
 have g:=z1.length_eq
 rw [CH,List.length_singleton] at g
 refine ⟨Fz Z,if Fz Z = true then (s.1,s.2.1,s.2.2.1,s.2.2.2.1,Z,s.2.2.2.2.2) else s,?_,(fun e=>by rw [e]; rfl),?_,?_,fun c=>?_⟩
 ·split
  ·rename_i e; exact ⟨h.ch,h.ke,h.mu,e,h.ve⟩
  ·exact h
 ·split
  ·exact Nat.le_of_eq g
  ·exact Nat.le_succ _
 ·unfold CG QH FT
  dsimp only
  rw [if_neg (by decide),if_pos (by rfl),Is,Aa,Nf,Aa,XN,Aa,ix3,Aa,Bm (by simp; omega),Aa,List.nil_append,Bm (by simp; omega),Aa,u,Aa,z3,Aa]
  cases Fz Z <;> rfl
 ·unfold C0 QH FT WB
  dsimp only
  rw [if_neg (by decide),if_neg (by decide),if_neg (by decide),if_neg (by decide),if_neg (by decide),if_neg (by decide),if_pos (by rfl),Is,Aa,Nf,Aa,XN,Aa,ix3,Aa,show (E9 s c).2.2.2.2.1 = s.2.2.2.2.1 by rfl,Bm (by simp; omega),Aa,List.nil_append,Bm (by simp; omega),Aa,z4,Aa]
  cases Fz Z <;> rfl
def Pm (s:FX) (w:List Aj) (n:List Int):Prop:=∃ r,r.length ≤ 1000 ∧ Cc s w n = some r ∧ ∀ c,C4 (E9 s c) w n = some r
theorem Of {r:Int × Bool} (h:0 ≤ r.1) (e:r.1 ≤ 1000000000):(Pa r).length ≤ 1000:=by
 unfold Pa
 split
 ·have:=Hy (k:=9) (u:=r.1.toNat) (by omega)
  omega
 ·decide
theorem Aar (e:Int):Ln Qq e = ([],false):=by
 unfold Ln
 rw [Sz]
 rfl
theorem Aah (e:Int):Mk Qq e = (0,false):=by
 unfold Mk
 rw [Sz]
 rfl
theorem Abl:M8 Qq = (0,false):=by
 unfold M8
 rw [Sz]
 rfl
theorem Vk {a b:List (Int × Int)} {n:Int} (h:(Eo a b n).2 = false):(Eo a b n).1 = Qq:=by
 unfold Eo at *
 split
 ·rename_i e; rw [if_pos e] at h; cases h
 ·rfl
theorem Zq {a b:List (Int × Int)} {n:Int} (h:(FC a b n).2 = false):(FC a b n).1 = Qq:=by
 unfold FC at *
 split
 ·rename_i e; rw [if_pos e] at h; cases h
 ·rfl
theorem Adl {s:FX} (h:Kl s) {n:List Int}:Pm s VT n:=by
 have h1:=Dc h.ch
 have m:=Dc h.ke
 have e:=Zp s.2.1 s.1 s.2.2.1
 have f:=Abm (FC s.2.1 s.1 s.2.2.1).1
 have g:=Om (r:=M8 (FC s.2.1 s.1 s.2.2.1).1) f.1 (by omega)
 refine ⟨Pa (M8 (FC s.2.1 s.1 s.2.2.1).1),Of f.1 (by omega),?_,fun c=>?_⟩
 ·unfold Cc VT WA
  dsimp only
  rw [if_pos (by rfl),Qa (by omega) (by omega),Aa,show ((FC s.2.1 s.1 s.2.2.1).1.1,(FC s.2.1 s.1 s.2.2.1).1.2.1,(FC s.2.1 s.1 s.2.2.1).1.2.2.1,(FC s.2.1 s.1 s.2.2.1).1.2.2.2) = (FC s.2.1 s.1 s.2.2.1).1 by rfl,e.sum.1,Aa,g.1,Aa]
 ·unfold C4 VT jK5
  dsimp only
  rw [if_pos (by rfl),show (E9 s c).1 = s.1 by rfl,show (E9 s c).2.1 = s.2.1 by rfl,show (E9 s c).2.2.1 = s.2.2.1 by rfl,PN (by omega) (by omega),Aa,show ((FC s.2.1 s.1 s.2.2.1).1.1,(FC s.2.1 s.1 s.2.2.1).1.2.1,(FC s.2.1 s.1 s.2.2.1).1.2.2.1,(FC s.2.1 s.1 s.2.2.1).1.2.2.2) = (FC s.2.1 s.1 s.2.2.1).1 by rfl]
  cases l:(FC s.2.1 s.1 s.2.2.1).2 with
  | true=>rw [if_neg (by simp),e.sum.2,Aa,g.2,Aa]
  | false =>
   rw [if_pos (by rfl),Zq l,Abl]
   rfl
theorem Ys {t:BW} (h:SmT t) (e:Int):(∀ q ∈ (Ln t e).1,Oe q) ∧ (Ln t e).1.length ≤ 144:=by
 have:=h.h1
 unfold Ln
 split
 ·refine ⟨fun q f=>?_,?_⟩
  ·obtain ⟨i,k,h1,g,m,l,_⟩:=Zi f
   exact ⟨i,k,h1,by omega,by omega⟩
  ·have h1:=QU (XQ t e) t.1.length t.1.length
   have g:t.1.length * t.1.length ≤ 12 * 12:=Nat.mul_le_mul this this
   dsimp only
   omega
 ·exact ⟨(fun q f=>by cases f),by simp⟩
theorem Yw {P:List (List Int)} (h:∀ q ∈ P,Oe q) (g:P.length ≤ 144):(Ol P).length ≤ 1000:=by
 unfold Ol
 split
 ·decide
 ·have:=QW (B:=5) (P.map O1) (fun w e=>by
   obtain ⟨q,f,rfl⟩:=List.mem_map.1 e
   exact (Po (h q f)).2)
  rw [List.length_map] at this
  omega
theorem Aa1 {s:FX} (h:Kl s) {n:List Int} (l:n.length = 1):Pm s QG n:=by
 obtain ⟨a,rfl⟩:=XJ l
 have h1:=Dc h.ch
 have u:=Dc h.ke
 have f:=Vj s.2.1 s.1 s.2.2.1
 obtain ⟨e,g⟩:=Ys f a
 refine ⟨if (Ln (Eo s.2.1 s.1 s.2.2.1).1 a).2 = true then Ol (Ln (Eo s.2.1 s.1 s.2.2.1).1 a).1 else [110,111],?_,?_,fun c=>?_⟩
 ·split
  ·exact Yw e g
  ·decide
 ·unfold Cc QG GO WA
  dsimp only
  rw [if_neg (by decide),if_pos (by rfl),Is,Aa,Mm (by omega) (by omega),Aa,show ((Eo s.2.1 s.1 s.2.2.1).1.1,(Eo s.2.1 s.1 s.2.2.1).1.2.1,(Eo s.2.1 s.1 s.2.2.1).1.2.2.1,(Eo s.2.1 s.1 s.2.2.1).1.2.2.2) = (Eo s.2.1 s.1 s.2.2.1).1 by rfl,Ra f,Aa]
  generalize Ln (Eo s.2.1 s.1 s.2.2.1).1 a = r at *
  obtain ⟨P,b⟩:=r
  cases b with
  | false=>rfl
  | true =>
   dsimp only at e g ⊢
   rw [if_neg (by simp),if_pos rfl]
   unfold Ol
   cases P with
   | nil=>rfl
   | cons q P =>
    rw [if_neg (by simp; omega),Yv e (by omega),Aa,if_neg (by simp)]
 ·unfold C4 QG Ht EH Bj
  dsimp only
  rw [if_neg (by decide),if_pos (by rfl),Is,Aa,show (E9 s c).1 = s.1 by rfl,show (E9 s c).2.1 = s.2.1 by rfl,show (E9 s c).2.2.1 = s.2.2.1 by rfl,Mb (by omega) (by omega),Aa,Aa,QL f,Aa]
  cases m:(Eo s.2.1 s.1 s.2.2.1).2 with
  | false =>
   rw [Vk m,Aar]
   rfl
  | true =>
   generalize Ln (Eo s.2.1 s.1 s.2.2.1).1 a = r at *
   obtain ⟨P,b⟩:=r
   cases b with
   | false=>rfl
   | true =>
    dsimp only at e g ⊢
    rw [if_neg (by simp),if_neg (by simp),Yu e (by omega),Aa,if_pos rfl]
theorem Ab6 {s:FX} (h:Kl s) {n:List Int} (l:n.length = 1):Pm s SY n:=by
 obtain ⟨a,rfl⟩:=XJ l
 have h1:=Dc h.ch
 have u:=Dc h.ke
 have e:=Vj s.2.1 s.1 s.2.2.1
 have f:=Aai (Eo s.2.1 s.1 s.2.2.1).1 a
 have g:=Om (r:=Mk (Eo s.2.1 s.1 s.2.2.1).1 a) f.1 (by omega)
 refine ⟨Pa (Mk (Eo s.2.1 s.1 s.2.2.1).1 a),Of f.1 (by omega),?_,fun c=>?_⟩
 ·unfold Cc SY WA
  dsimp only
  rw [if_neg (by decide),if_neg (by decide),if_pos (by rfl),Mm (by omega) (by omega),Aa,Is,Aa,show ((Eo s.2.1 s.1 s.2.2.1).1.1,(Eo s.2.1 s.1 s.2.2.1).1.2.1,(Eo s.2.1 s.1 s.2.2.1).1.2.2.1,(Eo s.2.1 s.1 s.2.2.1).1.2.2.2) = (Eo s.2.1 s.1 s.2.2.1).1 by rfl,T3 e,Aa,g.1,Aa]
 ·unfold C4 SY EH
  rw [if_neg (by decide),if_neg (by decide),if_pos (by rfl),show (E9 s c).1 = s.1 by rfl,show (E9 s c).2.1 = s.2.1 by rfl,show (E9 s c).2.2.1 = s.2.2.1 by rfl,Mb (by omega) (by omega),Aa,Aa,Is,Aa]
  cases m:(Eo s.2.1 s.1 s.2.2.1).2 with
  | true=>rw [if_neg (by simp),Tg e,Aa,g.2,Aa]
  | false =>
   rw [if_pos (by rfl),Vk m,Aah]
   rfl
theorem Aa0 {s:FX} (h:Kl s) {n:List Int}:Pm s QF n:=by
 obtain ⟨l,g,f,m⟩:=SF h.ch
 have e:=Om (r:=Nc s.1) f (by omega)
 refine ⟨Pa (Nc s.1),Of f (by omega),?_,fun c=>?_⟩
 ·unfold Cc QF
  rw [if_neg (by decide),if_neg (by decide),if_neg (by decide),if_pos (by rfl),l,Aa,e.1,Aa]
 ·unfold C4 QF
  rw [if_neg (by decide),if_neg (by decide),if_neg (by decide),if_pos (by rfl),show (E9 s c).1 = s.1 by rfl,g,Aa,e.2,Aa]
theorem Ab4 {s:FX} (h:Kl s) {n:List Int} (l:n.length = 1) (m:Ps n):Pm s SV n:=by
 obtain ⟨a,rfl⟩:=XJ l
 have g:=m a (by simp)
 have e:=ZH h.mu (c:=a) g.2
 have f:=Om (r:=N1 s.2.2.2.1 a) e.1 (by omega)
 refine ⟨Pa (N1 s.2.2.2.1 a),Of e.1 (by omega),?_,fun c=>?_⟩
 ·unfold Cc SV
  rw [if_neg (by decide),if_neg (by decide),if_neg (by decide),if_neg (by decide),if_neg (by decide),if_neg (by decide),if_pos (by rfl),Is,Aa,Xz h.mu,Aa,f.1,Aa]
 ·unfold C4 SV
  rw [if_neg (by decide),if_neg (by decide),if_neg (by decide),if_neg (by decide),if_pos (by rfl),Is,Aa,show (E9 s c).2.2.2.1 = s.2.2.2.1 by rfl,Xu h.mu,Aa,f.2,Aa]
theorem Adk {s:FX} (h:Kl s) {n:List Int} (f:n.length = 2):Pm s VS n:=by
 obtain ⟨a,b,rfl⟩:=nl2 f
 have e:=Abh h.ca a b
 refine ⟨if (Ni s.2.2.2.2.1 a b).2 = true then Lib.decDigits (Ni s.2.2.2.2.1 a b).1.toNat else [110,111,110,101],?_,?_,fun c=>?_⟩
 ·split
  ·have:=Hy (k:=1) (u:=(Ni s.2.2.2.2.1 a b).1.toNat) (by omega)
   omega
  ·decide
 ·unfold Cc VS
  rw [if_neg (by decide),if_neg (by decide),if_neg (by decide),if_neg (by decide),if_neg (by decide),if_neg (by decide),if_neg (by decide),if_pos (by rfl),Is,Aa,Nf,Aa,Ul h.ca,Aa,LI e.1 (by omega),Aa]
  cases (Ni s.2.2.2.2.1 a b).2 <;> rfl
 ·unfold C4 VS
  rw [if_neg (by decide),if_neg (by decide),if_neg (by decide),if_neg (by decide),if_neg (by decide),if_pos (by rfl),Is,Aa,Nf,Aa,show (E9 s c).2.2.2.2.1 = s.2.2.2.2.1 by rfl,TW h.ca,Aa,Kc e.1 (by omega),Aa]
  cases (Ni s.2.2.2.2.1 a b).2 <;> rfl
theorem Aay {s:FX} (h:Kl s) {n:List Int} (e:n.length = 1):Pm s QD n:=by
 obtain ⟨a,rfl⟩:=XJ e
 obtain ⟨⟨z,b⟩,u,m,g⟩:=WU h.ve a
 refine ⟨if b = true then Gw (z.map M3) else [110,111],?_,?_,fun c=>?_⟩
 ·split
  ·rename_i f
   obtain ⟨v,f⟩:=g f
   have:=QW (B:=3) (z.map M3) (fun w l=>by
    obtain ⟨n,e,rfl⟩:=List.mem_map.1 l
    exact Rz (f n e).2)
   rw [List.length_map] at this
   dsimp only at v
   omega
  ·decide
 ·unfold Cc QD FA
  rw [if_neg (by decide),if_neg (by decide),if_neg (by decide),if_neg (by decide),if_neg (by decide),if_neg (by decide),if_neg (by decide),if_neg (by decide),Is,Aa,u,Aa]
  cases b with
  | false=>rfl
  | true =>
   rw [if_neg (by simp),Vv (g rfl),Aa]
   rfl
 ·unfold C4 QD
  rw [if_neg (by decide),if_neg (by decide),if_neg (by decide),if_neg (by decide),if_neg (by decide),if_neg (by decide),if_pos (by rfl),Is,Aa,show (E9 s c).2.2.2.2.2.1 = s.2.2.2.2.2 by rfl,m,Aa]
  cases b with
  | false=>rfl
  | true =>
   rw [if_neg (by simp),X2 (g rfl),Aa]
   rfl
theorem Ab5 {s:FX} (h:Kl s) {n:List Int} (l:n.length = 1) (u:Ps n):Pm s SW n:=by
 obtain ⟨a,rfl⟩:=XJ l
 have f:=u a (by simp)
 have h1:=Dc h.ch
 refine ⟨if (s.1.length:Int) ≤ a then [110,111] else PL (DZ s.1 a.toNat),?_,?_,fun c=>?_⟩
 ·split
  ·decide
  ·have:=YE (I8 h.ch (i:=a.toNat) (by omega))
   omega
 ·unfold Cc SW
  rw [if_neg (by decide),if_neg (by decide),if_neg (by decide),if_neg (by decide),if_pos (by rfl),Is,Aa,Aa]
  by_cases e:(s.1.length:Int) ≤ a
  ·rw [if_pos (decide_eq_true e),if_pos e]
  ·rw [if_neg (by simpa using e),if_neg e,Iy f.1,Dq (by omega),Aa,V0 (I8 h.ch (by omega)),Aa]
 ·unfold C4 SW
  rw [if_neg (by decide),if_neg (by decide),if_neg (by decide),if_neg (by decide),if_neg (by decide),if_neg (by decide),if_neg (by decide)]
  obtain ⟨m,g⟩:∃ m,FU = m + 2:=⟨FU - 2,rfl⟩
  rw [g,CA,if_pos (by simp),Is,Aa,show (E9 s c).1 = s.1 by rfl]
  by_cases e:(s.1.length:Int) ≤ a
  ·rw [if_pos (decide_eq_true e),if_pos e]
  ·rw [if_neg (by simpa using e),if_neg e,show Ag (0 + 1) = 1 by decide,CA,if_neg (by simp),if_pos (by rfl),Is,Aa,show (E9 s c).1 = s.1 by rfl,Iy f.1,Dq (by omega),Aa,Xo (I8 h.ch (by omega)),Aa]
theorem Aaz {s:FX} (h:Kl s) {n:List Int} (hn:n.length = 2) (hs:Ps n):Pm s NP n:=by
 obtain ⟨a,b,rfl⟩:=nl2 hn
 have l:=hs a (by simp)
 have v:=hs b (by simp)
 have h1:=Dc h.ch
 by_cases e:(s.1.length:Int) ≤ FB a b
 ·have ai:(s.1.length:Int) ≤ a ∨ (s.1.length:Int) ≤ b:=by unfold FB at e; split at e <;> omega
  refine ⟨[110,111],by decide,?_,fun c=>?_⟩
  ·unfold Cc NP
   rw [if_neg (by decide),if_neg (by decide),if_neg (by decide),if_neg (by decide),if_neg (by decide),if_pos (by rfl),Is,Aa,Nf,Aa,if_pos (decide_eq_true e)]
  ·unfold C4 NP
   rw [if_neg (by decide),if_neg (by decide),if_neg (by decide),if_neg (by decide),if_neg (by decide),if_neg (by decide),if_neg (by decide)]
   obtain ⟨m,g⟩:∃ m,FU = m + 3:=⟨FU - 3,rfl⟩
   rw [g,CA,if_pos (by simp),Is,Aa,show (E9 s c).1 = s.1 by rfl]
   by_cases f:(s.1.length:Int) ≤ a
   ·rw [if_pos (decide_eq_true f)]
   ·rw [if_neg (by simpa using f),show Ag (0 + 1) = 1 by decide,CA,if_pos (by simp),Nf,Aa,show (E9 s c).1 = s.1 by rfl,if_pos (decide_eq_true (by omega))]
 ·have f:¬ (s.1.length:Int) ≤ a:=by unfold FB at e; split at e <;> omega
  have ae:¬ (s.1.length:Int) ≤ b:=by unfold FB at e; split at e <;> omega
  obtain ⟨e1,e2,b1,b2⟩:=U5 (I8 h.ch (i:=a.toNat) (by omega)) (I8 h.ch (i:=b.toNat) (by omega))
  have u:=Om (r:=NU (DZ s.1 a.toNat) (DZ s.1 b.toNat)) b1 (by omega)
  refine ⟨Pa (NU (DZ s.1 a.toNat) (DZ s.1 b.toNat)),Of b1 (by omega),?_,fun c=>?_⟩
  ·unfold Cc NP
   rw [if_neg (by decide),if_neg (by decide),if_neg (by decide),if_neg (by decide),if_neg (by decide),if_pos (by rfl),Is,Aa,Nf,Aa,if_neg (by simpa using e),Aa,Iy l.1,Dq (by omega),Aa,Aa,Iy v.1,Dq (by omega),Aa,e1,Aa,u.1,Aa]
  ·unfold C4 NP
   rw [if_neg (by decide),if_neg (by decide),if_neg (by decide),if_neg (by decide),if_neg (by decide),if_neg (by decide),if_neg (by decide)]
   obtain ⟨m,g⟩:∃ m,FU = m + 3:=⟨FU - 3,rfl⟩
   rw [g,CA,if_pos (by simp),Is,Aa,show (E9 s c).1 = s.1 by rfl,if_neg (by simpa using f),show Ag (0 + 1) = 1 by decide,CA,if_pos (by simp),Nf,Aa,show (E9 s c).1 = s.1 by rfl,if_neg (by simpa using ae),show Ag (1 + 1) = 2 by decide,CA,if_neg (by simp),if_neg (by decide),Is,Aa,show (E9 s c).1 = s.1 by rfl,Iy l.1,Dq (by omega),Aa,Nf,Aa,Iy v.1,Dq (by omega),Aa,e2,Aa,u.2,Aa]
structure VP (s:FX) (l:List Aj) (r:List Aj) (s':FX):Prop where
 ok:Kl s'
 len:r.length ≤ 1000
 car:s'.2.2.2.2.1.length ≤ s.2.2.2.2.1.length + 1
 im:Dw s l = some (r,s')
 sp:∀ c,Ee (E9 s c) l = some (r,E9 s' c)
 no:r = [110,111] ∨ r = [119,104,97,116] → s' = s
theorem ZL (c:Aj) (l:List Aj):∃ w e,CZ c l = w :: e:=by
 cases h:CZ c l with
 | nil=>have:=Jo c l; rw [h] at this; simp at this
 | cons w e=>exact ⟨w,e,rfl⟩
theorem Acx {b:Bool} (h:Qp b = [110,111] ∨ Qp b = [119,104,97,116]):b = false:=by
 cases b with
 | false=>rfl
 | true=>rcases h with h | h <;> exact absurd h (by decide)
theorem YF (c:Aj):∀ (m:List Aj),∀ b ∈ CZ c m,b.length ≤ m.length:=by
 intro m
 induction m with
 | nil=>intro b e; simp [CZ] at e; simp [e]
 | cons x m f =>
  intro b e
  rw [CZ] at e
  split at e
  ·rcases List.mem_cons.1 e with rfl | e
   ·simp
   ·have:=f b e; simp; omega
  ·cases g:CZ c m with
   | nil=>have:=Jo c m; rw [g] at this; simp at this
   | cons a t =>
    rw [g] at e f
    rcases List.mem_cons.1 e with rfl | e
    ·have:=f a (List.mem_cons_self ..); simp; omega
    ·have:=f b (List.mem_cons_of_mem _ e); simp; omega
theorem XW {s:FX} (h:Kl s) (u:s.2.2.2.2.1.length ≤ 39) {w:List Aj} {f:List Int} (g:Ps f) (l:Ph w = (f.length:Int)) :
  (∃ F,TG s w f F ∧ (w ∈ Ja ∧ F = BH ∨ w ∈ Pi ∧ F = CG)) ∨ (w ∈ LQ ∧ Pm s w f):=by
 have m:=Aag (w:=w) (by rw [l]; omega)
 have len:∀ k:Nat,Ph w = (k:Int) → f.length = k:=fun k e=>by rw [e] at l; omega
 simp only [Ja,Pi,LQ,List.cons_append,List.nil_append,List.mem_cons,List.not_mem_nil,or_false] at m
 rcases m with rfl | rfl | rfl | rfl | rfl | rfl | rfl | rfl | rfl | rfl | rfl | rfl | rfl | rfl | rfl | rfl | rfl
 ·exact .inl ⟨_,Abz h (len 2 rfl),.inl ⟨by simp [Ja],rfl⟩⟩
 ·exact .inl ⟨_,Aat h (len 3 rfl),.inl ⟨by simp [Ja],rfl⟩⟩
 ·exact .inl ⟨_,Z5 h,.inl ⟨by simp [Ja],rfl⟩⟩
 ·exact .inl ⟨_,Ab0 h,.inl ⟨by simp [Ja],rfl⟩⟩
 ·exact .inl ⟨_,Z6 h (len 1 rfl),.inl ⟨by simp [Ja],rfl⟩⟩
 ·exact .inl ⟨_,Yy h (len 2 rfl),.inr ⟨by simp [Pi],rfl⟩⟩
 ·exact .inl ⟨_,Aau h u (len 4 rfl) g,.inr ⟨by simp [Pi],rfl⟩⟩
 ·exact .inl ⟨_,Yx h (len 3 rfl),.inr ⟨by simp [Pi],rfl⟩⟩
 ·exact .inr ⟨by simp [LQ],Adl h⟩
 ·exact .inr ⟨by simp [LQ],Aa1 h (len 1 rfl)⟩
 ·exact .inr ⟨by simp [LQ],Ab6 h (len 1 rfl)⟩
 ·exact .inr ⟨by simp [LQ],Aa0 h⟩
 ·exact .inr ⟨by simp [LQ],Ab4 h (len 1 rfl) g⟩
 ·exact .inr ⟨by simp [LQ],Adk h (len 2 rfl)⟩
 ·exact .inr ⟨by simp [LQ],Aay h (len 1 rfl)⟩
 ·exact .inr ⟨by simp [LQ],Ab5 h (len 1 rfl) g⟩
 ·exact .inr ⟨by simp [LQ],Aaz h (len 2 rfl) g⟩
theorem ZX {l:List (List Aj)} {f:List Int} (h:IW Pu l = some f):Ps f:=by
 refine W4 (fun x y e=>?_) h
 unfold Pu at e
 split at e
 ·rename_i g
  cases e
  exact DB.1 g
 ·cases e
theorem ZQ (s:FX) (w:List Aj) {f:List (List Aj)} (hl:f.length ≤ 2000) (hm:∀ a ∈ f,a.length ≤ 2000):BU f s w FU [] 0 = match IW Pu f with
  | none=>some ([119,104,97,116],s)
  | some l=>BU f s w 1 l (f.length:Int):=by
 refine (VL (BU f s w) f Pu (fun l=>BU f s w 1 l (f.length:Int)) (some ([119,104,97,116],s)) (by omega) (fun m k aa x g ha=>?_) (fun m aa ha=>?_)).trans (by cases IW Pu f <;> rfl)
 ·have hk:=(List.getElem?_eq_some_iff.1 g).1
  have ag:=hm x (List.mem_of_getElem? g)
  rw [BU,if_pos (by simp; omega),AX,g,Aa,WC x (by omega),Aa,AC (by omega)]
  unfold Bj Pu
  dsimp only
  cases v:BK (Lm x) 0 99999 with
  | true =>
   obtain ⟨e,u⟩:=Xw v
   rw [e,if_neg (by simp),if_neg (by simp; omega),Bm (by simp; omega),Aa,if_pos rfl]
  | false =>
   rw [if_neg (c:=false = true) (by simp)]
   cases hb:(Mh x).2 with
   | false=>rw [if_pos (by rfl),if_pos rfl]
   | true =>
    have u:99999 < (Mh x).1:=by
     rcases Wy v with h | h
     ·rw [hb] at h; cases h
     ·exact h
    rw [if_neg (by simp),if_pos (decide_eq_true u)]
 ·rw [BU,BU,if_neg (by simp),if_neg (by simp)]
theorem Zo (x:SpT) (u:List (List Aj)) {e:List (List Aj)} (v:e.length ≤ 2000) (s:∀ a ∈ e,a.length ≤ 2000):BT e x u FU [] 0 = match IW Pu e with
  | none=>some ([119,104,97,116],x)
  | some f=>BT e x u 1 f (e.length:Int):=by
 refine (VL (BT e x u) e Pu (fun f=>BT e x u 1 f (e.length:Int)) (some ([119,104,97,116],x)) (by omega) (fun m k h y g l=>?_) (fun m h l=>?_)).trans (by cases IW Pu e <;> rfl)
 ·have hk:=(List.getElem?_eq_some_iff.1 g).1
  have aa:=s y (List.mem_of_getElem? g)
  rw [BT,if_pos (by simp; omega),AX,g,Aa,Zr y (by omega),Aa,CU,Aa,AC (by omega),Bm (by simp; omega),Aa]
  unfold Pu
  cases BK (Lm y) 0 99999 <;> rfl
 ·rw [BT,BT,if_neg (by simp),if_neg (by simp)]
theorem Vl {s:FX} (h:Kl s) (a1:s.2.2.2.2.1.length ≤ 39) {l:List Aj} (hl:l.length ≤ 2000):∃ r s',VP s l r s':=by
 obtain ⟨w,f,ah⟩:=ZL 32 l
 have aq:f.length ≤ 2000:=by
  have h1:=Jo 32 l
  have h2:l.count 32 ≤ l.length:=List.count_le_length
  rw [ah,List.length_cons] at h1
  omega
 have an:∀ a ∈ f,a.length ≤ 2000:=fun a ha=>by
  have:=YF 32 l a (by rw [ah]; exact List.mem_cons_of_mem _ ha)
  omega
 have ax:Ge l [32] = some (w :: f):=by rw [← ah]; exact XB l 32 (by omega)
 have a0:FQ l 32 = some (w :: f):=by rw [← ah]; exact Tf l 32 (by omega)
 have aw:sl (w :: f) 1 (((w :: f).length:Nat):Int) = some f:=QO (w :: f) (k:=1) (by simp)
 have im:Dw s l = match IW Pu f with
  | none=>some ([119,104,97,116],s)
  | some m=>BU f s w 1 m (f.length:Int):=by
  unfold Dw
  rw [ax,Aa,Is,Aa,aw,Aa,ZQ s w aq an]
 have sp:∀ c,Ee (E9 s c) l = if (f.length:Int) ≠ Ph w then some ([119,104,97,116],E9 s c) else match IW Pu f with
  | none=>some ([119,104,97,116],E9 s c)
  | some m=>BT f (E9 s c) (w :: f) 1 m (f.length:Int):=by
  intro c
  unfold Ee
  rw [a0,Aa,Is,Aa,T5,Aa,aw,Aa,Zo _ _ aq an,A8 (by rw [List.length_cons]; omega) (by rw [List.length_cons]; omega),show (((w :: f).length:Nat):Int) - 1 = (f.length:Int) by simp]
  by_cases e:(f.length:Int) = Ph w
  ·rw [if_neg (by simpa using e),if_neg (by simpa using e)]
  ·rw [if_pos (by simpa using e),if_pos e]
 have av:(∀ c,Ee (E9 s c) l = some ([119,104,97,116],E9 s c)) → Dw s l = some ([119,104,97,116],s) → ∃ r s',VP s l r s':=fun a b=>⟨_,s,h,by decide,Nat.le_succ _,b,a,fun _=>rfl⟩
 cases ad:IW Pu f with
 | none =>
  rw [ad] at im
  refine av (fun c=>?_) im
  rw [sp c,ad]
  split <;> rfl
 | some m =>
  have ar:=W5 ad
  rw [ad] at im
  dsimp only at im
  rw [BU,if_neg (by simp),TR,Aa] at im
  by_cases hc:Ph w = (m.length:Int)
  ·rw [if_neg (by simp [hc])] at im
   have ap:∀ c,Ee (E9 s c) l = BT f (E9 s c) (w :: f) 1 m (f.length:Int):=fun c=>by
    rw [sp c,if_neg (by rw [hc,ar]; simp),ad]
   rcases XW h a1 (ZX ad) hc with ⟨F,⟨ok,s',g1,g2,g3,g4,g5⟩,hF⟩ | ⟨g,r,g1,g2,g3⟩
   ·refine ⟨Qp ok,s',g1,by cases ok <;> decide,g3,?_,fun c=>?_,fun e=>g2 (Acx e)⟩
    ·rw [im]
     rcases hF with ⟨g,rfl⟩ | ⟨g,rfl⟩
     ·simp only [Ja,List.mem_cons,List.not_mem_nil,or_false] at g
      have ab:(Option.bind (BH s w m) fun u=>some (u.1,u.2)) = some (Qp ok,s'):=by rw [g4]; rfl
      rcases g with rfl | rfl | rfl | rfl | rfl <;> exact ab
     ·simp only [Pi,List.mem_cons,List.not_mem_nil,or_false] at g
      have ab:(Option.bind (CG s w m) fun u=>some (u.1,u.2)) = some (Qp ok,s'):=by rw [g4]; rfl
      rcases g with rfl | rfl | rfl <;> exact ab
    ·rw [ap c,BT,if_neg (by simp)]
     have ab:(Option.bind (C0 (E9 s c) w m) fun u=>Option.bind (Jh u.1) fun v=>some (v,u.2)) = some (Qp ok,E9 s' c):=by rw [g5,Aa,Aby]; rfl
     have ao:w ∈ Ja ++ Pi:=by
      rcases hF with ⟨g,_⟩ | ⟨g,_⟩
      ·exact At _ g
      ·exact Bi _ g
     simp only [Ja,Pi,List.cons_append,List.nil_append,List.mem_cons,List.not_mem_nil,or_false] at ao
     rcases ao with rfl | rfl | rfl | rfl | rfl | rfl | rfl | rfl <;> exact ab
   ·refine ⟨r,s,h,g1,Nat.le_succ _,?_,fun c=>?_,fun _=>rfl⟩
    ·rw [im]
     have ab:(Option.bind (Cc s w m) fun u=>some (u,s)) = some (r,s):=by rw [g2]; rfl
     simp only [LQ,List.mem_cons,List.not_mem_nil,or_false] at g
     rcases g with rfl | rfl | rfl | rfl | rfl | rfl | rfl | rfl | rfl <;> exact ab
    ·rw [ap c,BT,if_neg (by simp)]
     have ab:(Option.bind (C4 (E9 s c) w m) fun u=>some (u,E9 s c)) = some (r,E9 s c):=by rw [g3]; rfl
     simp only [LQ,List.mem_cons,List.not_mem_nil,or_false] at g
     rcases g with rfl | rfl | rfl | rfl | rfl | rfl | rfl | rfl | rfl <;> exact ab
  ·rw [if_pos (by simpa using fun e=>hc e.symm)] at im
   refine av (fun c=>?_) im
   rw [sp c,if_pos (by rw [← ar]; exact fun e=>hc e.symm)]
def LZ (s:FX) (l:List Aj):List Aj × FX:=(Dw s l).getD ([],s)
def LL (s:FX):List (List Aj) → FX
 | []=>s
 | l :: ls=>LL (LZ s l).2 ls
def Lw (s:FX):List (List Aj) → List (List Aj)
 | []=>[]
 | l :: ls=>(LZ s l).1 :: Lw (LZ s l).2 ls
theorem OD (l:List Aj):∀ (e:List (List Aj)) (s:FX),LL s (e ++ [l]) = (LZ (LL s e) l).2
 | [],s=>rfl
 | a :: e,s=>OD l e (LZ s a).2
theorem QP (l:List Aj):∀ (e:List (List Aj)) (s:FX),Lw s (e ++ [l]) = Lw s e ++ [(LZ (LL s e) l).1]
 | [],s=>rfl
 | a :: e,s=>by rw [List.cons_append,Lw,QP l e,Lw,LL]; rfl
theorem PP:∀ (e:List (List Aj)) (s:FX),(Lw s e).length = e.length
 | [],s=>rfl
 | a :: e,s=>by rw [Lw,List.length_cons,PP e,List.length_cons]
def KQ:FX:=([(0,0)],[(0,0)],8,[(4,120)],[],[((-1),0,0)])
theorem Acm:Kl KQ:=⟨by decide,by decide,by decide,by decide,by decide⟩
theorem X8 {s:FX} {l r:List Aj} {e:FX} (h:VP s l r e):LZ s l = (r,e):=by unfold LZ; rw [h.im]; rfl
structure Aer (ls:List (List Aj)) (k:Nat):Prop where
 ok:Kl (LL KQ (ls.take k))
 car:(LL KQ (ls.take k)).2.2.2.2.1.length ≤ k
 rep:∀ r ∈ Lw KQ (ls.take k),r.length ≤ 1000
theorem JZ {α:Type} (l:List α) {k:Nat} (h:k < l.length):l.take (k + 1) = l.take k ++ [l[k]]:=List.take_succ_eq_append_getElem h
theorem O5 {l:List (List Aj)} (u:l.length ≤ 40) (s:∀ a ∈ l,a.length ≤ 2000):∀ k,k ≤ l.length → Aer l k
 | 0,_=>⟨Acm,Nat.le_refl _,fun r v=>by cases v⟩
 | k + 1,h=>by
  have f:=O5 u s k (by omega)
  have hc:=f.car
  obtain ⟨r,s',g⟩:=Vl f.ok (by omega) (s l[k] (List.getElem_mem _))
  have e:=X8 g
  refine ⟨?_,?_,?_⟩
  ·rw [JZ l (by omega),OD,e]; exact g.ok
  ·rw [JZ l (by omega),OD,e]; exact Ay g.car (by omega)
  ·rw [JZ l (by omega),QP,e]
   intro x m
   rcases AP.1 m with m | m
   ·exact f.rep x m
   ·rw [List.mem_singleton] at m; rw [m]; exact g.len
theorem Wo {e:List (List Aj)} (l:e.length ≤ 40) (h:∀ a ∈ e,a.length ≤ 2000) {k:Nat} (m:k < e.length):VP (LL KQ (e.take k)) e[k] (LZ (LL KQ (e.take k)) e[k]).1 (LL KQ (e.take (k + 1))):=by
 have f:=O5 l h k (by omega)
 have s:=f.car
 obtain ⟨r,u,g⟩:=Vl f.ok (by omega) (h e[k] (List.getElem_mem _))
 rw [JZ e m,OD,X8 g]
 exact g
theorem Vf (e:List (List Aj)) {k:Nat} (f:k < e.length):Lw KQ (e.take (k + 1)) = Lw KQ (e.take k) ++ [(LZ (LL KQ (e.take k)) e[k]).1]:=by rw [JZ e f,QP]
def Ip (p:List Aj → Bool) (rs:List (List Aj)):List Int:=((List.range rs.length).filter fun i=>p ((rs[i]?).getD [])).map fun (i:Nat)=>(i:Int) + 1
theorem Rb (p:List Aj → Bool) (e:List (List Aj)) (r:List Aj):Ip p (e ++ [r]) = Ip p e ++ if p r = true then [(e.length:Int) + 1] else []:=by
 unfold Ip
 rw [CH,List.length_singleton,List.range_succ,List.filter_append,List.map_append]
 have g:(List.range e.length).filter (fun i=>p (((e ++ [r])[i]?).getD [])) = (List.range e.length).filter fun i=>p ((e[i]?).getD []):=by
  refine List.filter_congr fun i l=>?_
  rw [List.getElem?_append_left (List.mem_range.1 l)]
 rw [g,List.filter_cons]
 have f:(e ++ [r])[e.length]? = some r:=by simp
 rw [f]
 cases h:p r <;> simp [h]
def Se (r:List Aj):Bool:=r == [110,111]
def RT (r:List Aj):Bool:=r == [119,104,97,116]
theorem MF (p:List Aj → Bool) (e:List (List Aj)):(Ip p e).length ≤ e.length:=by
 unfold Ip
 rw [List.length_map]
 exact Ay (List.length_filter_le _ _) (by simp)
structure Aeq (l:List Aj):Prop where
 n40:(D7 l).length ≤ 40
 each:∀ a ∈ D7 l,a.length ≤ 2000
theorem QN {l:List Aj} (h:GU l = true):Aeq l:=by
 obtain ⟨h1,g,e⟩:=GT.1 h
 exact ⟨by rw [PX g]; exact e,fun a f=>Ay (Yi f) h1⟩
def Yn (l:List Aj):FX:=LL KQ (D7 l)
def KS (l:List Aj):List (List Aj):=Lw KQ (D7 l)
theorem Wr {l:List Aj} (h:GU l = true):(KS l).length ≤ 40 ∧ ∀ r ∈ KS l,r.length ≤ 1000:=by
 have f:=QN h
 have g:=(O5 f.n40 f.each _ (Nat.le_refl _)).rep
 rw [List.take_length] at g
 exact ⟨by unfold KS; rw [PP]; exact f.n40,g⟩
theorem Ui {l:List Aj} (s:l.length ≤ 4194304):IJ l = some (if GU l = true then ((true,Yn l),KS l,true) else ((false,([],[],0,[],[],[])),[],false)):=by
 unfold IJ
 rw [TY l s,Aa]
 unfold NF
 cases h:GU l with
 | false=>rfl
 | true =>
  have f:=QN h
  rw [if_pos rfl,if_neg (by simp),if_pos rfl]
  unfold KM
  rw [Aa]
  refine Eq.trans (EI (fun m (z:FX × List (List Aj)) k=>Ew (D7 l,true) m z.1 z.2 k) (D7 l).length (fun k=>(LL KQ ((D7 l).take k),Lw KQ ((D7 l).take k))) (some ((true,Yn l),KS l,true)) (by have:=f.n40; omega) (j:=0) (by omega) (fun m k _ e=>?_) (fun m=>?_)) rfl
  ·have g:=Wo f.n40 f.each e
   have u:=PP ((D7 l).take k) KQ
   rw [List.length_take,Nat.min_eq_left (by omega)] at u
   have v:=f.n40
   rw [Ew,if_pos (by simp; omega),AX,Cb e,Aa,g.im,Aa,Bm (by simp; omega),Aa,AC (by omega),Vf _ e]
  ·rw [Ew,if_neg (by simp),List.take_length]
   rfl
def ctK (rs:List (List Aj)):CtT:=(Ip Se rs,Ip RT rs,0)
theorem Yc {l:List Aj} (hl:l.length ≤ 4194304):Ld l = some (if GU l = true then (E9 (Yn l) (Ip Se (KS l),Ip RT (KS l),((D7 l).length:Int)),KI (KS l),true) else (E9 KQ ([],[],0),[],false)):=by
 unfold Ld Lp
 rw [Yr l hl,Aa,Aa]
 unfold NF
 cases h:GU l with
 | false=>rfl
 | true =>
  have f:=QN h
  have ag:=f.n40
  rw [if_pos rfl,if_neg (by simp),if_pos rfl]
  refine Eq.trans (EI (fun m (z:SpT × List Aj) k=>Gg (D7 l,true) m z.1 z.2 k) (D7 l).length (fun k=>(E9 (LL KQ ((D7 l).take k)) (ctK (Lw KQ ((D7 l).take k))),KI (Lw KQ ((D7 l).take k)))) (some (E9 (Yn l) (Ip Se (KS l),Ip RT (KS l),((D7 l).length:Int)),KI (KS l),true)) (by omega) (j:=0) (by omega) (fun m k _ hk=>?_) (fun m=>?_)) rfl
  ·have g:=Wo f.n40 f.each hk
   have hr:=PP ((D7 l).take k) KQ
   have ad:=(O5 f.n40 f.each k (by omega)).rep
   rw [List.length_take,Nat.min_eq_left (by omega)] at hr
   have hj:=Vm 1000 _ ad
   have h1:=MF Se (Lw KQ ((D7 l).take k))
   have h2:=MF RT (Lw KQ ((D7 l).take k))
   have ah:=g.len
   rw [Gg,if_pos (by simp; omega),AX,Cb hk,Aa,g.sp,Aa,Vf _ hk]
   generalize (LZ (LL KQ ((D7 l).take k)) (D7 l)[k]).1 = r at *
   unfold Bj ctK E9
   dsimp only
   rw [W9,Rb,Rb,hr,AC (by omega)]
   have ej:KI [r] = r ++ [10]:=by unfold KI; simp
   rw [ej]
   by_cases s:r = [110,111]
   ·have v:Se r = true:=by rw [s]; rfl
    have e:RT r = false:=by rw [s]; rfl
    rw [if_pos (by rw [s]; rfl),v,e,if_pos rfl,if_neg (c:=false = true) (by simp),List.append_nil,Bm (by simp; omega),Aa,Bm (by simp; omega),Aa,Bm (by simp; omega),Aa]
    rfl
   ·have v:Se r = false:=beq_eq_false_iff_ne.2 s
    rw [if_neg (by simpa using s),v,if_neg (c:=false = true) (by simp),List.append_nil]
    by_cases u:r = [119,104,97,116]
    ·have e:RT r = true:=by rw [u]; rfl
     rw [if_pos (by rw [u]; rfl),e,if_pos rfl,Bm (by simp; omega),Aa,Bm (by simp; omega),Aa,Bm (by simp; omega),Aa]
     rfl
    ·have e:RT r = false:=beq_eq_false_iff_ne.2 u
     rw [if_neg (by simpa using u),e,if_neg (c:=false = true) (by simp),List.append_nil,Bm (by simp; omega),Aa,Bm (by simp; omega),Aa]
  ·rw [Gg,if_neg (by simp),List.take_length]
   rfl
theorem Zw (p:List Aj → Bool) (e:List (List Aj)) {k:Nat} (h:k < e.length):Ip p (e.take (k + 1)) = Ip p (e.take k) ++ if p e[k] = true then [(k:Int) + 1] else []:=by
 rw [JZ e h,Rb,List.length_take,Nat.min_eq_left (by omega)]
abbrev ML (l:List Int):Prop:=l.Pairwise (· < ·)
theorem Wa:∀ {l m:List Int},ML l → ML m → (∀ x,x ∈ l ↔ x ∈ m) → l = m
 | [],[],_,_,_=>rfl
 | [],b :: m,_,_,h=>by have:=(h b).2 (List.mem_cons_self ..); cases this
 | a :: l,[],_,_,h=>by have:=(h a).1 (List.mem_cons_self ..); cases this
 | a :: l,b :: m,hl,hm,h=>by
  rw [ML,List.pairwise_cons] at hl hm
  have e:a = b:=by
   rcases List.mem_cons.1 ((h a).1 (List.mem_cons_self ..)) with e | e
   ·exact e
   ·rcases List.mem_cons.1 ((h b).2 (List.mem_cons_self ..)) with g | g
    ·exact g.symm
    ·have:=hl.1 b g; have:=hm.1 a e; omega
  subst e
  rw [Wa hl.2 hm.2 (fun x=>?_)]
  constructor
  ·intro f
   rcases List.mem_cons.1 ((h x).1 (List.mem_cons_of_mem _ f)) with e | e
   ·have:=hl.1 x f; omega
   ·exact e
  ·intro f
   rcases List.mem_cons.1 ((h x).2 (List.mem_cons_of_mem _ f)) with e | e
   ·have:=hm.1 x f; omega
   ·exact e
theorem Abr {l:List Int} (hs:ML l) (hl:l.length ≤ 1000) (x:Int):∃ l',Jz l x = some l' ∧ ML l' ∧ (∀ y,y ∈ l' ↔ y ∈ l ∨ y = x) ∧ l'.length ≤ l.length + 1:=by
 have aj:∀ (d k m:Nat),l.length - k = d → k ≤ l.length → d < m → (∀ y ∈ l.take k,y < x) → ∃ l',DL l x m (k:Int) = some l' ∧ ML l' ∧ (∀ y,y ∈ l' ↔ y ∈ l ∨ y = x) ∧ l'.length ≤ l.length + 1:=by
  intro d
  have ag:∀ k,k ≤ l.length → (∀ y ∈ l.take k,y < x) → (∀ y ∈ l.drop k,x < y) → (Option.bind (sl l 0 (k:Int)) fun ah=>Option.bind (Cg [] ah) fun ao=>Option.bind (Cg ao [x]) fun al=>Option.bind (sl l (k:Int) (List.length l:Int)) fun ak=>Option.bind (Cg al ak) fun ap=>some ap) = some (l.take k ++ [x] ++ l.drop k) ∧ ML (l.take k ++ [x] ++ l.drop k) ∧ (∀ y,y ∈ l.take k ++ [x] ++ l.drop k ↔ y ∈ l ∨ y = x) ∧ (l.take k ++ [x] ++ l.drop k).length ≤ l.length + 1:=by
   intro k s h1 h2
   refine ⟨?_,?_,fun y=>?_,?_⟩
   ·rw [Ll l s,Aa,Bm (by simp; omega),Aa,List.nil_append,Bm (by simp; omega),Aa,QO l s,Aa,Bm (by simp; omega),Aa]
   ·have ht:ML (l.take k):=hs.sublist (List.take_sublist k l)
    have hd:ML (l.drop k):=hs.sublist (List.drop_sublist k l)
    rw [ML,List.append_assoc,List.pairwise_append]
    refine ⟨ht,?_,fun a ha b v=>?_⟩
    ·rw [List.singleton_append,List.pairwise_cons]
     exact ⟨h2,hd⟩
    ·rw [List.singleton_append,List.mem_cons] at v
     have:=h1 a ha
     rcases v with rfl | v
     ·exact this
     ·have:=h2 b v; omega
   ·constructor
    ·intro h
     rw [AP,AP,List.mem_singleton] at h
     rcases h with (h | h) | h
     ·exact .inl (List.mem_of_mem_take h)
     ·exact .inr h
     ·exact .inl (List.mem_of_mem_drop h)
    ·intro h
     rw [AP,AP,List.mem_singleton]
     rcases h with h | h
     ·rw [← List.take_append_drop k l,AP] at h
      rcases h with h | h
      ·exact .inl (.inl h)
      ·exact .inr h
     ·exact .inl (.inr h)
   ·simp; omega
  induction d with
  | zero =>
   intro k m hd s hm h1
   have:k = l.length:=by omega
   subst this
   cases m with
   | zero=>omega
   | succ m =>
    obtain ⟨e,g⟩:=ag l.length s h1 (fun y f=>by rw [List.drop_length] at f; cases f)
    refine ⟨_,?_,g⟩
    rw [DL]
    unfold Bj
    dsimp only
    rw [if_neg (by simp),if_neg (by simp),if_neg (by simp),if_neg (by simp)]
    exact e
  | succ d ih =>
   intro k m hd s hm h1
   have u:k < l.length:=by omega
   cases m with
   | zero=>omega
   | succ m =>
    rw [DL]
    unfold Bj
    dsimp only
    rw [if_pos (by simp; omega),AX,Cb u,Aa,Aa]
    by_cases hx:l[k] < x
    ·rw [if_pos (decide_eq_true hx),AC (by omega)]
     refine ih (k + 1) m (by omega) (by omega) (by omega) (fun y f=>?_)
     rw [JZ l u,AP,List.mem_singleton] at f
     rcases f with f | rfl
     ·exact h1 y f
     ·exact hx
    ·rw [if_neg (by simpa using hx),if_pos (by simp; omega)]
     by_cases he:l[k] = x
     ·rw [if_pos (by simpa using he)]
      exact ⟨l,rfl,hs,fun y=>⟨.inl,fun h=>h.elim id (fun e=>by rw [e,← he]; exact List.getElem_mem u)⟩,Nat.le_succ _⟩
     ·rw [if_neg (by simpa using he)]
      have h2:∀ y ∈ l.drop k,x < y:=by
       intro y f
       rw [List.drop_eq_getElem_cons u,List.mem_cons] at f
       rcases f with rfl | f
       ·omega
       ·obtain ⟨j,hj,rfl⟩:=List.getElem_of_mem f
        rw [List.getElem_drop]
        have:=List.pairwise_iff_getElem.1 hs k (k + 1 + j) u (by simp at hj; omega) (by omega)
        omega
      obtain ⟨e,g⟩:=ag k s h1 h2
      exact ⟨_,e,g⟩
 exact aj l.length 0 FU rfl (by omega) (D1 (by omega)) (fun y f=>by cases f)
def Qr (r:List Aj):Bool:=Se r || RT r
theorem Aaj (p:List Aj → Bool) (e:List (List Aj)):ML (Ip p e):=by
 unfold Ip
 rw [ML,List.pairwise_map]
 refine List.Pairwise.sublist List.filter_sublist ?_
 exact List.pairwise_lt_range.imp (fun h=>by omega)
theorem S9 {p:List Aj → Bool} {f:List (List Aj)} {x:Int}:x ∈ Ip p f ↔ ∃ i:Nat,∃ h:i < f.length,x = (i:Int) + 1 ∧ p f[i] = true:=by
 unfold Ip
 rw [List.mem_map]
 constructor
 ·rintro ⟨i,e,rfl⟩
  rw [List.mem_filter,List.mem_range] at e
  refine ⟨i,e.1,rfl,?_⟩
  have:=e.2
  rw [Cb e.1] at this
  exact this
 ·rintro ⟨i,e,rfl,g⟩
  refine ⟨i,?_,rfl⟩
  rw [List.mem_filter,List.mem_range,Cb e]
  exact ⟨e,g⟩
def OE (l:List Aj):List Int × Bool:=if GU l = true then (Ip Qr (KS l),true) else ([],false)
theorem Z0 (l:List Aj):(OE l).1.length ≤ 40:=by
 unfold OE
 cases h:GU l with
 | false=>simp
 | true=>exact Ay (MF _ _) (Wr h).1
theorem Aaq {e:List (List Aj)} (s:e.length ≤ 40):Dt e FU [] 0 = some (Ip Qr e,true):=by
 refine Eq.trans (EI (Dt e) e.length (fun k=>Ip Qr (e.take k)) (some (Ip Qr e,true)) (by omega) (j:=0) (by omega) (fun m k _ h=>?_) (fun m=>?_)) rfl
 ·have h1:=MF Qr (e.take k)
  rw [List.length_take,Nat.min_eq_left (by omega)] at h1
  rw [Dt,if_pos (by simp; omega)]
  unfold Bj
  dsimp only
  rw [AX,Cb h,Aa,Zw _ _ h,AC (by omega),Bm (by simp; omega),Aa]
  by_cases f:e[k] = [110,111]
  ·have g:Qr e[k] = true:=by rw [f]; rfl
   rw [if_pos (by rw [f]; rfl),g,if_pos rfl,if_pos rfl]
   rfl
  ·have l:Se e[k] = false:=beq_eq_false_iff_ne.2 f
   rw [if_neg (by simpa using f)]
   have g:Qr e[k] = (e[k] == [119,104,97,116]):=by unfold Qr; rw [l]; rfl
   rw [g]
   cases e[k] == [119,104,97,116]
   ·rw [if_neg (by simp),if_neg (by simp),List.append_nil]
   ·rw [if_pos rfl,if_pos rfl]; rfl
 ·rw [Dt,if_neg (by simp),List.take_length]
theorem S7 {l:List Aj} (e:l.length ≤ 4194304):GH l = some (OE l):=by
 unfold GH FT OE
 dsimp only
 rw [Ui e,Aa]
 cases h:GU l with
 | false=>rfl
 | true=>exact Aaq (Wr h).1
theorem Sx {l:List Aj} (hl:l.length ≤ 4194304):HI l = some (OE l):=by
 unfold HI OE
 rw [Yc hl,Aa]
 cases h:GU l with
 | false=>rfl
 | true =>
  have h1:=MF Se (KS l)
  have h2:=MF RT (KS l)
  have am:=(Wr h).1
  rw [if_pos rfl,if_neg (by simp),if_pos rfl]
  unfold E9
  dsimp only
  rw [PM _ (by omega),Aa,Bm (by omega),Aa]
  generalize hu:Ip Se (KS l) ++ Ip RT (KS l) = u
  have an:u.length ≤ 80:=by rw [← hu,CH]; omega
  refine Exists.elim (IY (fun (_:Unit) m (z:List Int) k=>DN u m z k) u.length (fun k z=>ML z ∧ z.length ≤ k ∧ ∀ y,y ∈ z ↔ y ∈ u.take k) (fun _ z=>some (z,true)) (by omega) (fun k z _ hk hz=>?_) (fun z hz j m=>?_) (b:=0) (by omega) (s:=[]) ⟨List.Pairwise.nil,Nat.le_refl _,fun y=>by simp⟩) ?_
  ·obtain ⟨v,z2,z3⟩:=hz
   obtain ⟨z',p1,p2,p3,p4⟩:=Abr v (by omega) u[k]
   refine ⟨z',⟨p2,by omega,fun y=>?_⟩,fun _ m=>?_⟩
   ·rw [p3,z3,JZ u hk,AP,List.mem_singleton]
   ·rw [DN,if_pos (by simp; omega),AX,Cb hk,Aa,p1,Aa,AC (by omega)]
  ·rw [DN,if_neg (by simp)]
  ·rintro z ⟨⟨v,z2,z3⟩,hr⟩
   refine (hr ()).trans ?_
   have:z = Ip Qr (KS l):=by
    refine Wa v (Aaj _ _) (fun x=>?_)
    rw [z3,List.take_length,← hu,AP,S9,S9,S9]
    constructor
    ·rintro (⟨i,g,e,f⟩ | ⟨i,g,e,f⟩)
     ·exact ⟨i,g,e,by unfold Qr; rw [f]; rfl⟩
     ·exact ⟨i,g,e,by unfold Qr; rw [f,Bool.or_true]⟩
    ·rintro ⟨i,g,e,f⟩
     unfold Qr at f
     rw [Bool.or_eq_true] at f
     rcases f with f | f
     ·exact .inl ⟨i,g,e,f⟩
     ·exact .inr ⟨i,g,e,f⟩
   rw [this]
theorem N9 (l:List Aj) {G:Prop} (_:G):GN l = some true:=by
 unfold GN
 by_cases h:1048576 < (l.length:Int)
 ·rw [if_pos (decide_eq_true h)]
 ·have hl:=Z0 l
  obtain ⟨e,u,f,s,cr,v,m⟩:=Abu (OE l).1 (by omega) 1 (by decide) (by unfold TQ; omega)
  have q:=Abx (OE l).1 ⟨by omega,fun _ _=>trivial⟩
  have g:¬ e < 0:=by omega
  rw [if_neg (by simpa using h),Sx (by omega),Aa,S7 (by omega)]
  simp [Bj,q,f,m,g]
end Go.Proofs.YtellehgihceicaaGreatDoor
