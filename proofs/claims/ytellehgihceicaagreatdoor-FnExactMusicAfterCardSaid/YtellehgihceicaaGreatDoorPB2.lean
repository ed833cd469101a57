/-
 REPAIRS, PLAIN: both sides tell the same kind.
-/
import Derived.Test.YtellehgihceicaaGreatDoorCore20
import Derived.Test.YtellehgihceicaaGreatDoorF
import Derived.Test.YtellehgihceicaaGreatDoorLibF
import Derived.Lib.Mul64
set_option linter.unusedVariables false
set_option linter.unusedSimpArgs false
set_option maxHeartbeats 1600000
namespace Go.Proofs.YtellehgihceicaaGreatDoor
open Go
theorem A6 {x:Int} (h1:-9223372036854775808 ≤ x) (e:x ≤ 9223372036854775807):Ag x = x:=by
 unfold Ag IntKind.wrap
 simp only [IntKind.bits,IntKind.signed]
 simp only [ge_iff_le,Bool.true_and,C9]
 split <;> omega
theorem AD {k:Nat} (h:k < 4611686018427387904):Ag ((k:Int) + 1) = ((k + 1:Nat):Int):=by
 rw [A6 (by omega) (by omega)]; omega
theorem AY {α:Type} (l:List α) (k:Nat):AL l (k:Int) = l[k]?:=by unfold AL; simp
theorem Sw {α:Type} (l:List α):AL l 0 = l[0]?:=by unfold AL; simp
theorem Iy {α:Type} {l:List α} {i:Int} (e:0 ≤ i):AL l i = l[i.toNat]?:=by unfold AL; rw [if_pos e]
theorem D4 {n:Nat} (h:n < 4611686018427387904):n < FU:=h
theorem LN {α:Type} (l:List α) {k:Nat} (h:k ≤ l.length):sl l 0 (k:Int) = some (l.take k):=by
 unfold sl
 rw [if_pos (by omega)]
 simp
theorem O7 {R:Type} (f:Nat → Int → Ae R) (n:Nat) (p:Nat → Bool) (rest e:Ae R) (hn:n < 4611686018427387904)
  (h:∀ m k,k < n → f (m + 1) (k:Int) = if p k = true then f m ((k + 1:Nat):Int) else e) (l:∀ m,f (m + 1) (n:Int) = rest):f FU 0 = if (List.range n).all p = true then rest else e:=by
 have aa:∀ d k m,n - k = d → k ≤ n → n - k < m → f m (k:Int) = if (List.range' k (n - k)).all p = true then rest else e:=by
  intro d
  induction d with
  | zero =>
   intro k m g v s
   have:k = n:=by omega
   subst this
   cases m with
   | zero=>omega
   | succ m=>simp [l]
  | succ d u =>
   intro k m g v s
   cases m with
   | zero=>omega
   | succ m =>
    rw [h m k (by omega),g,List.range'_succ,List.all_cons]
    cases hp:p k with
    | false=>simp
    | true =>
     simp only [if_true,Bool.true_and]
     rw [u (k + 1) m (by omega) (by omega) (by omega),show n - (k + 1) = d by omega]
 have:=aa n 0 FU (by omega) (by omega) (D4 (by omega))
 simpa [List.range_eq_range'] using this
theorem YR {α:Type} (l:List α) (p:Nat → Bool) (q:α → Bool) (h:∀ k x,l[k]? = some x → p k = q x):(List.range l.length).all p = l.all q:=by
 rw [Bool.eq_iff_iff,List.all_eq_true,List.all_eq_true]
 constructor
 ·intro h1 x g
  obtain ⟨k,e⟩:=List.getElem?_of_mem g
  rw [← h k x e]
  exact h1 k (List.mem_range.2 (List.getElem?_eq_some_iff.1 e).1)
 ·intro h1 k e
  have f:=List.mem_range.1 e
  rw [h k l[k] (by simp [f])]
  exact h1 _ (List.getElem_mem f)
theorem N1 {α R:Type} (f:Nat → Int → Ae R) (l:List α) (q:α → Bool) (rest g:Ae R) (v:l.length < 4611686018427387904)
  (s:∀ m k x,k < l.length → l[k]? = some x → f (m + 1) (k:Int) = if q x = true then f m ((k + 1:Nat):Int) else g) (u:∀ m,f (m + 1) (l.length:Int) = rest):f FU 0 = if l.all q = true then rest else g:=by
 rw [O7 f l.length (fun k=>match l[k]? with | some x=>q x | none=>true) rest g v (fun m k h=>?_) u,YR l _ q (fun k x e=>by simp [e])]
 have e:l[k]? = some l[k]:=by simp [h]
 rw [s m k l[k] h e]
 simp [e]
def Szd (o:Ae Int) (n:Int) (Q:Prop):Prop:=∃ r,o = some r ∧ (r < 0 ∨ (0 ≤ r ∧ r ≤ n ∧ Q))
def Add {α:Type} (S:α → Prop) (l:List α):Prop:=l.length ≤ 1048576 ∧ ∀ x ∈ l,S x
theorem Js {α:Type} {l:List α} {k:Nat} (h:k < l.length):AL l (k:Int) = some l[k]:=by rw [AY]; simp [h]
theorem J6 {α:Type} (l:List α) (k:Nat) (x:α):BE l (k:Int) x = l.set k x:=by unfold BE; simp
theorem Szd.imp {o:Ae Int} {n:Int} {Q R:Prop} (h:Szd o n Q) (f:Q → R):Szd o n R:=by
 obtain ⟨r,h1,e⟩:=h
 exact ⟨r,h1,e.imp id fun h=>⟨h.1,h.2.1,f h.2.2⟩⟩
theorem NB {α:Type} {n:Nat} (h:n ≤ 1073741824) (z:α):RW (n:Int) z = some (List.replicate n z):=by
 unfold RW
 rw [if_pos (by omega)]
 simp
theorem eqL {α:Type} {S:α → Prop} (f:Nat → Int → Ae Bool) (l:List α) (g:α → α → Ae Bool)
  (e:∀ m k,f (m + 1) k = if (decide (k < (List.length l:Int))) = true then Option.bind (AL l k) fun u=>Option.bind (AL l k) fun v=>Option.bind (g u v) fun b=>(if (!b) = true then some false else f m (Ag (k + 1))) else some true)
  (hg:∀ x,S x → g x x = some true) (s:Add S l):(if ((List.length l:Int) != (List.length l:Int)) = true then some false else f FU 0) = some true:=by
 have ab:=s.1
 rw [if_neg (by simp)]
 have:=N1 f l (fun _=>true) (some true) (some false) (by omega) (fun m k x hk h=>?_) (fun m=>by rw [e,if_neg (by simp)])
 ·simpa using this
 ·rw [e,if_pos (by simp; omega),AY,h,Aa,Aa,hg x (s.2 _ (List.mem_of_getElem? h)),Aa,AD (by omega)]
  rfl
theorem eqI {b:Bool} {f:Ae Bool} (h:b = false) (e:f = some true):(if b = true then some false else f) = some true:=by rw [h]; exact e
theorem neI (x:Int):(x != x) = false:=by simp
theorem Wv {α S R:Type} (f:Nat → S → Int → Ae R) (l:List α) (h:S → α → S) (rest:S → Ae R) (hn:l.length < 4611686018427387904)
  (u:∀ m s k x,k < l.length → l[k]? = some x → f (m + 1) s (k:Int) = f m (h s x) ((k + 1:Nat):Int)) (v:∀ m s,f (m + 1) s (l.length:Int) = rest s) (g:S):f FU g 0 = rest (l.foldl h g):=by
 have ae:∀ d k m s,l.length - k = d → k ≤ l.length → l.length - k < m → f m s (k:Int) = rest ((l.drop k).foldl h s):=by
  intro d
  induction d with
  | zero =>
   intro k m s hd hk hm
   have:k = l.length:=by omega
   subst this
   cases m with
   | zero=>omega
   | succ m=>rw [v]; simp
  | succ d ih =>
   intro k m s hd hk hm
   cases m with
   | zero=>omega
   | succ m =>
    have e:k < l.length:=by omega
    rw [u m s k l[k] e (by simp [e]),ih (k + 1) m _ (by omega) (by omega) (by omega),List.drop_eq_getElem_cons e,List.foldl_cons]
 have:=ae _ 0 FU g rfl (by omega) (D4 (by omega))
 simpa using this
theorem Tq {α:Type} (l:List α) {k:Nat} (h:k ≤ l.length):sl l 0 (k:Int) = some (l.take k):=LN l h
theorem Bt {α:Type} {l m:List α} (h:l.length + m.length ≤ 1073741824):Cl l m = some (l ++ m):=by
 unfold Cl
 rw [if_pos h]
def PS (l:List Aj):Nat:=l.count 10
theorem ten:(10:Int).toNat.toUInt8 = 10:=by decide
def GQ (l:List Aj):Bool:=decide (l.length ≤ 2000) && (decide (l = []) || decide (l.getLast? = some 10)) && decide (PS l ≤ 40)
theorem TV {l:List Aj} (h:l ≠ []):∃ b,AL l ((l.length:Int) - 1) = some b ∧ l.getLast? = some b ∧ l = l.take (l.length - 1) ++ [b]:=by
 have f:0 < l.length:=List.length_pos_iff.2 h
 have e:l.length - 1 < l.length:=by omega
 refine ⟨l[l.length - 1],?_,?_,?_⟩
 ·rw [show (l.length:Int) - 1 = ((l.length - 1:Nat):Int) by omega,Js e]
 ·rw [List.getLast?_eq_getElem?,Cp e]
 ·conv=>lhs; rw [← List.take_append_drop (l.length - 1) l]
  rw [List.drop_eq_getElem_cons e,List.drop_eq_nil_of_le (by omega)]
def Hv (b:Aj):Bool:=decide (48 ≤ b.toNat) && decide (b.toNat ≤ 57)
def OU (l:List Aj):Int:=l.foldl (fun a b=>10 * a + ((b.toNat:Int) - 48)) 0
theorem Sa {d:Nat} (h:d < 10):(UInt8.ofNat (48 + d)).toNat = 48 + d:=by
 rw [UInt8.toNat_ofNat']
 omega
theorem QX {u:Nat} (h:u < 10):Lib.decDigits u = [UInt8.ofNat (48 + u)]:=Lib.decDigits_one h
theorem XL {u:Nat} (h:¬ u < 10):Lib.decDigits u = Lib.decDigits (u / 10) ++ [UInt8.ofNat (48 + u % 10)]:=by
 rw [Lib.decDigits,dif_neg h]
theorem Vf:∀ (k u:Nat),u < 10 ^ (k + 1) → (∀ b ∈ Lib.decDigits u,Hv b = true) ∧ OU (Lib.decDigits u) = u ∧ 1 ≤ (Lib.decDigits u).length ∧ (Lib.decDigits u).length ≤ k + 1 ∧
  (0 < u → ∀ b,(Lib.decDigits u)[0]? = some b → b.toNat ≠ 48):=by
 intro k
 induction k with
 | zero =>
  intro u l
  have h:u < 10:=by simpa using l
  rw [QX h]
  have:=Sa h
  refine ⟨fun b e=>?_,?_,by simp,by simp,fun h0 b e=>?_⟩
  ·rw [List.mem_singleton.1 e]
   unfold Hv
   rw [this]
   simp
   omega
  ·unfold OU
   simp only [List.foldl_cons,List.foldl_nil,this]
   omega
  ·rw [List.getElem?_cons_zero,Option.some.injEq] at e
   rw [← e,this]
   omega
 | succ k v =>
  intro u l
  by_cases h:u < 10
  ·obtain ⟨m,f,s,a4,g⟩:=v u (Nat.lt_of_lt_of_le h (by rw [Nat.pow_succ]; have:=Nat.pow_pos (n:=k) (show 0 < 10 by omega); omega))
   exact ⟨m,f,s,by omega,g⟩
  ·have hd:u / 10 < 10 ^ (k + 1):=by rw [Nat.pow_succ] at l; omega
   obtain ⟨m,f,s,a4,g⟩:=v (u / 10) hd
   have hm:u % 10 < 10:=by omega
   have:=Sa hm
   rw [XL h]
   refine ⟨fun b e=>?_,?_,by simp,by simp; omega,fun h0 b e=>?_⟩
   ·rcases AX.1 e with e | e
    ·exact m b e
    ·rw [List.mem_singleton.1 e]
     unfold Hv
     rw [this]
     simp
     omega
   ·unfold OU at f ⊢
    rw [List.foldl_append,List.foldl_cons,List.foldl_nil,f,this]
    omega
   ·rw [List.getElem?_append_left (by omega)] at e
    exact g (by omega) b e
theorem Zf:∀ (l:List Aj) (a:Int),(∀ b ∈ l,Hv b = true) → 0 ≤ a → 0 ≤ l.foldl (fun a b=>10 * a + ((b.toNat:Int) - 48)) a ∧ l.foldl (fun a b=>10 * a + ((b.toNat:Int) - 48)) a < (a + 1) * 10 ^ l.length
 | [],a,_,h=>by simp; omega
 | b :: l,a,hd,h=>by
  have e:=hd b (by simp)
  unfold Hv at e
  simp only [Cf,C9] at e
  obtain ⟨h1,g⟩:=Zf l (10 * a + ((b.toNat:Int) - 48)) (fun c f=>hd c (by simp [f])) (by omega)
  rw [List.foldl_cons,List.length_cons,Int.pow_succ]
  refine ⟨h1,Int.lt_of_lt_of_le g ?_⟩
  have m:(0:Int) ≤ 10 ^ l.length:=Int.le_of_lt (Int.pow_pos (by omega))
  have u:(10 * a + ((b.toNat:Int) - 48) + 1) * 10 ^ l.length ≤ ((a + 1) * 10) * 10 ^ l.length:=Int.mul_le_mul_of_nonneg_right (by omega) m
  have s:(a + 1) * (10 ^ l.length * 10) = ((a + 1) * 10) * 10 ^ l.length:=by rw [Int.mul_comm (10 ^ l.length) 10,Int.mul_assoc]
  omega
def CZ (c:Aj):List Aj → List (List Aj)
 | []=>[[]]
 | b :: l=>if b = c then [] :: CZ c l else match CZ c l with
  | []=>[[b]]
  | h :: t=>(b :: h) :: t
theorem OL {c:Aj}:∀ {l:List Aj},c ∉ l → CZ c l = [l]
 | [],_=>rfl
 | b :: l,h=>by
  rw [List.mem_cons,not_or] at h
  rw [CZ,if_neg (fun e=>h.1 e.symm),OL h.2]
theorem OM {c:Aj}:∀ {A B:List Aj},c ∉ A → CZ c (A ++ c :: B) = A :: CZ c B
 | [],B,_=>by rw [List.nil_append,CZ,if_pos rfl]
 | b :: A,B,h=>by
  rw [List.mem_cons,not_or] at h
  rw [List.cons_append,CZ,if_neg (fun e=>h.1 e.symm),OM h.2]
theorem Jo (c:Aj):∀ l:List Aj,(CZ c l).length = l.count c + 1
 | []=>rfl
 | b :: l=>by
  have e:=Jo c l
  rw [CZ]
  by_cases h:b = c
  ·rw [if_pos h,List.length_cons,e,List.count_cons,if_pos (by simp [h])]
  ·rw [if_neg h,List.count_cons,if_neg (by simpa using h)]
   cases f:CZ c l with
   | nil=>rw [f] at e; simp at e
   | cons a t=>rw [f] at e; simpa using e
theorem YL {α:Type} (l:List α) {k:Nat} (h:k ≤ l.length):sl l 0 (k:Int) = some (l.take k):=LN l h
theorem Tb {α:Type} (l:List α) {k:Nat} (h:k ≤ l.length):sl l (k:Int) (List.length l:Int) = some (l.drop k):=by
 unfold sl
 rw [if_pos (by omega)]
 simp
theorem YM (c:Aj):(UInt8.toNat c:Int).toNat.toUInt8 = c:=by
 rw [Int.toNat_natCast]
 exact UInt8.ofNat_toNat
theorem MS {b c:Aj} (h:b ≠ c):((b.toNat:Nat):Int) ≠ (c.toNat:Int):=fun e=>h (UInt8.toNat_inj.1 (by omega))
theorem Aa0 (l:List Aj) (c:Aj):(PV l (c.toNat:Int) = -1 ∧ c ∉ l) ∨ ∃ A B,l = A ++ c :: B ∧ c ∉ A ∧ PV l (c.toNat:Int) = (A.length:Int):=by
 unfold PV
 rw [YM]
 cases h:(List.range l.length).find? (fun i=>l[i]? == some c) with
 | none =>
  left
  refine ⟨rfl,fun g=>?_⟩
  obtain ⟨k,f,e⟩:=List.getElem_of_mem g
  have:=List.find?_eq_none.1 h k (List.mem_range.2 f)
  rw [Cp f,e] at this
  simp at this
 | some i =>
  right
  have s:=List.find?_some h
  have hi:i < l.length:=List.mem_range.1 (List.mem_of_find?_eq_some h)
  have v:l[i] = c:=by
   rw [Cp hi] at s
   simpa using s
  have aa:c ∉ l.take i:=by
   intro g
   obtain ⟨k,f,e⟩:=List.getElem_of_mem g
   rw [List.getElem_take] at e
   have u:k < i:=by simp at f; omega
   have ad:k < l.length:=by omega
   have m:=(List.find?_range_eq_some.1 h).2.2 k u
   rw [Cp ad,e] at m
   simp at m
  have hl:l = l.take i ++ c :: l.drop (i + 1):=by
   conv=>rhs; rw [← v]
   rw [List.getElem_cons_drop,List.take_append_drop]
  exact ⟨l.take i,l.drop (i + 1),hl,aa,by simp; omega⟩
theorem WC {c:Aj}:∀ {A A' B B':List Aj},c ∉ A → c ∉ A' → A ++ c :: B = A' ++ c :: B' → A = A' ∧ B = B'
 | [],[],B,B',_,_,e=>by simpa using e
 | [],a :: A',B,B',_,h,e=>by
  rw [List.nil_append,List.cons_append,List.cons.injEq] at e
  exact absurd (by rw [e.1]; simp) h
 | a :: A,[],B,B',h,_,e=>by
  rw [List.nil_append,List.cons_append,List.cons.injEq] at e
  exact absurd (by rw [e.1]; simp) h
 | a :: A,a' :: A',B,B',h,h',e=>by
  rw [List.cons_append,List.cons_append,List.cons.injEq] at e
  rw [List.mem_cons,not_or] at h h'
  obtain ⟨g,f⟩:=WC h.2 h'.2 e.2
  exact ⟨by rw [e.1,g],f⟩
theorem ZI {A B:List Aj} {c:Aj} (h:c ∉ A):PV (A ++ c :: B) (c.toNat:Int) = (A.length:Int):=by
 rcases Aa0 (A ++ c :: B) c with ⟨_,g⟩ | ⟨A',B',e,l,f⟩
 ·exact absurd (by simp) g
 ·rw [f,(WC h l e).1]
theorem Abg (l:List Aj) (c:Aj):HT l [c] = some (PV l (c.toNat:Int)):=by
 unfold HT IR Hr Bk
 dsimp only
 by_cases h:l = [c]
 ·subst h
  have:=ZI (A:=[]) (B:=[]) (c:=c) (by simp)
  rw [List.nil_append] at this
  rw [this]
  simp
 ·have f:([c] == l) = false:=by
   rw [beq_eq_false_iff_ne]
   exact fun e=>h e.symm
  rw [if_neg (by simp),f,if_neg (by simp),if_pos (by simp)]
  rfl
theorem Abh (l:List Aj) (c:Aj):Jv l [c] = some ((l.count c:Nat):Int):=by
 unfold Jv
 rw [if_neg (by simp),if_pos (by simp)]
 show some (Yq l (UInt8.toNat c:Int)) = _
 unfold Yq
 rw [YM]
theorem Aaz {α:Type} (L:List α) (i:Nat) (x:α) (h:i < L.length):(BE L (i:Int) x).take (i + 1) = L.take i ++ [x]:=by
 unfold BE
 rw [Int.toNat_natCast,List.take_add_one,List.getElem?_set_self h,List.take_set_of_le (Nat.le_refl _)]
 rfl
theorem X4 (l:List Aj) (c:Aj) (hl:l.length ≤ 4194304):Gb l [c] = some (CZ c l):=by
 have hc:l.count c ≤ l.length:=List.count_le_length
 unfold Gb Ju Bk W0
 dsimp only
 have g:Fn ((l.count c:Int) + 1) ((l.length:Int) + 1) = ((l.count c + 1:Nat):Int):=by
  unfold Fn
  split <;> omega
 rw [if_neg (by simp),if_neg (by simp),if_pos (by simp),Abh,Aa,A6 (x:=((l.count c:Nat):Int) + 1) (by omega) (by omega),A6 (x:=(List.length l:Int) + 1) (by omega) (by omega),g,NB (by omega),Aa]
 have aj:∀ (d i m:Nat) (y:List Aj) (L:List (List Aj)),l.count c - i = d → i ≤ l.count c → d < m → y.count c = d → L.length = l.count c + 1 → y.length ≤ 4194304 →
   DL ((l.count c:Int) + 1) l [c] (fun ai v h=>Option.bind (AL v h) fun ar=>Option.bind (sl (BE v h ai) 0 (Ag (h + 1))) fun ag=>some ag) 0 m y L (i:Int) = some (L.take i ++ CZ c y):=by
  intro d
  induction d with
  | zero =>
   intro i m y L hd hi hm f hL ae
   have:i = l.count c:=by omega
   subst this
   cases m with
   | zero=>omega
   | succ m =>
    rw [DL,A6 (x:=(List.length l:Int) + 1) (by omega) (by omega),g,A6 (x:=((l.count c + 1:Nat):Int) - 1) (by omega) (by omega),if_neg (by simp <;> omega),Js (by omega),Aa,AD (by omega),YL _ (by simp [BE]; omega),Aa,Aaz _ _ _ (by omega),OL (List.count_eq_zero.1 f)]
  | succ d ih =>
   intro i m y L hd hi hm f hL ae
   cases m with
   | zero=>omega
   | succ m =>
    rcases Aa0 y c with ⟨_,h0⟩ | ⟨A,B,e,u,hx⟩
    ·rw [List.count_eq_zero.2 h0] at f; omega
    ·have au:y.length = A.length + (B.length + 1):=by rw [e]; simp
     have hB:y.drop (A.length + 1) = B:=by rw [e,show A ++ c :: B = (A ++ [c]) ++ B by simp]; exact List.drop_left' (by simp)
     have ak:y.take A.length = A:=by rw [e]; exact List.take_left' rfl
     have ab:B.count c = d:=by
      rw [e,List.count_append,List.count_eq_zero.2 u,List.count_cons_self] at f
      omega
     rw [DL,A6 (x:=(List.length l:Int) + 1) (by omega) (by omega),g,A6 (x:=((l.count c + 1:Nat):Int) - 1) (by omega) (by omega),if_pos (by simp <;> omega),Abg,Aa,hx,if_neg (by simp),A6 (x:=(A.length:Int) + 0) (by omega) (by omega),Int.add_zero,YL _ (by omega),Aa,Js (by omega),Aa]
     rw [show (List.length ([c]:List Aj):Int) = 1 by rfl,AD (by omega),Tb _ (by omega),Aa,AD (by omega),hB,ak]
     rw [ih (i + 1) m B _ (by omega) (by omega) (by omega) ab (by simp [BE]; exact hL) (by omega),Aaz _ _ _ (by omega)]
     conv=>rhs; rw [e]
     rw [OM u,List.append_assoc]
     rfl
 have s:=aj (l.count c) 0 FU l (List.replicate (l.count c + 1) []) (by omega) (by omega) (D4 (by omega)) rfl (by simp) hl
 rw [show ((0:Nat):Int) = 0 by rfl] at s
 rw [s]
 rfl
def BN (a lo hi:Int):Bool:=decide (lo ≤ a) && decide (a ≤ hi)
theorem CU (a e f:Int):BQ a e f = some (BN a e f):=by
 unfold BQ Bk BN
 by_cases h:e ≤ a <;> simp [h]
theorem CT (a e f:Int):BX a e f = some (BN a e f):=by
 unfold BX Bk BN
 by_cases h:e ≤ a <;> simp [h]
def CX (s:Int × Int):Bool:=BN s.1 0 1280 && BN s.2 0 672
theorem OP (s:Int × Int):Ia s = some (CX s):=by
 unfold Ia Bk CX
 dsimp only
 rw [CU,Aa,CU]
 cases BN s.1 0 1280 <;> simp
theorem Lz (s:Int × Int):Gw s = some (CX s):=by
 unfold Gw Bk CX
 dsimp only
 rw [CT,Aa,CT]
 cases BN s.1 0 1280 <;> simp
theorem RZ (x y:Int × Int):MB x y = decide (x = y):=by
 obtain ⟨a,b⟩:=x
 obtain ⟨c,d⟩:=y
 simp [MB]
 by_cases h1:a = c <;> by_cases e:b = d <;> simp [h1,e]
def PO (l:List (Int × Int)) (k:Nat):Bool:=match l[k]? with
 | some s=>CX s && (l.take k).all (fun u=>!decide (s = u))
 | none=>true
theorem Ob {l:List (Int × Int)} {k:Nat} {s:Int × Int} (h:l[k]? = some s):PO l k = (CX s && (l.take k).all (fun u=>!decide (s = u))):=by
 unfold PO
 rw [h]
def Cv (l:List (Int × Int)):Bool:=BN (l.length:Int) 1 12 && (List.range l.length).all (PO l)
theorem J5 (l:List (Int × Int)) (h:l.length < 4611686018427387904):FK l = some (Cv l):=by
 unfold FK
 rw [O7 (Ek l) l.length (PO l) (some (BN (l.length:Int) 1 12)) (some false) h (fun m k hk=>?_) (fun m=>?_)]
 ·unfold Cv
  cases (List.range l.length).all (PO l) <;> simp
 ·obtain ⟨s,e⟩:∃ s,l[k]? = some s:=⟨_,Cp hk⟩
  rw [Ek,if_pos (by simp; omega),AY,e,Aa,OP,Aa,Ob e]
  cases CX s with
  | false=>simp
  | true =>
   rw [if_neg (by simp),LN l (by omega),Aa,Bool.true_and]
   have ac:(l.take k).length = k:=by simp; omega
   rw [N1 (FF (l.take k) s (Ek l m) (k:Int)) (l.take k) (fun u=>!decide (s = u)) (Ek l m ((k + 1:Nat):Int)) (some false) (by omega) (fun v j x hj g=>?_) (fun v=>?_)]
   ·rw [FF,if_pos (by simp; omega),AY,g,Aa,RZ,AD (by omega)]
    by_cases f:s = x <;> simp [f]
   ·rw [FF,if_neg (by simp),AD (by omega)]
 ·rw [Ek,if_neg (by simp),CU]
  rfl
theorem Vr (l:List (Int × Int)) (s:Int × Int) (hl:l.length < 4611686018427387904):Dk l s = some (!l.all (fun u=>!decide (s = u))):=by
 unfold Dk Ez
 have ac:∀ d k m,l.length - k = d → k ≤ l.length → l.length - k < m → ∃ i,Cn l s m (k:Int) = some i ∧ decide (0 ≤ i) = !(l.drop k).all (fun u=>!decide (s = u)):=by
  intro d
  induction d with
  | zero =>
   intro k m v hk h
   cases m with
   | zero=>omega
   | succ m =>
    rw [Cn,if_neg (by simp; omega)]
    exact ⟨-1,rfl,by rw [List.drop_eq_nil_of_le (by omega)]; simp⟩
  | succ d ih =>
   intro k m v hk h
   cases m with
   | zero=>omega
   | succ m =>
    have g:k < l.length:=by omega
    rw [Cn,if_pos (by simp; omega),Js g,Aa,RZ,AD (by omega),List.drop_eq_getElem_cons g,List.all_cons]
    by_cases e:s = l[k]
    ·exact ⟨k,by simp [e],by simp [e]⟩
    ·rw [if_neg (by simp [e])]
     obtain ⟨i,h1,f⟩:=ih (k + 1) m (by omega) (by omega) (by omega)
     exact ⟨i,h1,by simp [e,f]⟩
 obtain ⟨i,h1,f⟩:=ac _ 0 FU rfl (by omega) (D4 (by omega))
 rw [show ((0:Nat):Int) = 0 from rfl] at h1
 rw [h1,Aa,f]
 simp
theorem GR (l:List (Int × Int)) (f:l.length < 4611686018427387904):Eb l = some (Cv l):=by
 unfold Eb Cv
 rw [CT,Aa]
 cases h:BN (l.length:Int) 1 12 with
 | false=>simp
 | true =>
  rw [if_neg (by simp),O7 (Fm l) l.length (PO l) (some true) (some false) f (fun m k g=>?_) (fun m=>?_)]
  ·cases (List.range l.length).all (PO l) <;> simp
  ·obtain ⟨s,e⟩:∃ s,l[k]? = some s:=⟨_,Cp g⟩
   rw [Fm,if_pos (by simp; omega),AY,e,Aa]
   unfold Bk
   dsimp only
   rw [Ob e,Lz,Aa]
   rw [LN l (by omega),Aa,Vr _ _ (by simp; omega),Aa,AD (by omega)]
   cases CX s with
   | false=>simp
   | true=>simp only [Bool.not_true,Bool.false_eq_true,if_false,Bool.true_and]; cases (List.take k l).all (fun u=>!decide (s = u)) <;> simp
  ·rw [Fm,if_neg (by simp)]
def Wm (l:List Int):Bool:=l.all fun u=>BN u 1 64
theorem O1 (x:Int):Hh x = some (BN x 0 80):=by
 unfold Hh
 rw [CU]; rfl
theorem QR (x:Int):I5 x = some (BN x 0 80):=by
 unfold I5
 rw [CT]; rfl
def Wa (cs:List Aev):Bool:=cs.all fun c=>Cv c && (match cs[0]? with | some d=>decide (c.length = d.length) | none=>true)
abbrev T5:=(List Aev) × (List Int) × Int × Int
def Ze (x:T5):Bool:=BN (x.1.length:Int) 2 8 && decide (x.2.1.length + 1 = x.1.length) && Wa x.1 && Wm x.2.1 && BN x.2.2.1 0 80 && BN x.2.2.2 1 24
theorem Ke {b:Aj}:Hv b = true ↔ 48 ≤ b.toNat ∧ b.toNat ≤ 57:=by
 unfold Hv
 simp
theorem UM {b:Aj} (h:Hv b = true):Ag (Mv ((b.toNat:Int) - 48)) = (b.toNat:Int) - 48:=by
 have:=Ke.1 h
 have e:Mv ((b.toNat:Int) - 48) = (b.toNat:Int) - 48:=by
  unfold Mv
  show ((b.toNat:Int) - 48) % 256 = _
  omega
 rw [e,A6 (by omega) (by omega)]
def Mb (l:List Aj):Int × Bool:=if l = [] ∨ 9 < l.length ∨ (1 < l.length ∧ l[0]? = some 48) then (0,false) else if l.all Hv then (OU l,true) else (0,false)
theorem W5 (l:List Aj) (n:Int) (i:Nat) (g:0 ≤ n) (h:n < 10 ^ i) (m:i + l.length ≤ 9):n ≤ 1000000000:=by
 have:(10:Nat) ^ i ≤ 10 ^ 9:=Nat.pow_le_pow_right (by omega) (by omega)
 have f:((10 ^ i:Nat):Int) ≤ ((10 ^ 9:Nat):Int):=Int.ofNat_le.2 this
 rw [Int.natCast_pow] at f
 have e:((10 ^ 9:Nat):Int) = 1000000000:=by decide
 rw [e] at f
 exact Int.le_of_lt (Int.lt_of_lt_of_le h f)
theorem ZW (l:List Aj) (h9:l.length ≤ 9):∀ (d i m:Nat) (n:Int),l.length - i = d → i ≤ l.length → d < m → 0 ≤ n → n < 10 ^ i →
  Fj l m n (i:Int) = some (if (l.drop i).all Hv then ((l.drop i).foldl (fun a b=>10 * a + ((b.toNat:Int) - 48)) n,true) else (0,false)):=by
 intro d
 induction d with
 | zero =>
  intro i m n u v s f h1
  have:i = l.length:=by omega
  subst this
  cases m with
  | zero=>omega
  | succ m =>
   rw [Fj,if_neg (by simp),List.drop_length]
   rfl
 | succ d ih =>
  intro i m n u v s f h1
  cases m with
  | zero=>omega
  | succ m =>
   have g:i < l.length:=by omega
   have hb:=W5 (l.drop i) n i f h1 (by simp; omega)
   rw [Fj,if_pos (by simp; omega)]
   unfold Bk
   dsimp only
   rw [Js g,Aa,Aa]
   rw [List.drop_eq_getElem_cons g,List.all_cons,List.foldl_cons]
   by_cases e:Hv l[i] = true
   ·have aa:=Ke.1 e
    rw [if_neg (by simp; omega),Aa,if_neg (by simp; omega),e,Bool.true_and,UM e,A6 (x:=10 * n) (by omega) (by omega),A6 (x:=10 * n + _) (by omega) (by omega),AD (by omega)]
    refine ih (i + 1) m _ (by omega) (by omega) (by omega) (by omega) ?_
    rw [Int.pow_succ]
    omega
   ·have aa:¬ (48 ≤ l[i].toNat ∧ l[i].toNat ≤ 57):=fun x=>e (Ke.2 x)
    have h:Hv l[i] = false:=by simpa using e
    rw [h,Bool.false_and,if_neg (c:=false = true) (by simp)]
    by_cases ac:l[i].toNat < 48
    ·rw [if_pos (by simp; omega),if_pos rfl]
    ·rw [if_neg (by simp; omega),Aa,if_pos (by simp; omega)]
theorem W1 (l:List Aj) (h:l.length < 4611686018427387904):JT l = some (Mb l):=by
 unfold JT Mb Bk
 dsimp only
 by_cases f:l = []
 ·rw [if_pos (by simp [f]),if_pos rfl,if_pos (Or.inl f)]
 ·rw [if_neg (by simpa using f)]
  by_cases m:9 < l.length
  ·rw [if_pos (by simp; omega),if_pos rfl,if_pos (Or.inr (Or.inl m))]
  ·rw [if_neg (by simp; omega)]
   have v:0 < l.length:=List.length_pos_iff.2 f
   have u:=ZW l (by omega) l.length 0 FU 0 rfl (by omega) (D4 (by omega)) (by omega) (by simp)
   rw [show ((0:Nat):Int) = 0 by rfl] at u
   by_cases h1:1 < l.length
   ·rw [if_pos (by simp; omega),Sw,Cp v,Aa]
    by_cases g:l[0] = 48
    ·rw [g,if_pos (by decide),if_pos (Or.inr (Or.inr ⟨h1,rfl⟩))]
    ·have:((l[0].toNat:Int) == 48) = false:=by
      rw [beq_eq_false_iff_ne]
      exact MS (c:=48) g
     have s:¬ (l = [] ∨ 9 < l.length ∨ (1 < l.length ∧ some l[0] = some 48)):=by
      rintro (e | e | ⟨_,e⟩)
      ·exact f e
      ·exact m e
      ·exact g (Option.some.inj e)
     rw [this,if_neg (by simp),u,if_neg s]
     rfl
   ·have s:¬ (l = [] ∨ 9 < l.length ∨ (1 < l.length ∧ l[0]? = some 48)):=by
     rintro (e | e | ⟨e,_⟩)
     ·exact f e
     ·exact m e
     ·exact h1 e
    rw [if_neg (by simp; omega),if_neg (by simp),u,if_neg s]
    rfl
theorem DB {a e f:Int}:BN a e f = true ↔ e ≤ a ∧ a ≤ f:=by simp [BN]
theorem FM {s:Int × Int}:CX s = true ↔ (0 ≤ s.1 ∧ s.1 ≤ 1280) ∧ 0 ≤ s.2 ∧ s.2 ≤ 672:=by
 unfold CX
 rw [Cf,DB,DB]
theorem O6 {α:Type} {l m:List α} (h:l.length + m.length ≤ 1073741824):Cl l m = some (l ++ m):=by
 unfold Cl
 rw [if_pos h]
def MQ (n:Int):List Aj:=Lib.decDigits (n.toNat / 8) ++ if 0 < n.toNat % 8 then 43 :: Lib.decDigits (n.toNat % 8) else []
def PH (s:Int × Int):List Aj:=MQ s.1 ++ 44 :: MQ s.2
theorem Hy {k u:Nat} (h:u < 10 ^ (k + 1)):(Lib.decDigits u).length ≤ k + 1:=(Vf k u h).2.2.2.1
theorem LB {n:Int} (h:0 ≤ n) (e:n ≤ 9223372036854775807):CY n = some (Lib.decDigits n.toNat):=by
 unfold CY Lib.itoa
 rw [if_pos (by omega),if_neg (by omega)]
theorem LK {n:Int} (h:0 ≤ n ∧ n ≤ 1280):(MQ n).length ≤ 5:=by
 unfold MQ
 have h1:=Hy (k:=2) (u:=n.toNat / 8) (by omega)
 have e:=Hy (k:=0) (u:=n.toNat % 8) (by omega)
 rw [CM]
 split
 ·rw [List.length_cons]; omega
 ·simp; omega
theorem Pv {n:Int} (h:0 ≤ n ∧ n ≤ 1280):H4 n = some (MQ n):=by
 have h1:=Hy (k:=2) (u:=n.toNat / 8) (by omega)
 have f:=Hy (k:=0) (u:=n.toNat % 8) (by omega)
 unfold H4 MQ Bk
 dsimp only
 rw [Int.tdiv_eq_ediv_of_nonneg h.1,Int.tmod_eq_emod_of_nonneg h.1,A6 (by omega) (by omega),LB (by omega) (by omega),Aa,show (n / 8).toNat = n.toNat / 8 by omega]
 by_cases e:0 < n.toNat % 8
 ·rw [if_pos (by simp; omega),LB (by omega) (by omega),Aa,show (n % 8).toNat = n.toNat % 8 by omega,O6 (by simp; omega),Aa,O6 (by simp; omega),Aa,if_pos e]
  rfl
 ·rw [if_neg (by simp; omega),if_neg e,List.append_nil]
theorem Vq {s:Int × Int} (h:CX s = true):J2 s = some (PH s,true):=by
 unfold J2
 rw [Lz,Aa,h,if_neg (by simp)]
 have f:=FM.1 h
 have g:=LK (n:=s.1) (by omega)
 have e:=LK (n:=s.2) (by omega)
 rw [Pv (by omega),Aa,O6 (by simp; omega),Aa,Pv (by omega),Aa,O6 (by simp; omega),Aa]
 unfold PH
 rw [List.append_assoc]
 rfl
theorem YA {s:Int × Int} (h:CX s = true):(PH s).length ≤ 11:=by
 have f:=FM.1 h
 have g:=LK (n:=s.1) (by omega)
 have e:=LK (n:=s.2) (by omega)
 unfold PH
 rw [CM,List.length_cons]
 omega
theorem PN {a e f:Int}:BN a e f = true ↔ e ≤ a ∧ a ≤ f:=by simp [BN]
structure Z6 (x:T5):Prop where
 n0:2 ≤ x.1.length
 n1:x.1.length ≤ 8
 nc:x.2.1.length + 1 = x.1.length
 ch:∀ c ∈ x.1,Cv c = true
 cl:∀ c ∈ x.1,1 ≤ c.length ∧ c.length ≤ 12
 ce:∀ c ∈ x.1,∀ d,x.1[0]? = some d → c.length = d.length
 cn:∀ u ∈ x.2.1,1 ≤ u ∧ u ≤ 64
 le:0 ≤ x.2.2.1 ∧ x.2.2.1 ≤ 80
 st:1 ≤ x.2.2.2 ∧ x.2.2.2 ≤ 24
theorem Xm {c:List (Int × Int)} (h:Cv c = true):1 ≤ c.length ∧ c.length ≤ 12:=by
 unfold Cv at h
 rw [Cf,PN] at h
 omega
theorem Aes {x:T5} (h:Ze x = true):Z6 x:=by
 unfold Ze Wa Wm at h
 simp only [Cf,PN,C9,List.all_eq_true] at h
 obtain ⟨⟨⟨⟨⟨h1,u⟩,f⟩,g⟩,l⟩,s⟩:=h
 refine ⟨by omega,by omega,u,fun c e=>(f c e).1,fun c e=>Xm (f c e).1,fun c e d m=>?_,g,l,s⟩
 have:=(f c e).2
 rw [m] at this
 simpa using this
theorem WQ {α:Type} {l m:List α} (h:l.length + m.length ≤ 1073741824):Cl l m = some (l ++ m):=by
 unfold Cl
 rw [if_pos h]
abbrev Ga:=(Int × Int) × (Int × Int) × Int
def GM (a b:Int × Int):Int:=Ag ((Ag ((Ag (a.1 - b.1)) * (Ag (a.1 - b.1)))) + (Ag ((Ag (a.2 - b.2)) * (Ag (a.2 - b.2)))))
theorem L6 (a b:Int × Int):GT a b = some (GM a b):=rfl
theorem Ho (a b:Int × Int):Ef a b = some (GM a b):=rfl
def ST (m:Ga):Int:=GM m.1 m.2.1
theorem Mc {x y A B:Int} (h1:-A ≤ x) (g:x ≤ A) (l:-B ≤ y) (f:y ≤ B):-(A * B) ≤ x * y ∧ x * y ≤ A * B:=by
 have h:(x * y).natAbs ≤ A.toNat * B.toNat:=by rw [Int.natAbs_mul]; exact Nat.mul_le_mul (by omega) (by omega)
 have e:((A.toNat * B.toNat:Nat):Int) = A * B:=by
  rw [Int.natCast_mul,Int.toNat_of_nonneg (by omega),Int.toNat_of_nonneg (by omega)]
 omega
def Is (a b:Int):Int × Int:=(Ag (Int.tdiv a (Nat.gcd a.toNat b.toNat:Int)),Ag (Int.tdiv b (Nat.gcd a.toNat b.toNat:Int)))
theorem Aac:∀ (y x m:Nat),y < m → GX m (x:Int) (y:Int) = some ((Nat.gcd x y:Nat):Int):=by
 intro y
 induction y using Nat.strongRecOn with
 | _ y ih =>
  intro x m g
  cases m with
  | zero=>omega
  | succ m =>
   rw [GX]
   by_cases h:y = 0
   ·subst h
    simp
   ·have e:((y:Int) != 0) = true:=by simp; omega
    have f:¬ (y:Int) = 0:=by omega
    rw [if_pos e,if_neg f,← Int.ofNat_tmod,ih (x % y) (Nat.mod_lt _ (by omega)) y m (by have:=Nat.mod_lt x (show 0 < y by omega); omega)]
    congr 2
    rw [Nat.gcd_comm x y,Nat.gcd_rec y x]
    exact Nat.gcd_comm _ _
theorem Za (a b:Int):∀ (y x m:Nat),y < m → 0 < Nat.gcd x y → G3 a b m (x:Int) (y:Int) = some (Ag (Int.tdiv a (Nat.gcd x y:Int)),Ag (Int.tdiv b (Nat.gcd x y:Int))):=by
 intro y
 induction y using Nat.strongRecOn with
 | _ y ih =>
  intro x m u f
  cases m with
  | zero=>omega
  | succ m =>
   rw [G3]
   by_cases h:y = 0
   ·subst h
    have l:¬ x = 0:=by simp at f; omega
    simp [l]
   ·have s:decide (0 < (y:Int)) = true:=by simp; omega
    have g:¬ (y:Int) = 0:=by omega
    have e:Nat.gcd x y = Nat.gcd y (x % y):=by rw [Nat.gcd_comm x y,Nat.gcd_rec y x]; exact Nat.gcd_comm _ _
    rw [if_pos s,if_neg g,← Int.ofNat_tmod,ih (x % y) (Nat.mod_lt _ (by omega)) y m (by have:=Nat.mod_lt x (show 0 < y by omega); omega) (by rw [← e]; exact f),e]
theorem LC (a b:Int) (u:0 ≤ a) (s:a ≤ 4000000000000000000) (l:0 < b) (m:b ≤ 1000000000000000):FH a b = some (Is a b):=by
 unfold FH Mq Is
 have f:Fy a (Ag (0 - a)) = ((a.toNat:Nat):Int):=by unfold Fy; rw [A6 (by omega) (by omega)]; split <;> omega
 have g:Fy b (Ag (0 - b)) = ((b.toNat:Nat):Int):=by unfold Fy; rw [A6 (by omega) (by omega)]; split <;> omega
 rw [f,g,Aac b.toNat a.toNat FU (D4 (by omega)),Aa]
 have h:0 < Nat.gcd a.toNat b.toNat:=Nat.gcd_pos_of_pos_right _ (by omega)
 have e:¬ ((Nat.gcd a.toNat b.toNat:Nat):Int) = 0:=by omega
 rw [if_neg e,if_neg e]
theorem RQ (a b:Int) (u:0 ≤ a) (s:a ≤ 4000000000000000000) (l:0 < b) (m:b ≤ 1000000000000000):Jf a b = some (Is a b):=by
 unfold Jf Mo Hp Is
 have f:(if decide (Ag (0 - a) < a) = true then some a else some (Ag (0 - a))) = some ((a.toNat:Nat):Int):=by
  rw [A6 (by omega) (by omega)]
  by_cases h:0 - a < a
  ·rw [if_pos (by simp; omega)]; congr 1; omega
  ·rw [if_neg (by simp; omega)]; congr 1; omega
 have g:b = ((b.toNat:Nat):Int):=by omega
 rw [f,Aa,Aa]
 have e:0 < Nat.gcd a.toNat b.toNat:=Nat.gcd_pos_of_pos_right _ (by omega)
 have:=Za a b b.toNat a.toNat FU (D4 (by omega)) e
 rw [← g] at this
 exact this
def Yc (px py qx qy:Int):Int × Int :=
 if 0 ≤ px * (qx - px) + py * (qy - py) then (px * px + py * py,1)
 else if (qx - px) * (qx - px) + (qy - py) * (qy - py) ≤ 0 - (px * (qx - px) + py * (qy - py)) then (qx * qx + qy * qy,1)
 else Is ((px * qy - py * qx) * (px * qy - py * qx)) ((qx - px) * (qx - px) + (qy - py) * (qy - py))
def TU (a b:Ga):Int × Int:=Yc (a.1.1 - b.1.1) (a.1.2 - b.1.2) (a.2.1.1 - b.2.1.1) (a.2.1.2 - b.2.1.2)
structure InB (px py qx qy:Int):Prop where
 a1:-1280 ≤ px
 a2:px ≤ 1280
 b1:-672 ≤ py
 b2:py ≤ 672
 c1:-1280 ≤ qx
 c2:qx ≤ 1280
 d1:-672 ≤ qy
 d2:qy ≤ 672
theorem Mx {x A:Int} (h1:-A ≤ x) (e:x ≤ A):0 ≤ x * x ∧ x * x ≤ A * A:=by
 have:=Mc h1 e h1 e
 refine ⟨?_,this.2⟩
 have:(0:Int) ≤ ((x.natAbs * x.natAbs:Nat):Int):=Int.natCast_nonneg _
 rwa [Int.natAbs_mul_self] at this
structure Adx (px py qx qy:Int):Prop where
 m1:-3276800 ≤ px * (qx - px) ∧ px * (qx - px) ≤ 3276800
 m2:-903168 ≤ py * (qy - py) ∧ py * (qy - py) ≤ 903168
 m3:0 ≤ (qx - px) * (qx - px) ∧ (qx - px) * (qx - px) ≤ 6553600
 m4:0 ≤ (qy - py) * (qy - py) ∧ (qy - py) * (qy - py) ≤ 1806336
 m5:0 ≤ px * px ∧ px * px ≤ 1638400
 m6:0 ≤ py * py ∧ py * py ≤ 451584
 m7:0 ≤ qx * qx ∧ qx * qx ≤ 1638400
 m8:0 ≤ qy * qy ∧ qy * qy ≤ 451584
 m9:-860160 ≤ px * qy ∧ px * qy ≤ 860160
 m10:-860160 ≤ py * qx ∧ py * qx ≤ 860160
 m11:0 ≤ (px * qy - py * qx) * (px * qy - py * qx) ∧ (px * qy - py * qx) * (px * qy - py * qx) ≤ 2959500902400
theorem Aa4 {e u g l:Int} (h:InB e u g l):Adx e u g l:=by
 obtain ⟨v,f,m,s,c1,c2,d1,d2⟩:=h
 have m9:=Mc v f d1 d2
 have ah:=Mc m s c1 c2
 have ag:=Mx (x:=e * l - u * g) (A:=1720320) (by omega) (by omega)
 exact ⟨Mc (A:=1280) (B:=2560) v f (by omega) (by omega),Mc (A:=672) (B:=1344) m s (by omega) (by omega),Mx (A:=2560) (by omega) (by omega),Mx (A:=1344) (by omega) (by omega),Mx v f,Mx m s,Mx c1 c2,Mx d1 d2,by omega,by omega,by omega⟩
theorem inB {a b:Ga} (e:CX a.1 = true) (f:CX a.2.1 = true) (g:CX b.1 = true) (h:CX b.2.1 = true):InB (a.1.1 - b.1.1) (a.1.2 - b.1.2) (a.2.1.1 - b.2.1.1) (a.2.1.2 - b.2.1.2):=by
 unfold CX at e f g h
 rw [Cf,PN,PN] at e f g h
 refine ⟨by omega,by omega,by omega,by omega,by omega,by omega,by omega,by omega⟩
theorem Tt (a b:Ga) (u:CX a.1 = true) (h:CX a.2.1 = true) (g:CX b.1 = true) (v:CX b.2.1 = true):Im a b = some (TU a b):=by
 have f:=inB u h g v
 unfold Im Lm Ef TU
 generalize a.1.1 - b.1.1 = px at *
 generalize a.1.2 - b.1.2 = py at *
 generalize a.2.1.1 - b.2.1.1 = qx at *
 generalize a.2.1.2 - b.2.1.2 = qy at *
 obtain ⟨m1,m2,m3,m4,m5,m6,m7,m8,m9,ao,aj⟩:=Aa4 f
 obtain ⟨a1,m,s,l,c1,c2,d1,d2⟩:=f
 have k:(px * (qy - py) - py * (qx - px)) = px * qy - py * qx:=by
  rw [Int.mul_sub,Int.mul_sub,Int.mul_comm px py]; omega
 have ar:=Mc (x:=px) (y:=qy - py) (A:=1280) (B:=1344) a1 m (by omega) (by omega)
 have ab:=Mc (x:=py) (y:=qx - px) (A:=672) (B:=2560) s l (by omega) (by omega)
 simp only [Aa,A6 (x:=px) (by omega) (by omega),A6 (x:=py) (by omega) (by omega),A6 (x:=qx) (by omega) (by omega),A6 (x:=qy) (by omega) (by omega),
  A6 (x:=qx - px) (by omega) (by omega),A6 (x:=qy - py) (by omega) (by omega),A6 (x:=px * (qx - px)) (by omega) (by omega),A6 (x:=py * (qy - py)) (by omega) (by omega),
  A6 (x:=px * (qx - px) + py * (qy - py)) (by omega) (by omega),A6 (x:=0 - (px * (qx - px) + py * (qy - py))) (by omega) (by omega),
  A6 (x:=(qx - px) * (qx - px)) (by omega) (by omega),A6 (x:=(qy - py) * (qy - py)) (by omega) (by omega),A6 (x:=(qx - px) * (qx - px) + (qy - py) * (qy - py)) (by omega) (by omega),
  A6 (x:=px * px) (by omega) (by omega),A6 (x:=py * py) (by omega) (by omega),A6 (x:=px * px + py * py) (by omega) (by omega),
  A6 (x:=qx * qx) (by omega) (by omega),A6 (x:=qy * qy) (by omega) (by omega),A6 (x:=qx * qx + qy * qy) (by omega) (by omega),
  A6 (x:=px * (qy - py)) (by omega) (by omega),A6 (x:=py * (qx - px)) (by omega) (by omega),k,A6 (x:=px * qy - py * qx) (by omega) (by omega),A6 (x:=(px * qy - py * qx) * (px * qy - py * qx)) (by omega) (by omega)]
 unfold Yc
 by_cases h1:0 ≤ px * (qx - px) + py * (qy - py)
 ·rw [if_pos (by simpa using h1),if_pos h1]
 ·rw [if_neg (by simpa using h1),if_neg h1]
  by_cases e:(qx - px) * (qx - px) + (qy - py) * (qy - py) ≤ 0 - (px * (qx - px) + py * (qy - py))
  ·rw [if_pos (by simpa using e),if_pos e]
  ·rw [if_neg (by simpa using e),if_neg e,LC _ _ (by omega) (by omega) (by omega) (by omega)]
   rfl
theorem VU (a b:Ga) (s:CX a.1 = true) (m:CX a.2.1 = true) (l:CX b.1 = true) (u:CX b.2.1 = true):JQ a b = some (TU a b):=by
 have g:=inB s m l u
 unfold JQ Ll Kt TU Bk
 generalize a.1.1 - b.1.1 = px at *
 generalize a.1.2 - b.1.2 = py at *
 generalize a.2.1.1 - b.2.1.1 = qx at *
 generalize a.2.1.2 - b.2.1.2 = qy at *
 obtain ⟨m1,m2,m3,m4,v,m6,m7,m8,m9,ar,aj⟩:=Aa4 g
 obtain ⟨a1,a2,b1,b2,c1,c2,d1,d2⟩:=g
 simp only [Aa,A6 (x:=px) (by omega) (by omega),A6 (x:=py) (by omega) (by omega),A6 (x:=qx) (by omega) (by omega),A6 (x:=qy) (by omega) (by omega),
  A6 (x:=qx - px) (by omega) (by omega),A6 (x:=qy - py) (by omega) (by omega),A6 (x:=px * (qx - px)) (by omega) (by omega),A6 (x:=py * (qy - py)) (by omega) (by omega),
  A6 (x:=px * (qx - px) + py * (qy - py)) (by omega) (by omega),A6 (x:=0 - (px * (qx - px) + py * (qy - py))) (by omega) (by omega),
  A6 (x:=(qx - px) * (qx - px)) (by omega) (by omega),A6 (x:=(qy - py) * (qy - py)) (by omega) (by omega),A6 (x:=(qx - px) * (qx - px) + (qy - py) * (qy - py)) (by omega) (by omega),
  A6 (x:=px * px) (by omega) (by omega),A6 (x:=py * py) (by omega) (by omega),A6 (x:=px * px + py * py) (by omega) (by omega),
  A6 (x:=qx * qx) (by omega) (by omega),A6 (x:=qy * qy) (by omega) (by omega),A6 (x:=qx * qx + qy * qy) (by omega) (by omega),
  A6 (x:=px * qy) (by omega) (by omega),A6 (x:=py * qx) (by omega) (by omega),A6 (x:=px * qy - py * qx) (by omega) (by omega),A6 (x:=(px * qy - py * qx) * (px * qy - py * qx)) (by omega) (by omega)]
 have q1:qx * qx = px * px + 2 * (px * (qx - px)) + (qx - px) * (qx - px):=by
  have:qx * qx = (px + (qx - px)) * (px + (qx - px)):=by rw [show px + (qx - px) = qx by omega]
  rw [this,Int.add_mul,Int.mul_add,Int.mul_add,Int.mul_comm (qx - px) px]; omega
 have q2:qy * qy = py * py + 2 * (py * (qy - py)) + (qy - py) * (qy - py):=by
  have:qy * qy = (py + (qy - py)) * (py + (qy - py)):=by rw [show py + (qy - py) = qy by omega]
  rw [this,Int.add_mul,Int.mul_add,Int.mul_add,Int.mul_comm (qy - py) py]; omega
 unfold Yc EQ
 generalize hd:px * (qx - px) + py * (qy - py) = dot at *
 generalize hz:(qx - px) * (qx - px) + (qy - py) * (qy - py) = size at *
 by_cases h1:0 ≤ dot
 ·have e:0 - dot ≤ 0:=by omega
  rw [if_pos h1]
  simp only [e,decide_true,if_true,Aa]
  rw [if_neg (by simp)]
  by_cases h:px * px + py * py < qx * qx + qy * qy
  ·rw [if_pos (by simpa using h)]; rfl
  ·rw [if_neg (by simpa using h),Aa]
   have:qx * qx + qy * qy = px * px + py * py:=by omega
   rw [this]
 ·have e:¬ 0 - dot ≤ 0:=by omega
  rw [if_neg h1]
  by_cases f:size ≤ 0 - dot
  ·rw [if_pos f]
   simp only [e,f,decide_true,decide_false,Bool.false_eq_true,if_false,if_true,Aa]
   rw [if_neg (by simp),if_neg (by simp; omega)]
   rfl
  ·rw [if_neg f]
   simp only [e,f,decide_true,decide_false,Bool.false_eq_true,if_false,if_true,Aa]
   rw [if_pos (by simp; omega),RQ _ _ (by omega) (by omega) (by omega) (by omega)]
   rfl
theorem ZX {β R:Type} (f:Nat → List β → Int → Ae R) (n B:Nat) (p:Nat → Bool) (g:Nat → β) (rest:List β → Ae R) (hn:n < 4611686018427387904)
  (v:∀ m s k,k < n → s.length < B → f (m + 1) s (k:Int) = f m (if p k then s ++ [g k] else s) ((k + 1:Nat):Int)) (he:∀ m s,f (m + 1) s (n:Int) = rest s) :
  ∀ (k:Nat) (s:List β),k ≤ n → s.length + (n - k) ≤ B → f FU s (k:Int) = rest (s ++ ((List.range' k (n - k)).filter p).map g):=by
 have ac:∀ d k m s,n - k = d → k ≤ n → n - k < m → s.length + (n - k) ≤ B → f m s (k:Int) = rest (s ++ ((List.range' k (n - k)).filter p).map g):=by
  intro d
  induction d with
  | zero =>
   intro k m s l h hm e
   have:k = n:=by omega
   subst this
   cases m with
   | zero=>omega
   | succ m=>rw [he]; simp
  | succ d u =>
   intro k m s l h hm e
   cases m with
   | zero=>omega
   | succ m =>
    rw [v m s k (by omega) (by omega),l,List.range'_succ,List.filter_cons]
    cases hp:p k with
    | false =>
     simp only [Bool.false_eq_true,if_false]
     rw [u (k + 1) m s (by omega) (by omega) (by omega) (by omega),show n - (k + 1) = d by omega]
    | true =>
     simp only [if_true,List.map_cons]
     rw [u (k + 1) m (s ++ [g k]) (by omega) (by omega) (by omega) (by simp; omega),show n - (k + 1) = d by omega]
     simp
 exact fun k s h e=>ac _ k FU s rfl h (D4 (by omega)) e
def Sj (u v:Ga) (least:Int):Bool:=decide (Ag (Ag (least * least) * (TU u v).2) ≤ (TU u v).1)
def IA (u:Ga):Prop:=CX u.1 = true ∧ CX u.2.1 = true
theorem TY (u v:Ga) (e:Int) (g:IA u) (f:IA v):IG u v e = some (Sj u v e):=by
 unfold IG Sj
 rw [Tt u v g.1 g.2 f.1 f.2]
 rfl
theorem Xj (u v:Ga) (e:Int) (g:IA u) (f:IA v):Kr u v e = some (Sj u v e):=by
 unfold Kr Sj
 rw [VU u v g.1 g.2 f.1 f.2]
 rfl
theorem LP {a e f:Int}:BN a e f = true ↔ e ≤ a ∧ a ≤ f:=by simp [BN]
abbrev GA:=List (Int × Int)
abbrev Adj:=Int × (List Aj)
def G6 (u:Int × Int):Bool:=BN u.1 1 12 && BN u.2 40 220
def Gf (x:GA):Bool:=BN (x.length:Int) 1 40 && x.all G6
theorem TM (u:Int × Int):ID u = some (G6 u):=by
 unfold ID Bk G6
 dsimp only
 rw [CU,Aa,CU,Aa]
 cases BN u.1 1 12 <;> simp
theorem RR (x:GA) (h:x.length < 4611686018427387904):Jg x = some (Gf x):=by
 unfold Jg Gf
 rw [N1 (FD x) x G6 (some (BN (x.length:Int) 1 40)) (some false) h (fun m k u f e=>?_) (fun m=>?_)]
 ·cases x.all G6 <;> simp
 ·rw [FD,if_pos (by simp; omega),AY,e,Aa,TM,Aa,AD (by omega)]
  cases G6 u <;> simp
 ·rw [FD,if_neg (by simp),CU]
  rfl
theorem QS (x:GA) (h:x.length < 4611686018427387904):I6 x = some (Gf x):=by
 unfold I6 Gf
 rw [N1 (Fl x) x G6 (some (BN (x.length:Int) 1 40)) (some false) h (fun m k u f e=>?_) (fun m=>?_)]
 ·cases x.all G6 <;> simp
 ·rw [Fl,if_pos (by simp; omega),AY,e,Aa]
  unfold Bk G6
  dsimp only
  rw [CT,Aa,CT,Aa,AD (by omega)]
  cases BN u.1 1 12 <;> cases BN u.2 40 220 <;> simp
 ·rw [Fl,if_neg (by simp),CT]
  rfl
def Si (x:GA):Int:=x.foldl (fun a u=>Ag (a + u.1)) 0
theorem Vn (x:GA) (h:x.length < 4611686018427387904):Jx x = some (Si x):=by
 unfold Jx Si
 rw [Wv (E9 x) x (fun a u=>Ag (a + u.1)) some h (fun m s k u f e=>?_) (fun m s=>?_)]
 ·rw [E9,if_pos (by simp; omega),AY,e,Aa,AD (by omega)]
 ·rw [E9,if_neg (by simp)]
theorem Vp (x:GA) (h:x.length < 4611686018427387904):J1 x = some (Si x):=by
 unfold J1 Si
 rw [Wv (EB x) x (fun a u=>Ag (a + u.1)) some h (fun m s k u f e=>?_) (fun m s=>?_)]
 ·rw [EB,if_pos (by simp; omega),AY,e,Aa,AD (by omega)]
 ·rw [EB,if_neg (by simp)]
theorem LQ {x:GA} (h:Gf x = true):1 ≤ x.length ∧ x.length ≤ 40 ∧ x.all G6 = true:=by
 unfold Gf at h
 rw [Cf,LP] at h
 exact ⟨by omega,by omega,h.2⟩
structure CueLens (x:GA) (l:List Adj):Prop where
 hx:x.length < 4611686018427387904
 hl:l.length < 1073741824
 hn:∀ c ∈ l,c.2.length < 4611686018427387904
theorem CueLens.hl' {x:GA} {l:List Adj} (h:CueLens x l):l.length < 4611686018427387904:=by have:=h.hl; omega
theorem Y7 (x:GA):∀ (m:Nat) (a b c:Int),G4 x m a b c = Di x m a b c:=by
 intro m
 induction m with
 | zero=>intro a b c; rfl
 | succ m e =>
  intro a b c
  rw [G4,Di]
  split
  ·cases AL x c with
   | none=>rfl
   | some u =>
    simp only [Aa,H1,e]
    by_cases h:u.2 = 0 <;> simp [h]
  ·rfl
theorem TX (x:GA) (c:Int):Jm x c = FJ x c:=by
 unfold Jm FJ
 exact Y7 x FU c 0 0
theorem Y6 (x:GA) (g:x.all G6 = true) (hl:x.length < 4611686018427387904) (c:Int):∃ t,FJ x c = some t:=by
 unfold FJ
 have aa:∀ d k m (a b:Int),x.length - k = d → k ≤ x.length → x.length - k < m → ∃ t,Di x m a b (k:Int) = some t:=by
  intro d
  induction d with
  | zero =>
   intro k m a b s v h
   cases m with
   | zero=>omega
   | succ m =>
    rw [Di,if_neg (by simp; omega)]
    exact ⟨_,rfl⟩
  | succ d u =>
   intro k m a b s v h
   cases m with
   | zero=>omega
   | succ m =>
    have e:k < x.length:=by omega
    have f:=List.all_eq_true.1 g x[k] (List.getElem_mem e)
    unfold G6 at f
    rw [Cf,LP,LP] at f
    have l:¬ x[k].2 = 0:=by omega
    rw [Di,if_pos (by simp; omega),Js e,Aa]
    simp only [H1,if_neg l,Aa,AD (k:=k) (by omega)]
    split
    ·exact ⟨_,rfl⟩
    ·exact u (k + 1) m _ _ (by omega) (by omega) (by omega)
 exact aa _ 0 FU c 0 rfl (by omega) (D4 (by omega))
def Rs (x:GA) (c:Int):Int:=(FJ x c).getD 0
theorem OQ (x:GA) (h:Gf x = true) (c:Int):FJ x c = some (Rs x c):=by
 obtain ⟨h1,g,f⟩:=LQ h
 obtain ⟨t,e⟩:=Y6 x f (by omega) c
 unfold Rs
 rw [e]
 rfl
theorem Xp (x:GA) (h:Gf x = true) (c:Int):Jm x c = some (Rs x c):=by
 rw [TX,OQ x h]
def rd (x c:Int):Int:=Int.tdiv (2 * x + c) (2 * c)
def KG (L:List (List Aj)):List Aj:=(L.map (· ++ [10])).flatten
theorem Yh (a:List Aj) (L:List (List Aj)):KG (a :: L) = a ++ 10 :: KG L:=by
 unfold KG
 rw [List.map_cons,List.flatten_cons,List.append_assoc]
 rfl
theorem Wy (L M:List (List Aj)):KG (L ++ M) = KG L ++ KG M:=by
 unfold KG
 rw [List.map_append,List.flatten_append]
theorem Vb (B:Nat):∀ (L:List (List Aj)),(∀ a ∈ L,a.length ≤ B) → (KG L).length ≤ (B + 1) * L.length
 | [],_=>by simp [KG]
 | a :: L,h=>by
  have f:=Vb B L fun b e=>h b (List.mem_cons_of_mem _ e)
  have g:=h a (by simp)
  rw [Yh,CM,List.length_cons,List.length_cons,Nat.mul_add]
  omega
theorem Acs {α:Type} (l:List α) {j k:Nat} (h:j ≤ k) (e:k ≤ l.length):sl l (j:Int) (k:Int) = some ((l.take k).drop j):=by
 unfold sl
 rw [if_pos (by omega)]
 simp
theorem Ads {α:Type} {l:List α} {k:Nat} (h:k < l.length) {e:Nat} (f:e ≤ k):l.drop e = (l.take k).drop e ++ l[k] :: l.drop (k + 1):=by
 conv=>lhs; rw [← List.take_append_drop k l]
 rw [List.drop_append_of_le_length (by simp; omega),List.drop_eq_getElem_cons h]
theorem SV (l:List Aj) (c:Aj) (hl:l.length ≤ 4194304):FN l (c.toNat:Int) = some (CZ c l):=by
 unfold FN
 have aj:∀ (d k m f:Nat) (s:List (List Aj)),l.length - k = d → k ≤ l.length → d < m → f ≤ k → c ∉ (l.take k).drop f → s ++ CZ c (l.drop f) = CZ c l →
   Fc l (c.toNat:Int) m s (f:Int) (k:Int) = some (CZ c l):=by
  have hn:(CZ c l).length ≤ l.length + 1:=by
   have:=List.count_le_length (a:=c) (l:=l)
   rw [Jo]; omega
  intro d
  induction d with
  | zero =>
   intro k m f s hd hk hm v u g
   have:k = l.length:=by omega
   subst this
   have ai:s.length ≤ l.length + 1:=by rw [← g,CM] at hn; omega
   rw [List.take_length] at u
   cases m with
   | zero=>omega
   | succ m=>rw [Fc,if_neg (by simp),Tb _ v,Aa,Bt (by simp; omega),Aa,← g,OL u]
  | succ d ih =>
   intro k m f s hd hk hm v u g
   have aa:k < l.length:=by omega
   have ai:s.length ≤ l.length + 1:=by rw [← g,CM] at hn; omega
   have ab:=Ads aa v
   cases m with
   | zero=>omega
   | succ m =>
    rw [Fc,if_pos (by simp; omega)]
    unfold Gn
    dsimp only
    rw [Js aa,Aa]
    by_cases h:l[k] = c
    ·rw [h,if_pos (by simp),Acs _ v hk,Aa,Bt (by simp; omega),Aa,AD (by omega)]
     refine ih (k + 1) m (k + 1) _ (by omega) (by omega) (by omega) (by omega) ?_ ?_
     ·rw [List.drop_eq_nil_of_le (by simp; omega)]; simp
     ·rw [h] at ab
      rw [← g,ab,OM u,List.append_assoc]
      rfl
    ·rw [if_neg (by simpa using MS h),AD (by omega)]
     refine ih (k + 1) m f s (by omega) (by omega) (by omega) (by omega) ?_ g
     rw [List.take_succ_eq_append_getElem aa,List.drop_append_of_le_length (by simp; omega),AX,not_or]
     exact ⟨u,by simpa using fun e=>h e.symm⟩
 exact aj l.length 0 FU 0 [] rfl (by omega) (D4 (by omega)) (by omega) (by simp) (by simp)
def D5 (l:List Aj):List (List Aj):=if l = [] then [] else CZ 10 (l.take (l.length - 1))
theorem SU (c:Aj):∀ A:List Aj,CZ c (A ++ [c]) = CZ c A ++ [[]]
 | []=>by simp [CZ]
 | b :: A=>by
  rw [List.cons_append,CZ,CZ,SU c A]
  by_cases h:b = c
  ·rw [if_pos h,if_pos h]; rfl
  ·rw [if_neg h,if_neg h]
   cases e:CZ c A with
   | nil=>have:=Jo c A; rw [e] at this; simp at this
   | cons a t=>rfl
theorem RX {l:List Aj} (h:l = [] ∨ l.getLast? = some 10):CZ 10 l = D5 l ++ [[]]:=by
 unfold D5
 by_cases e:l = []
 ·rw [if_pos e,e]; rfl
 ·rw [if_neg e]
  obtain ⟨b,_,f,g⟩:=TV e
  have m:b = 10:=by
   rcases h with h | h
   ·exact absurd h e
   ·rw [f] at h; exact Option.some.inj h
  subst m
  conv=>lhs; rw [g]
  exact SU 10 _
theorem PQ {l:List Aj} (h:l = [] ∨ l.getLast? = some 10):(D5 l).length = PS l:=by
 have h1:=congrArg List.length (RX h)
 rw [Jo,CM] at h1
 unfold PS
 simpa using h1.symm
theorem Yf {l a:List Aj} (h:a ∈ D5 l):a.length ≤ l.length:=by
 have s:∀ (m:List Aj),∀ b ∈ CZ 10 m,b.length ≤ m.length:=by
  intro m
  induction m with
  | nil=>intro b e; simp [CZ] at e; simp [e]
  | cons x m f =>
   intro b e
   rw [CZ] at e
   split at e
   ·rcases List.mem_cons.1 e with rfl | e
    ·simp
    ·have:=f b e; simp; omega
   ·cases g:CZ 10 m with
    | nil=>have:=Jo 10 m; rw [g] at this; simp at this
    | cons a t =>
     rw [g] at e f
     rcases List.mem_cons.1 e with rfl | e
     ·have:=f a (List.mem_cons_self ..); simp; omega
     ·have:=f b (List.mem_cons_of_mem _ e); simp; omega
 unfold D5 at h
 split at h
 ·cases h
 ·have:=s _ a h
  simp at this
  omega
def N9 (l:List Aj):List (List Aj) × Bool:=if GQ l = true then (D5 l,true) else ([],false)
theorem GP {l:List Aj}:GQ l = true ↔ l.length ≤ 2000 ∧ (l = [] ∨ l.getLast? = some 10) ∧ PS l ≤ 40:=by
 unfold GQ
 simp [and_assoc]
theorem Yo (l:List Aj) (hl:l.length ≤ 4194304):JM l = some (N9 l):=by
 unfold JM Bk N9
 dsimp only
 by_cases h1:l.length ≤ 2000
 ·rw [if_neg (by simp; omega)]
  have v (e:l = [] ∨ l.getLast? = some 10):(Option.bind (FN l 10) fun m=>Option.bind (sl m 0 (Ag ((List.length m:Int) - 1))) fun u=>(if (decide (40 < (List.length u:Int))) = true then some (([]:List (List Aj)),false) else some (u,true))) = some (if GQ l = true then (D5 l,true) else ([],false)):=by
   have hs:FN l 10 = some (CZ 10 l):=SV l 10 hl
   have hc:PS l ≤ l.length:=List.count_le_length
   have hL:=PQ e
   rw [hs,Aa,RX e,CM,List.length_singleton,A6 (by omega) (by omega),show (((D5 l).length + 1:Nat):Int) - 1 = ((D5 l).length:Int) by omega,Tq _ (by simp),Aa,List.take_left']
   ·by_cases s:PS l ≤ 40
    ·rw [if_neg (by simp; omega),if_pos (GP.2 ⟨h1,e,s⟩)]
    ·rw [if_pos (by simp; omega),if_neg (fun h=>s (GP.1 h).2.2)]
   ·rfl
  by_cases e:l = []
  ·rw [if_neg (by simp [e]),if_neg (by simp)]
   exact v (.inl e)
  ·obtain ⟨b,hb,g,_⟩:=TV e
   rw [if_pos (by simp [e]),A6 (by omega) (by omega),hb,Aa]
   by_cases f:b = 10
   ·subst f
    rw [if_neg (by decide)]
    exact v (.inr g)
   ·have ad:((b.toNat:Nat):Int) ≠ 10:=MS (c:=10) f
    rw [if_pos (by simpa using ad),if_neg (fun h=>?_)]
    rcases (GP.1 h).2.1 with h | h
    ·exact e h
    ·rw [g] at h; exact f (Option.some.inj h)
 ·rw [if_pos (by simp; omega),if_pos rfl,if_neg (fun h=>h1 (GP.1 h).1)]
theorem Ye (l:List Aj) (v:l.length ≤ 4194304):JU l = some (if l = [] ∨ l.getLast? = some 10 then (D5 l,true) else ([],false)):=by
 unfold JU D5
 by_cases e:l = []
 ·rw [if_pos (by simp [e]),if_pos (.inl e),if_pos e]
 ·obtain ⟨b,s,g,hd⟩:=TV e
  have aa:0 < l.length:=List.length_pos_iff.2 e
  rw [if_neg (by simpa using e),A6 (by omega) (by omega),s,Aa,if_neg e]
  by_cases f:b = 10
  ·subst f
   have m:Gb (l.take (l.length - 1)) [10] = some (CZ 10 (l.take (l.length - 1))):=X4 _ 10 (by simp; omega)
   rw [if_neg (by decide),show (l.length:Int) - 1 = ((l.length - 1:Nat):Int) by omega,Tq _ (by omega),Aa,m,Aa,if_pos (.inr g)]
  ·have u:((b.toNat:Nat):Int) ≠ 10:=MS (c:=10) f
   rw [if_pos (by simpa using u),if_neg]
   rintro (h | h)
   ·exact e h
   ·rw [g] at h; exact f (Option.some.inj h)
theorem TQ (l:List Aj) (g:l.length ≤ 4194304):HH l = some (N9 l):=by
 unfold HH Bk N9
 rw [Ye l g,Aa]
 by_cases e:l = [] ∨ l.getLast? = some 10
 ·rw [if_pos e]
  dsimp only
  rw [if_neg (by simp)]
  have m:=PQ e
  by_cases h1:l.length ≤ 2000
  ·rw [if_neg (by simp; omega)]
   by_cases f:PS l ≤ 40
   ·rw [if_neg (by simp; omega),if_pos (GP.2 ⟨h1,e,f⟩)]
   ·rw [if_pos (by simp; omega),if_neg (fun h=>f (GP.1 h).2.2)]
  ·rw [if_pos (by simp; omega),if_pos rfl,if_neg (fun h=>h1 (GP.1 h).1)]
 ·rw [if_neg e]
  dsimp only
  rw [if_pos (by simp),if_pos rfl,if_neg (fun h=>e (GP.1 h).2.1)]
def Lf (l:List Aj):Int:=if l = [] ∨ 6 < l.length ∨ (1 < l.length ∧ l[0]? = some 48) then -1 else if l.all Hv then OU l else -1
theorem YQ (l:List Aj) (h9:l.length ≤ 6):∀ (d i m:Nat) (n:Int),l.length - i = d → i ≤ l.length → d < m → 0 ≤ n → n < 10 ^ i →
  FE l m n (i:Int) = some (if (l.drop i).all Hv then (l.drop i).foldl (fun a b=>10 * a + ((b.toNat:Int) - 48)) n else -1):=by
 intro d
 induction d with
 | zero =>
  intro i m n u v s f h1
  have:i = l.length:=by omega
  subst this
  cases m with
  | zero=>omega
  | succ m =>
   rw [FE,if_neg (by simp),List.drop_length]
   rfl
 | succ d ih =>
  intro i m n u v s f h1
  cases m with
  | zero=>omega
  | succ m =>
   have g:i < l.length:=by omega
   have hb:=W5 (l.drop i) n i f h1 (by simp; omega)
   rw [FE,if_pos (by simp; omega)]
   unfold Bk
   dsimp only
   rw [Js g,Aa,Aa]
   rw [List.drop_eq_getElem_cons g,List.all_cons,List.foldl_cons]
   by_cases e:Hv l[i] = true
   ·have aa:=Ke.1 e
    rw [if_neg (by simp; omega),Aa,if_neg (by simp; omega),e,Bool.true_and,UM e,A6 (x:=10 * n) (by omega) (by omega),A6 (x:=10 * n + _) (by omega) (by omega),AD (by omega)]
    refine ih (i + 1) m _ (by omega) (by omega) (by omega) (by omega) ?_
    rw [Int.pow_succ]
    omega
   ·have aa:¬ (48 ≤ l[i].toNat ∧ l[i].toNat ≤ 57):=fun x=>e (Ke.2 x)
    have h:Hv l[i] = false:=by simpa using e
    rw [h,Bool.false_and,if_neg (c:=false = true) (by simp)]
    by_cases ac:l[i].toNat < 48
    ·rw [if_pos (by simp; omega),if_pos rfl]
    ·rw [if_neg (by simp; omega),Aa,if_pos (by simp; omega)]
theorem Zm (l:List Aj) (h:l.length < 4611686018427387904):Kp l = some (Lf l):=by
 unfold Kp Lf Bk
 dsimp only
 rw [CU,Aa]
 by_cases f:l = []
 ·rw [if_pos (by simp [f,BN]),if_pos rfl,if_pos (Or.inl f)]
 ·have v:0 < l.length:=List.length_pos_iff.2 f
  by_cases m:6 < l.length
  ·have e:BN (l.length:Int) 1 6 = false:=by rw [← Bool.not_eq_true,DB]; omega
   rw [e,if_pos (c:=(!false) = true) rfl,if_pos rfl,if_pos (Or.inr (Or.inl m))]
  ·have e:BN (l.length:Int) 1 6 = true:=by rw [DB]; omega
   rw [e,if_neg (by simp),Sw,Cp v,Aa]
   have s:=YQ l (by omega) l.length 0 FU 0 rfl (by omega) (D4 (by omega)) (by omega) (by simp)
   rw [show ((0:Nat):Int) = 0 by rfl] at s
   by_cases g:l[0] = 48
   ·rw [g,if_pos (by decide)]
    by_cases h1:1 < l.length
    ·rw [if_pos (by simp; omega),if_pos (Or.inr (Or.inr ⟨h1,rfl⟩))]
    ·have u:¬ (l = [] ∨ 6 < l.length ∨ (1 < l.length ∧ some (48:Aj) = some 48)):=by
      rintro (e | e | ⟨e,_⟩)
      ·exact f e
      ·exact m e
      ·exact h1 e
     rw [if_neg (by simp; omega),s,if_neg u]
     rfl
   ·have:((l[0].toNat:Int) == 48) = false:=by
     rw [beq_eq_false_iff_ne]
     exact MS (c:=48) g
    have u:¬ (l = [] ∨ 6 < l.length ∨ (1 < l.length ∧ some l[0] = some 48)):=by
     rintro (e | e | ⟨_,e⟩)
     ·exact f e
     ·exact m e
     ·exact g (Option.some.inj e)
    rw [this,if_neg (by simp),if_neg (by simp),s,if_neg u]
    rfl
theorem XB:∀ (l:List Aj) (a:Int),(∀ b ∈ l,Hv b = true) → 0 ≤ a → a * (10:Int) ^ l.length ≤ l.foldl (fun a b=>10 * a + ((b.toNat:Int) - 48)) a
 | [],a,_,_=>by simp
 | b :: l,a,h,h0=>by
  have g:=Ke.1 (h b (List.mem_cons_self ..))
  have e:=XB l (10 * a + ((b.toNat:Int) - 48)) (fun x f=>h x (List.mem_cons_of_mem _ f)) (by omega)
  rw [List.foldl_cons,List.length_cons]
  refine Int.le_trans ?_ e
  rw [Int.pow_succ,Int.mul_comm ((10:Int) ^ l.length) 10,← Int.mul_assoc,Int.mul_comm a 10]
  exact Int.mul_le_mul_of_nonneg_right (by omega) (Int.pow_nonneg (by omega))
def Pp (l:List Aj):Ae Int:=if BN (Lf l) 0 99999 = true then some (Lf l) else none
theorem Xn {l:List Aj} (h:BN (Lf l) 0 99999 = true):Mb l = (Lf l,true) ∧ Lf l ≤ 99999:=by
 have f:=DB.1 h
 refine ⟨?_,f.2⟩
 unfold Mb
 unfold Lf at f ⊢
 split at f
 ·omega
 ·rename_i e
  rw [not_or,not_or] at e
  split at f
  ·rename_i g
   rw [if_neg (by rw [not_or,not_or]; exact ⟨e.1,by omega,e.2.2⟩),if_pos g,if_neg (by rw [not_or,not_or]; exact e),if_pos g]
  ·omega
theorem Wn {l:List Aj} (h:BN (Lf l) 0 99999 = false):(Mb l).2 = false ∨ 99999 < (Mb l).1:=by
 unfold Mb
 split
 ·exact .inl rfl
 ·rename_i g
  rw [not_or,not_or] at g
  split
  ·rename_i u
   right
   show 99999 < OU l
   have m:∀ b ∈ l,Hv b = true:=List.all_eq_true.1 u
   by_cases v:6 < l.length
   ·cases l with
    | nil=>exact absurd rfl g.1
    | cons b t =>
     have hb:=Ke.1 (m b (List.mem_cons_self ..))
     have aa:b ≠ 48:=fun e=>g.2.2 ⟨by omega,by rw [e]; rfl⟩
     have ak:49 ≤ b.toNat:=by
      rcases Nat.lt_or_ge b.toNat 49 with f | f
      ·exact absurd (UInt8.toNat_inj.1 (show b.toNat = (48:Aj).toNat by show b.toNat = 48; omega)) aa
      ·exact f
     have hl:=XB t (10 * 0 + ((b.toNat:Int) - 48)) (fun x hx=>m x (List.mem_cons_of_mem _ hx)) (by omega)
     unfold OU
     rw [List.foldl_cons]
     refine Int.lt_of_lt_of_le ?_ hl
     have hp:(10:Int) ^ 6 ≤ (10:Int) ^ t.length:=by
      have h2:(10:Nat) ^ 6 ≤ 10 ^ t.length:=Nat.pow_le_pow_right (by omega) (by simp at v; omega)
      have s:=Int.ofNat_le.2 h2
      rw [Int.natCast_pow,Int.natCast_pow] at s
      exact s
     have e6:(10:Int) ^ 6 = 1000000:=by decide
     have hm:1 * (10:Int) ^ t.length ≤ (10 * 0 + ((b.toNat:Int) - 48)) * (10:Int) ^ t.length:=Int.mul_le_mul_of_nonneg_right (by omega) (by omega)
     omega
   ·have e:Lf l = OU l:=by
     unfold Lf
     rw [if_neg (by rw [not_or,not_or]; exact ⟨g.1,v,g.2.2⟩),if_pos u]
    have h0:=(Zf l 0 m (by omega)).1
    rw [e] at h
    rcases Int.lt_or_le 99999 (OU l) with f | f
    ·exact f
    ·rw [show BN (OU l) 0 99999 = true from DB.2 ⟨h0,f⟩] at h; cases h
  ·exact .inl rfl
def IX {α β:Type} (g:α → Ae β):List α → Ae (List β)
 | []=>some []
 | x :: t=>(g x).bind fun y=>(IX g t).map (y :: ·)
theorem Wu {α β:Type} {g:α → Ae β}:∀ {l:List α} {m:List β},IX g l = some m → m.length = l.length
 | [],m,h=>by cases h; rfl
 | x :: t,m,h=>by
  rw [IX,Option.bind_eq_some_iff] at h
  obtain ⟨y,_,h⟩:=h
  rw [Option.map_eq_some_iff] at h
  obtain ⟨f,e,rfl⟩:=h
  simp [Wu e]
theorem Wt {α β:Type} {g:α → Ae β} {p:β → Prop} (f:∀ x y,g x = some y → p y):∀ {l:List α} {m:List β},IX g l = some m → ∀ y ∈ m,p y
 | [],m,h,y,e=>by cases h; cases e
 | x :: t,m,h,y,e=>by
  rw [IX,Option.bind_eq_some_iff] at h
  obtain ⟨z,s,h⟩:=h
  rw [Option.map_eq_some_iff] at h
  obtain ⟨v,u,rfl⟩:=h
  rcases List.mem_cons.1 e with rfl | e
  ·exact f _ _ s
  ·exact Wt f u y e
theorem VB {α β R:Type} (f:Nat → List β → Int → Ae R) (l:List α) (g:α → Ae β) (rest:List β → Ae R) (u:Ae R) (hn:l.length < 4611686018427387904)
  (hs:∀ (m k:Nat) e x,l[k]? = some x → e.length = k → f (m + 1) e (k:Int) = match g x with
   | none=>u
   | some y=>f m (e ++ [y]) ((k + 1:Nat):Int))
  (he:∀ m e,e.length = l.length → f (m + 1) e (l.length:Int) = rest e):f FU [] 0 = match IX g l with
   | none=>u
   | some h=>rest h:=by
 have ai:∀ d k m e,l.length - k = d → k ≤ l.length → d < m → e.length = k → f m e (k:Int) = match IX g (l.drop k) with
   | none=>u
   | some h=>rest (e ++ h):=by
  intro d
  induction d with
  | zero =>
   intro k m e hd hk hm s
   have:k = l.length:=by omega
   subst this
   cases m with
   | zero=>omega
   | succ m=>rw [he m e s,List.drop_length,IX]; simp
  | succ d ih =>
   intro k m e hd hk hm s
   have v:k < l.length:=by omega
   cases m with
   | zero=>omega
   | succ m =>
    rw [hs m k e l[k] (Cp v) s,List.drop_eq_getElem_cons v,IX]
    cases hg:g l[k] with
    | none=>rfl
    | some y =>
     dsimp only
     rw [ih (k + 1) m _ (by omega) (by omega) (by omega) (by simp [s]),Aa]
     cases IX g (l.drop (k + 1)) with
     | none=>rfl
     | some h=>simp
 have:=ai l.length 0 FU [] rfl (by omega) (D4 hn) rfl
 simpa using this
def Pc (w:List Aj):Int:=(GC w).getD 0
theorem Ac5 {R:Type} {c:Prop} [Decidable c] {a b:Ae R} (e:∃ n,a = some n) (f:∃ n,b = some n):∃ n,(if c then a else b) = some n:=by
 split
 ·exact e
 ·exact f
theorem Ac4 {A R:Type} {rest:A → Ae R} {e:(A → Ae R) → Ae R} (h:∀ y,∃ n,rest y = some n) (f:∀ k,(∀ y,∃ n,k y = some n) → ∃ n,e k = some n):∃ n,Bk rest e = some n:=f rest h
theorem Tz (w:List Aj):GC w = some (Pc w):=by
 have:∃ n,GC w = some n:=by
  unfold GC
  repeat' first
   | refine Ac5 ?_ ?_
   | exact e _
   | refine Ac4 (fun y=>?_) (fun k e=>?_)
   | exact ⟨_,rfl⟩
 obtain ⟨n,h⟩:=this
 unfold Pc
 rw [h]
 rfl
theorem TJ (w:List Aj):J0 w = some (Pc w):=Tz w
def SN:List Aj:=[115,112,111,116]
def Q7:List Aj:=[112,108,97,99,101]
def Pk:List Aj:=[109,105,114,114,111,114]
def SP:List Aj:=[107,101,101,112]
def Pl:List Aj:=[99,111,117,110,116,115]
def NJ:List Aj:=[109,101,97,115,117,114,101]
def QA:List Aj:=[99,97,114,114,121]
def NH:List Aj:=[118,101,114,115,105,111,110]
def VK:List Aj:=[115,117,109]
def Q9:List Aj:=[99,108,111,115,101]
def SO:List Aj:=[107,105,110,100]
def Q8:List Aj:=[108,101,97,115,116]
def SL:List Aj:=[116,105,109,101]
def VJ:List Aj:=[119,104,111]
def Q6:List Aj:=[115,116,97,116,101]
def SM:List Aj:=[116,101,120,116]
def NI:List Aj:=[115,111,117,110,100]
def Ja:List (List Aj):=[SN,Q7,Pk,SP,Pl]
def Pd:List (List Aj):=[NJ,QA,NH]
def LJ:List (List Aj):=[VK,Q9,SO,Q8,SL,VJ,Q6,SM,NI]
theorem ZZ {w:List Aj} (h:Pc w ≠ -1):w ∈ Ja ++ Pd ++ LJ:=by
 refine Classical.byContradiction fun f=>h ?_
 simp only [Ja,Pd,LJ,SN,Q7,Pk,SP,Pl,NJ,QA,NH,VK,Q9,SO,Q8,SL,VJ,Q6,SM,NI,List.cons_append,List.nil_append,List.mem_cons,List.not_mem_nil,or_false,not_or] at f
 obtain ⟨h1,h2,h3,v,h5,h6,h7,g,m,s,ai,ad,ac,l,aj,u,ab⟩:=f
 have e {a:List Aj} (h:¬ w = a):(w == a) = false:=beq_eq_false_iff_ne.2 h
 unfold Pc GC Bk
 rw [e h1,e h2,e h3,e v,e h5,e h6,e h7,e g,e m,e s,e ai,e ad,e ac,e l,e aj,e u,e ab]
 rfl
theorem I9 {l:List (Int × Int)}:Cv l = true ↔ (1 ≤ l.length ∧ l.length ≤ 12) ∧ (∀ s ∈ l,CX s = true) ∧ l.Nodup:=by
 unfold Cv
 rw [Cf,DB,List.all_eq_true]
 constructor
 ·rintro ⟨h1,g⟩
  refine ⟨by omega,fun s hs=>?_,?_⟩
  ·obtain ⟨k,h⟩:=List.getElem?_of_mem hs
   have:=g k (List.mem_range.2 (List.getElem?_eq_some_iff.1 h).1)
   rw [Ob h,Cf] at this
   exact this.1
  ·rw [List.nodup_iff_pairwise_ne,List.pairwise_iff_getElem]
   intro i j hi v ad e
   have:=g j (List.mem_range.2 v)
   rw [Ob (Cp v),Cf,List.all_eq_true] at this
   have f:=this.2 l[i] (List.mem_take_iff_getElem.2 ⟨i,by omega,rfl⟩)
   simp [e] at f
 ·rintro ⟨h1,g,f⟩
  refine ⟨by omega,fun k h=>?_⟩
  have m:=List.mem_range.1 h
  rw [Ob (Cp m),Cf,List.all_eq_true]
  refine ⟨g _ (List.getElem_mem m),fun u hu=>?_⟩
  obtain ⟨i,hi,rfl⟩:=List.mem_take_iff_getElem.1 hu
  rw [List.nodup_iff_pairwise_ne,List.pairwise_iff_getElem] at f
  have:=f i k (by omega) m (by omega)
  simpa using fun e=>this e.symm
theorem Dc {l:List (Int × Int)} (h:Cv l = true):1 ≤ l.length ∧ l.length ≤ 12:=(I9.1 h).1
def Py (l:List (Int × Int)):List (Int × Int) × Bool:=if Cv l = true then (l,true) else ([],false)
theorem UP (l:List (Int × Int)) (e:l.length < 4611686018427387904):Hg l = some (Py l):=by
 unfold Hg Py
 rw [J5 l e,Aa]
 cases Cv l <;> rfl
theorem RY (l:List (Int × Int)) (e:l.length < 4611686018427387904):Gk l = some (Py l):=by
 unfold Gk Py
 rw [GR l e,Aa]
 cases Cv l <;> rfl
def Nb (s:Int × Int):Int × Int:=(1280 - s.1,s.2)
theorem Acp {l:List (Int × Int)} (h:Cv l = true):Cv (l.map Nb) = true:=by
 obtain ⟨h1,v,f⟩:=I9.1 h
 refine I9.2 ⟨by simpa using h1,fun s g=>?_,?_⟩
 ·obtain ⟨u,m,rfl⟩:=List.mem_map.1 g
  have:=FM.1 (v u m)
  exact FM.2 ⟨by unfold Nb; dsimp only; omega,this.2⟩
 ·rw [List.nodup_iff_pairwise_ne,List.pairwise_map]
  rw [List.nodup_iff_pairwise_ne] at f
  refine f.imp fun {a b} hab e=>hab ?_
  obtain ⟨a1,a2⟩:=a
  obtain ⟨b1,b2⟩:=b
  simp only [Nb,Prod.mk.injEq] at e ⊢
  omega
theorem Sl {l:List (Int × Int)} (h:Cv l = true):HG l = some (l.map Nb,true):=by
 obtain ⟨h1,g,u⟩:=I9.1 h
 unfold HG
 rw [J5 l (by omega),Aa,h,if_neg (by simp)]
 rw [VB (DM l) l (fun s=>if CX s = true then some (Nb s) else none) (fun m=>some (m,true)) none (by omega) (fun m k v x f ha=>?_) (fun m v ha=>?_)]
 ·have:IX (fun s=>if CX s = true then some (Nb s) else none) l = some (l.map Nb):=by
   clear h h1 u
   induction l with
   | nil=>rfl
   | cons a t ih=>rw [IX,if_pos (g a (List.mem_cons_self ..)),Aa,ih (fun s e=>g s (List.mem_cons_of_mem _ e))]; rfl
  rw [this]
 ·have hk:=(List.getElem?_eq_some_iff.1 f).1
  have e:=g x (List.mem_of_getElem? f)
  have ac:=FM.1 e
  rw [DM,if_pos (by simp; omega),AY,f,Aa,if_pos e]
  unfold KH
  rw [Aa,Bt (by simp; omega),Aa,AD (by omega),A6 (by omega) (by omega)]
  rfl
 ·rw [DM,if_neg (by simp)]
theorem Sv {l:List (Int × Int)} (h:Cv l = true):HL l = some (l.map Nb,true):=by
 obtain ⟨h1,g,u⟩:=I9.1 h
 unfold HL
 rw [GR l (by omega),Aa,h,if_neg (by simp)]
 rw [VB (DT l) l (fun s=>if CX s = true then some (Nb s) else none) (fun m=>some (m,true)) none (by omega) (fun m k v x f ha=>?_) (fun m v ha=>?_)]
 ·have:IX (fun s=>if CX s = true then some (Nb s) else none) l = some (l.map Nb):=by
   clear h h1 u
   induction l with
   | nil=>rfl
   | cons a t ih=>rw [IX,if_pos (g a (List.mem_cons_self ..)),Aa,ih (fun s e=>g s (List.mem_cons_of_mem _ e))]; rfl
  rw [this]
 ·have hk:=(List.getElem?_eq_some_iff.1 f).1
  have e:=g x (List.mem_of_getElem? f)
  have ac:=FM.1 e
  rw [DT,if_pos (by simp; omega),AY,f,Aa,if_pos e]
  rw [Bt (by simp; omega),Aa,AD (by omega),A6 (by omega) (by omega)]
  rfl
 ·rw [DT,if_neg (by simp)]
def Lx (l:List (Int × Int)) (p:Int) (s:Int × Int):List (Int × Int) × Bool:=if BN p 0 ((l.length:Int) - 1) = true then Py (BE l p s) else ([],false)
theorem Qu {l:List (Int × Int)} (h:Cv l = true) (p:Int) (s:Int × Int):GF l p s = some (Lx l p s):=by
 have m:=Dc h
 unfold GF Mp Bk Gp Lx
 dsimp only
 rw [J5 l (by omega),h,Aa,if_pos rfl,CU,A6 (by omega) (by omega),Aa,Aa]
 cases g:BN p 0 ((l.length:Int) - 1) with
 | false=>rfl
 | true =>
  have f:=DB.1 g
  have e:p.toNat < l.length:=by omega
  rw [if_neg (by simp),Bt (by simp; omega),Aa,Aa,List.nil_append,Iy f.1,Cp e,Aa,UP _ (by unfold BE; simp; omega),Aa,if_pos rfl]
theorem Abw {l:List (Int × Int)} {p:Int} {s:Int × Int} (f:p.toNat < l.length) (e:CX s = false):Py (BE l p s) = ([],false):=by
 unfold Py BE
 rw [if_neg]
 intro h
 have:=(I9.1 h).2.1 s (List.mem_iff_getElem.2 ⟨p.toNat,by simpa using f,by simp⟩)
 rw [e] at this
 cases this
theorem Qv {l:List (Int × Int)} (h:Cv l = true) (p:Int) (s:Int × Int):GG l p s = some (Lx l p s):=by
 have u:=Dc h
 unfold GG Bk Lx
 dsimp only
 rw [GR l (by omega),h,Aa,if_neg (by simp),CT,A6 (by omega) (by omega),Aa,Lz]
 cases m:BN p 0 ((l.length:Int) - 1) with
 | false=>rfl
 | true =>
  have g:=DB.1 m
  have e:p.toNat < l.length:=by omega
  rw [if_neg (by simp),Aa,if_pos rfl]
  cases f:CX s with
  | false=>rw [Abw e f]; rfl
  | true=>rw [if_neg (by simp),Bt (by simp; omega),Aa,List.nil_append,Iy g.1,Cp e,Aa,RY _ (by unfold BE; simp; omega),Aa]
theorem EN {x:Int} (h1:0 ≤ x) (e:x < 18446744073709551616):Bh x = x:=by
 unfold Bh IntKind.wrap
 simp only [IntKind.bits,IntKind.signed]
 simp only [ge_iff_le,Bool.false_and,Bool.false_eq_true,if_false]
 omega
theorem Z7 (x:Int):Bh x = x % 18446744073709551616:=by
 unfold Bh IntKind.wrap
 simp only [IntKind.bits,IntKind.signed]
 simp only [ge_iff_le,Bool.false_and,Bool.false_eq_true,if_false]
 omega
theorem Ta (n:Nat):Br .u64 (n:Int) 32 = ((n / 4294967296:Nat):Int):=by
 unfold Br
 have e:(2:Int) ^ (min (32:Int).toNat IntKind.u64.bits) = 4294967296:=by decide
 rw [e,Int.fdiv_eq_ediv_of_nonneg _ (by decide)]
 omega
theorem Y0 (n:Nat) (h:n < 18446744073709551616):B4 .u64 (n:Int) 4294967295 = ((n % 4294967296:Nat):Int):=by
 have g:BitVec.ofInt 64 (n:Int) = BitVec.ofNat 64 n:=BitVec.ofInt_natCast ..
 have f:BitVec.ofInt 64 4294967295 = BitVec.ofNat 64 4294967295:=rfl
 have e:(BitVec.ofNat 64 n &&& BitVec.ofNat 64 4294967295).toNat = n % 4294967296:=by
  rw [BitVec.toNat_and,BitVec.toNat_ofNat,BitVec.toNat_ofNat,Nat.mod_eq_of_lt (show n < 2 ^ 64 by omega),Nat.mod_eq_of_lt (show 4294967295 < 2 ^ 64 by omega)]
  exact Nat.and_two_pow_sub_one_eq_mod n 32
 show Bh ((BitVec.ofInt 64 (n:Int) &&& BitVec.ofInt 64 4294967295).toNat:Int) = _
 rw [g,f,e,EN (by omega) (by omega)]
theorem T2 (x y:Nat) (e:x < 18446744073709551616) (f:y < 18446744073709551616):JX (x:Int) (y:Int) = some (((x * y / 18446744073709551616:Nat):Int),((x * y % 18446744073709551616:Nat):Int)):=by
 obtain ⟨h1,g,l,s⟩:=Go.Lib.mul64_hi x y e f
 have u:x * y / 18446744073709551616 < 18446744073709551616:=by
  have:x * y < 18446744073709551616 * 18446744073709551616:=Nat.mul_lt_mul'' e f
  omega
 unfold JX
 rw [Ta,Ta,Y0 x e,Y0 y f]
 simp only [← Int.natCast_mul,EN (x:=((x % 4294967296 * (y % 4294967296):Nat):Int)) (by omega) (by omega),Ta]
 have v:=Go.Lib.half_mul_le (a:=x / 4294967296) (b:=y / 4294967296) (by omega) (by omega)
 have h:=Go.Lib.half_mul_le (a:=x / 4294967296) (b:=y % 4294967296) (by omega) (by omega)
 have m:=Go.Lib.half_mul_le (a:=x % 4294967296) (b:=y / 4294967296) (by omega) (by omega)
 rw [Z7 ((x * y:Nat):Int)]
 generalize (x / 4294967296) * (y / 4294967296) = A at *
 generalize (x / 4294967296) * (y % 4294967296) = B at *
 generalize (x % 4294967296) * (y / 4294967296) = C at *
 generalize (x % 4294967296) * (y % 4294967296) = D at *
 rw [EN (x:=(A:Int)) (by omega) (by omega),EN (x:=(B:Int)) (by omega) (by omega),EN (x:=(C:Int)) (by omega) (by omega)]
 simp only [← Int.natCast_add]
 rw [EN (x:=((B + D / 4294967296:Nat):Int)) (by omega) (by omega),Ta,Y0 _ g]
 simp only [← Int.natCast_add]
 rw [EN (x:=(((B + D / 4294967296) % 4294967296 + C:Nat):Int)) (by omega) (by omega),Ta,EN (x:=((A + (B + D / 4294967296) / 4294967296:Nat):Int)) (by omega) (by omega)]
 simp only [← Int.natCast_add]
 rw [EN (by omega) (by omega)]
 congr 2
 omega
theorem Ac8 (P Q:Nat):(if decide (((P / 18446744073709551616:Nat):Int) < ((Q / 18446744073709551616:Nat):Int)) = true then some true
  else if (((P / 18446744073709551616:Nat):Int) == ((Q / 18446744073709551616:Nat):Int)) = true then some (decide (((P % 18446744073709551616:Nat):Int) < ((Q % 18446744073709551616:Nat):Int))) else some false) = some (decide ((P:Int) < (Q:Int))):=by
 by_cases h1:P / 18446744073709551616 < Q / 18446744073709551616
 ·rw [if_pos (by simp; omega)]
  congr 1
  symm
  simp
  omega
 ·rw [if_neg (by simp; omega)]
  by_cases e:P / 18446744073709551616 = Q / 18446744073709551616
  ·rw [if_pos (by simp; omega)]
   congr 1
   rw [Bool.eq_iff_iff]
   simp
   omega
  ·rw [if_neg (by simp; omega)]
   congr 1
   symm
   simp
   omega
def R1 (a b c d:Int):Bool:=decide (a * d < c * b)
theorem R9 (a b c d:Int) (h:0 ≤ a) (s:a < 18446744073709551616) (e:0 ≤ b) (l:b < 18446744073709551616) (f:0 ≤ c) (m:c < 18446744073709551616) (g:0 ≤ d) (u:d < 18446744073709551616) :
  Fo a b c d = some (R1 a b c d):=by
 obtain ⟨a,rfl⟩:=Int.eq_ofNat_of_zero_le h
 obtain ⟨b,rfl⟩:=Int.eq_ofNat_of_zero_le e
 obtain ⟨c,rfl⟩:=Int.eq_ofNat_of_zero_le f
 obtain ⟨d,rfl⟩:=Int.eq_ofNat_of_zero_le g
 unfold Fo Bk R1
 rw [EN h s,EN g u,EN f m,EN e l,T2 a d (by omega) (by omega),Aa,T2 c b (by omega) (by omega),Aa]
 simp only [← Int.natCast_mul]
 exact Ac8 _ _
theorem Xk (a b c d:Int) (l:0 ≤ a) (am:a ≤ 4000000000000000000) (e:0 < b) (ae:b ≤ 3000000000) (f:0 ≤ c) (an:c ≤ 4000000000000000000) (u:0 < d) (ah:d ≤ 3000000000) :
  Ks a b c d = some (R1 a b c d):=by
 have m:¬ b = 0:=by omega
 have g:¬ d = 0:=by omega
 unfold Ks R1
 rw [if_neg m,if_neg g,if_neg m,if_neg g,if_neg m,if_neg g,Int.tdiv_eq_ediv_of_nonneg l,Int.tdiv_eq_ediv_of_nonneg f,Int.tmod_eq_emod_of_nonneg l,Int.tmod_eq_emod_of_nonneg f]
 have e1:=Int.emod_add_mul_ediv a b
 have e2:=Int.emod_add_mul_ediv c d
 have r1:=Int.emod_nonneg a m
 have r2:=Int.emod_lt_of_pos a e
 have r3:=Int.emod_nonneg c g
 have r4:=Int.emod_lt_of_pos c u
 have q1:=Int.ediv_nonneg l (Int.le_of_lt e)
 have q2:=Int.ediv_nonneg f (Int.le_of_lt u)
 have q3:a / b ≤ a:=Int.ediv_le_self _ l
 have q4:c / d ≤ c:=Int.ediv_le_self _ f
 generalize a / b = p at *
 generalize c / d = q at *
 generalize a % b = r at *
 generalize c % d = s at *
 have hP:0 < b * d:=Int.mul_pos e u
 have ao:b * d ≤ 3000000000 * 3000000000:=Int.mul_le_mul ae ah (by omega) (by omega)
 have f1:a * d = r * d + b * d * p:=by rw [← e1,Int.add_mul,Int.mul_assoc,Int.mul_assoc,Int.mul_comm p d]
 have f2:c * b = s * b + b * d * q:=by rw [← e2,Int.add_mul,Int.mul_comm b d,Int.mul_assoc,Int.mul_assoc,Int.mul_comm q b]
 have g1:0 ≤ r * d:=Int.mul_nonneg r1 (by omega)
 have g2:r * d < b * d:=Int.mul_lt_mul_of_pos_right r2 u
 have g3:0 ≤ s * b:=Int.mul_nonneg r3 (by omega)
 have g4:s * b < d * b:=Int.mul_lt_mul_of_pos_right r4 e
 rw [Int.mul_comm d b] at g4
 have v:∀ x y:Int,x + 1 ≤ y → b * d * x + b * d ≤ b * d * y:=fun x y h=>by
  have:=Int.mul_le_mul_of_nonneg_left h (Int.le_of_lt hP)
  rwa [Int.mul_add,Int.mul_one] at this
 rw [A6 (x:=p) (by omega) (by omega),A6 (x:=q) (by omega) (by omega),A6 (x:=r * d) (by omega) (by omega),A6 (x:=s * b) (by omega) (by omega)]
 by_cases h1:p = q
 ·subst h1
  rw [if_neg (by simp)]
  congr 1
  rw [Bool.eq_iff_iff]
  simp
  omega
 ·rw [if_pos (by simpa using h1)]
  congr 1
  rw [Bool.eq_iff_iff]
  simp
  rcases Int.lt_or_gt_of_ne h1 with h2 | h2
  ·have:=v p q (by omega)
   omega
  ·have:=v q p (by omega)
   omega
def Dh (n s:Nat):Nat:=(List.range n).foldl (fun a k=>a + (s.testBit k).toNat) 0
theorem Ir (n s:Nat):Dh (n + 1) s = Dh n s + (s.testBit n).toNat:=by
 unfold Dh
 rw [List.range_succ,List.foldl_append]
 rfl
theorem UV (n:Nat):Dh n 0 = 0:=by
 induction n with
 | zero=>rfl
 | succ n e=>rw [Ir,e]; simp
theorem LO (n s:Nat):Dh n s ≤ n:=by
 induction n with
 | zero=>exact Nat.le_refl _
 | succ n e =>
  rw [Ir]
  have:(s.testBit n).toNat ≤ 1:=by cases s.testBit n <;> simp
  omega
theorem VO (s k i:Nat):(s ^^^ 2 ^ k).testBit i = (s.testBit i ^^ decide (k = i)):=by
 rw [Nat.testBit_xor,Nat.testBit_two_pow]
theorem YU {n s t:Nat} (h:∀ i,i < n → s.testBit i = t.testBit i):Dh n s = Dh n t:=by
 induction n with
 | zero=>rfl
 | succ n e=>rw [Ir,Ir,e (fun i f=>h i (by omega)),h n (by omega)]
theorem NR {n s k:Nat} (g:k < n) (h:s.testBit k = true):Dh n (s ^^^ 2 ^ k) + 1 = Dh n s:=by
 induction n with
 | zero=>omega
 | succ n f =>
  rw [Ir,Ir,VO]
  by_cases e:k = n
  ·subst e
   rw [h,YU (t:=s) (fun i l=>by rw [VO,decide_eq_false (by omega)]; simp)]
   simp
  ·have:=f (by omega)
   simp [e]
   omega
theorem Lv:∀ {k s:Nat},s.testBit k = true → s ^^^ 2 ^ k < s
 | 0,s,h=>by
  have h1:=Nat.xor_div_two (a:=s) (b:=2 ^ 0)
  have e:s % 2 = 1:=by simpa [Nat.testBit_zero] using h
  have f:¬ ((s ^^^ 2 ^ 0) % 2 = 1):=by rw [Nat.xor_mod_two_eq_one,e]; simp
  simp only [Nat.pow_zero] at h1 f ⊢
  rw [show (1:Nat) / 2 = 0 by rfl,Nat.xor_zero] at h1
  omega
 | k + 1,s,h=>by
  rw [Nat.testBit_succ] at h
  have g:=Lv h
  have h1:=Nat.xor_div_two (a:=s) (b:=2 ^ (k + 1))
  rw [show 2 ^ (k + 1) / 2 = 2 ^ k by rw [Nat.pow_succ]; omega] at h1
  omega
theorem N3 {n s:Nat} (f:s < 2 ^ n) (g:0 < s):∃ k,k < n ∧ s.testBit k = true:=by
 obtain ⟨k,e⟩:=Nat.exists_testBit_of_ne_zero (by omega:s ≠ 0)
 refine ⟨k,?_,e⟩
 rcases Nat.lt_or_ge k n with h | h
 ·exact h
 ·have:=Nat.testBit_lt_two_pow (Nat.lt_of_lt_of_le f (Nat.pow_le_pow_right (by omega) h))
  rw [e] at this
  cases this
theorem Abi {n s:Nat} (f:s < 2 ^ n) (h:0 < Dh n s):0 < s:=by
 rcases Nat.eq_zero_or_pos s with e | e
 ·rw [e,UV] at h; omega
 ·exact e
theorem Px {n s i:Nat} (e:s < 2 ^ n) (f:i < n):(2 ^ n - 1 - s).testBit i = !s.testBit i:=by
 rw [show 2 ^ n - 1 - s = 2 ^ n - (s + 1) by omega,Nat.testBit_two_pow_sub_succ e]
 simp [f]
theorem Ur {n s:Nat} (e:s < 2 ^ n):∀ m,m ≤ n → Dh m (2 ^ n - 1 - s) + Dh m s = m
 | 0,_=>rfl
 | m + 1,h=>by
  have:=Ur e m (by omega)
  rw [Ir,Ir,Px e (by omega)]
  cases s.testBit m <;> simp <;> omega
theorem WE {n s k:Nat} (g:s < 2 ^ n) (m:k < n) (h:s.testBit k = true):(2 ^ n - 1 - s) ||| 2 ^ k = 2 ^ n - 1 - (s ^^^ 2 ^ k):=by
 have l:=Lv h
 apply Nat.eq_of_testBit_eq
 intro i
 rw [Nat.testBit_or,Nat.testBit_two_pow]
 rcases Nat.lt_or_ge i n with f | f
 ·rw [Px g f,Px (by omega) f,VO]
  by_cases e:k = i
  ·subst e; simp [h]
  ·simp [e]
 ·have p:=Nat.pow_le_pow_right (n:=2) (by omega) f
  rw [Nat.testBit_lt_two_pow (by omega:2 ^ n - 1 - s < 2 ^ i),Nat.testBit_lt_two_pow (by omega:2 ^ n - 1 - (s ^^^ 2 ^ k) < 2 ^ i)]
  simp
  omega
def mf (g:Nat → Bool) (v:Nat → Int) (a:Int) (n:Nat):Int:=(List.range n).foldl (fun a k=>if g k then min a (v k) else a) a
theorem NC (g:Nat → Bool) (v:Nat → Int) (a:Int) (n:Nat):mf g v a (n + 1) = if g n then min (mf g v a n) (v n) else mf g v a n:=by
 unfold mf
 rw [List.range_succ,List.foldl_append]
 rfl
theorem R0 (g:Nat → Bool) (v:Nat → Int) (a:Int):∀ (n k:Nat),k < n → g k = true → mf g v a n ≤ v k
 | n + 1,k,hk,hg=>by
  rw [NC]
  by_cases e:k = n
  ·subst e; rw [if_pos hg]; omega
  ·have:=R0 g v a n k (by omega) hg
   split <;> omega
theorem Tn (g:Nat → Bool) (v:Nat → Int) (a:Int):∀ (n:Nat),mf g v a n = a ∨ ∃ k,k < n ∧ g k = true ∧ mf g v a n = v k
 | 0=>.inl rfl
 | n + 1=>by
  rw [NC]
  have m:=Tn g v a n
  by_cases e:g n = true
  ·rw [if_pos e]
   rcases Int.le_total (mf g v a n) (v n) with h | h
   ·rw [Int.min_eq_left h]
    exact m.imp id fun ⟨k,h1,f,l⟩=>⟨k,by omega,f,l⟩
   ·rw [Int.min_eq_right h]
    exact .inr ⟨n,by omega,e,rfl⟩
  ·rw [if_neg e]
   exact m.imp id fun ⟨k,h1,f,l⟩=>⟨k,by omega,f,l⟩
theorem Acq {g:Nat → Bool} {v:Nat → Int} {a b:Int} {n k:Nat} (f:k < n) (e:g k = true) (ha:v k < a) (hb:v k < b):mf g v a n = mf g v b n:=by
 have h1:=R0 g v a n k f e
 have h2:=R0 g v b n k f e
 rcases Tn g v a n with h | ⟨i,s,l,h⟩
 ·omega
 ·rcases Tn g v b n with m | ⟨j,u,aa,m⟩
  ·omega
  ·have h3:=R0 g v a n j u aa
   have h4:=R0 g v b n i s l
   omega
theorem Ws {g f:Nat → Bool} {v l:Nat → Int} {a:Int}:∀ {n:Nat},(∀ k,k < n → g k = f k ∧ (g k = true → v k = l k)) → mf g v a n = mf f l a n
 | 0,_=>rfl
 | n + 1,h=>by
  have h1:=h n (by omega)
  rw [NC,NC,Ws (fun k m=>h k (by omega)),← h1.1]
  by_cases e:g n = true
  ·rw [if_pos e,if_pos e,h1.2 e]
  ·rw [if_neg e,if_neg e]
def Vk:Int:=1000000000
def Qi (n:Nat) (c:Nat → Nat → Int):Nat → List Int
 | 0=>[0]
 | m + 1=>Qi n c m ++ [mf (m + 1).testBit (fun k=>c (n - Dh n (m + 1)) k + (Qi n c m).getD ((m + 1) ^^^ 2 ^ k) 0) Vk n]
def VV (n:Nat) (c:Nat → Nat → Int) (s:Nat):Int:=(Qi n c s).getD s 0
theorem HM (n:Nat) (c:Nat → Nat → Int):∀ m,(Qi n c m).length = m + 1
 | 0=>rfl
 | m + 1=>by rw [Qi,CM,HM n c m]; rfl
theorem Rv (n:Nat) (c:Nat → Nat → Int) {s:Nat}:∀ {m:Nat},s ≤ m → (Qi n c m)[s]? = some (VV n c s)
 | 0,h=>by
  have:s = 0:=by omega
  subst this; rfl
 | m + 1,h=>by
  by_cases e:s = m + 1
  ·subst e
   have f:=HM n c (m + 1)
   unfold VV
   rw [List.getD_eq_getElem?_getD,Cp (by omega)]
   rfl
  ·rw [Qi,List.getElem?_append_left (by rw [HM]; omega)]
   exact Rv n c (by omega)
theorem R8 (n:Nat) (c:Nat → Nat → Int):VV n c 0 = 0:=rfl
theorem VD (n:Nat) (c:Nat → Nat → Int) {s:Nat} (h:0 < s):VV n c s = mf s.testBit (fun k=>c (n - Dh n s) k + VV n c (s ^^^ 2 ^ k)) Vk n:=by
 cases s with
 | zero=>omega
 | succ m =>
  conv=>lhs; unfold VV
  rw [Qi,List.getD_eq_getElem?_getD,List.getElem?_append_right (by rw [HM]; omega),HM]
  simp only [Nat.sub_self,List.getElem?_cons_zero,Option.getD_some]
  refine Ws fun k f=>⟨rfl,fun e=>?_⟩
  have:=Lv e
  rw [List.getD_eq_getElem?_getD,Rv n c (by omega)]
  rfl
theorem XP {n:Nat} (hn:n ≤ 12) {c:Nat → Nat → Int} (hc:∀ i k,i < n → k < n → 0 ≤ c i k ∧ c i k ≤ 2100000):∀ (d s:Nat),s ≤ d → s < 2 ^ n → (0 ≤ VV n c s ∧ VV n c s ≤ 2100000 * (Dh n s:Int)) ∧ (0 < s → ∃ k,k < n ∧ s.testBit k = true ∧ c (n - Dh n s) k + VV n c (s ^^^ 2 ^ k) = VV n c s):=by
 intro d
 induction d with
 | zero =>
  intro s h m
  have:s = 0:=by omega
  subst this
  exact ⟨⟨by rw [R8]; omega,by rw [R8]; omega⟩,fun h=>by omega⟩
 | succ d ih =>
  intro s h m
  by_cases l:0 < s
  ·obtain ⟨k,f,e⟩:=N3 m l
   have al:=LO n s
   have u:∀ k,k < n → s.testBit k = true → (0 ≤ c (n - Dh n s) k + VV n c (s ^^^ 2 ^ k)) ∧ c (n - Dh n s) k + VV n c (s ^^^ 2 ^ k) ≤ 2100000 * (Dh n s:Int):=by
    intro k f e
    have hx:=Lv e
    have hp:=NR f e
    have h1:=(ih (s ^^^ 2 ^ k) (by omega) (by omega)).1
    have h2:=hc (n - Dh n s) k (by omega) f
    omega
   have ad:=R0 s.testBit (fun k=>c (n - Dh n s) k + VV n c (s ^^^ 2 ^ k)) Vk n k f e
   rw [← VD n c l] at ad
   have ht:=u k f e
   have aa:=Tn s.testBit (fun k=>c (n - Dh n s) k + VV n c (s ^^^ 2 ^ k)) Vk n
   rw [← VD n c l] at aa
   rcases aa with g | ⟨j,hj,v,g⟩
   ·unfold Vk at g; omega
   ·have ah:=u j hj v
    exact ⟨by omega,fun _=>⟨j,hj,v,g.symm⟩⟩
  ·have:s = 0:=by omega
   subst this
   exact ⟨⟨by rw [R8]; omega,by rw [R8]; omega⟩,fun h=>by omega⟩
theorem VE {n:Nat} (g:n ≤ 12) {c:Nat → Nat → Int} (e:∀ i k,i < n → k < n → 0 ≤ c i k ∧ c i k ≤ 2100000) {s:Nat} (f:s < 2 ^ n):0 ≤ VV n c s ∧ VV n c s ≤ 25200000:=by
 have h1:=(XP g e s s (Nat.le_refl _) f).1
 have h:=LO n s
 omega
def KC (n:Nat) (c:Nat → Nat → Int) (m:Nat):List Int:=List.replicate (2 ^ n - 1 - m) 0 ++ (Qi n c m).reverse
theorem PY (n:Nat) (c:Nat → Nat → Int) {m:Nat} (h:m < 2 ^ n):(KC n c m).length = 2 ^ n:=by
 unfold KC
 rw [CM,List.length_replicate,List.length_reverse,HM]
 omega
theorem ME (n:Nat) (c:Nat → Nat → Int) {m s:Nat} (h:m < 2 ^ n) (e:s ≤ m):(KC n c m)[2 ^ n - 1 - s]? = some (VV n c s):=by
 unfold KC
 rw [List.getElem?_append_right (by simp; omega),List.length_replicate,List.getElem?_reverse (by rw [HM]; omega),HM,show m + 1 - 1 - (2 ^ n - 1 - s - (2 ^ n - 1 - m)) = s by omega]
 exact Rv n c e
theorem Aao (n:Nat) (c:Nat → Nat → Int) {m:Nat} (h:m + 1 < 2 ^ n):(KC n c m).set (2 ^ n - 1 - (m + 1)) (VV n c (m + 1)) = KC n c (m + 1):=by
 apply List.ext_getElem?
 intro i
 have l:=PY n c (m:=m) (by omega)
 have s:=PY n c h
 rcases Nat.lt_trichotomy i (2 ^ n - 1 - (m + 1)) with g | g | g
 ·rw [List.getElem?_set_ne (by omega)]
  unfold KC
  rw [List.getElem?_append_left (by simp; omega),List.getElem?_append_left (by simp; omega)]
  rw [List.getElem?_replicate,List.getElem?_replicate,if_pos (by omega),if_pos (by omega)]
 ·subst g
  rw [List.getElem?_set_self (by omega),ME n c h (Nat.le_refl _)]
 ·rw [List.getElem?_set_ne (by omega)]
  rcases Nat.lt_or_ge i (2 ^ n) with f | f
  ·have e:i = 2 ^ n - 1 - (2 ^ n - 1 - i):=by omega
   rw [e,ME n c (by omega) (by omega),ME n c h (by omega)]
  ·rw [List.getElem?_eq_none (by rw [l]; exact f),List.getElem?_eq_none (by rw [s]; exact f)]
theorem T1 (n:Nat):BitVec.ofInt 64 (n:Int) = BitVec.ofNat 64 n:=BitVec.ofInt_natCast ..
theorem Zy (k:Nat):((2:Int) ^ k) = ((2 ^ k:Nat):Int):=by rw [Int.natCast_pow]; rfl
theorem L0 {k:Nat} (h:k ≤ 30):KB .i64 1 (k:Int) = ((2 ^ k:Nat):Int):=by
 have e:2 ^ k ≤ 2 ^ 30:=Nat.pow_le_pow_right (by omega) h
 show Ag (1 * 2 ^ (min ((k:Int).toNat) 64)) = _
 rw [Int.toNat_natCast,Nat.min_eq_left (by omega),Int.one_mul,Zy]
 generalize 2 ^ k = P at e ⊢
 exact A6 (by omega) (by omega)
theorem Ac9 {s k:Nat} (h:k ≤ 30):Br .i64 (s:Int) (k:Int) = ((s / 2 ^ k:Nat):Int):=by
 show Int.fdiv (s:Int) (2 ^ (min ((k:Int).toNat) 64)) = _
 rw [Int.toNat_natCast,Nat.min_eq_left (by omega),Zy,Int.fdiv_eq_ediv_of_nonneg _ (Int.natCast_nonneg _)]
 rfl
theorem Abq {x:Nat} (h:x < 4611686018427387904):B4 .i64 (x:Int) 1 = ((x % 2:Nat):Int):=by
 have e:(BitVec.ofNat 64 x &&& BitVec.ofNat 64 1).toNat = x % 2:=by
  rw [BitVec.toNat_and,BitVec.toNat_ofNat,BitVec.toNat_ofNat,Nat.mod_eq_of_lt (show x < 2 ^ 64 by omega),Nat.mod_eq_of_lt (show 1 < 2 ^ 64 by omega)]
  exact Nat.and_two_pow_sub_one_eq_mod x 1
 show Ag ((BitVec.ofInt 64 (x:Int) &&& BitVec.ofInt 64 1).toNat:Int) = _
 rw [T1,show BitVec.ofInt 64 1 = BitVec.ofNat 64 1 by rfl,e,A6 (by omega) (by omega)]
theorem Yy {x y:Nat} (f:x < 1073741824) (g:y < 1073741824):Tk .i64 (x:Int) (y:Int) = ((x ||| y:Nat):Int):=by
 have e:x ||| y < 2 ^ 30:=Nat.or_lt_two_pow (by omega) (by omega)
 show Ag ((BitVec.ofInt 64 (x:Int) ||| BitVec.ofInt 64 (y:Int)).toNat:Int) = _
 rw [T1,T1,BitVec.toNat_or,BitVec.toNat_ofNat,BitVec.toNat_ofNat,Nat.mod_eq_of_lt (show x < 2 ^ 64 by omega),Nat.mod_eq_of_lt (show y < 2 ^ 64 by omega),A6 (by omega) (by omega)]
theorem WK {x y:Nat} (f:x < 1073741824) (g:y < 1073741824):Sf .i64 (x:Int) (y:Int) = ((x ^^^ y:Nat):Int):=by
 have e:x ^^^ y < 2 ^ 30:=Nat.xor_lt_two_pow (by omega) (by omega)
 show Ag ((BitVec.ofInt 64 (x:Int) ^^^ BitVec.ofInt 64 (y:Int)).toNat:Int) = _
 rw [T1,T1,BitVec.toNat_xor,BitVec.toNat_ofNat,BitVec.toNat_ofNat,Nat.mod_eq_of_lt (show x < 2 ^ 64 by omega),Nat.mod_eq_of_lt (show y < 2 ^ 64 by omega),A6 (by omega) (by omega)]
theorem WM {s k:Nat} (f:s < 1073741824) (h:k ≤ 30):B4 .i64 (Br .i64 (s:Int) (k:Int)) 1 = (((s.testBit k).toNat:Nat):Int):=by
 have:s / 2 ^ k ≤ s:=Nat.div_le_self _ _
 rw [Ac9 h,Abq (by omega),Nat.testBit_eq_decide_div_mod_eq]
 have:s / 2 ^ k % 2 < 2:=Nat.mod_lt _ (by omega)
 by_cases e:s / 2 ^ k % 2 = 1
 ·simp [e]
 ·have:s / 2 ^ k % 2 = 0:=by omega
  simp [this]
theorem Uv {s k:Nat} (e:s < 1073741824) (h:k ≤ 30):(B4 .i64 (Br .i64 (s:Int) (k:Int)) 1 == 1) = s.testBit k:=by
 rw [WM e h]; cases s.testBit k <;> rfl
theorem XO {s k:Nat} (e:s < 1073741824) (h:k ≤ 30):(B4 .i64 (Br .i64 (s:Int) (k:Int)) 1 == 0) = !s.testBit k:=by
 rw [WM e h]; cases s.testBit k <;> rfl
theorem EM {S R:Type} (f:Nat → S → Int → Ae R) (n:Nat) (e:Nat → S) (rest:Ae R) (hn:n < 4611686018427387904) {j:Nat} (h:j ≤ n)
  (l:∀ m k,j ≤ k → k < n → f (m + 1) (e k) (k:Int) = f m (e (k + 1)) ((k + 1:Nat):Int)) (s:∀ m,f (m + 1) (e n) (n:Int) = rest):f FU (e j) (j:Int) = rest:=by
 have ac:∀ d k m,n - k = d → j ≤ k → k ≤ n → d < m → f m (e k) (k:Int) = rest:=by
  intro d
  induction d with
  | zero =>
   intro k m v g ab u
   have:k = n:=by omega
   subst this
   cases m with
   | zero=>omega
   | succ m=>exact s m
  | succ d ih =>
   intro k m v g ab u
   cases m with
   | zero=>omega
   | succ m=>rw [l m k g (by omega)]; exact ih (k + 1) m (by omega) (by omega) (by omega) (by omega)
 exact ac (n - j) j FU rfl (Nat.le_refl _) h (D4 (by omega))
theorem Acr {S R:Type} (f:Nat → S → Int → Ae R) (n:Nat) (g:Nat → Bool) (l:Nat → S) (rest u:Ae R) (hn:n < 4611686018427387904)
  (hs:∀ m k,k < n → (∀ i,i < k → g i = true) → f (m + 1) (l k) (k:Int) = if g k = true then f m (l (k + 1)) ((k + 1:Nat):Int) else u) (he:∀ m,f (m + 1) (l n) (n:Int) = rest):f FU (l 0) 0 = if (List.range n).all g = true then rest else u:=by
 have aj:∀ d k m,n - k = d → k ≤ n → d < m → (∀ i,i < k → g i = true) → f m (l k) (k:Int) = if (List.range n).all g = true then rest else u:=by
  intro d
  induction d with
  | zero =>
   intro k m hd hk hm s
   have:k = n:=by omega
   subst this
   cases m with
   | zero=>omega
   | succ m=>rw [he,if_pos (List.all_eq_true.2 fun i v=>s i (List.mem_range.1 v))]
  | succ d ih =>
   intro k m hd hk hm s
   cases m with
   | zero=>omega
   | succ m =>
    rw [hs m k (by omega) s]
    by_cases h:g k = true
    ·rw [if_pos h]
     exact ih (k + 1) m (by omega) (by omega) (by omega) (fun i v=>by
      by_cases e:i = k
      ·subst e; exact h
      ·exact s i (by omega))
    ·rw [if_neg h,if_neg]
     intro ha
     exact h (List.all_eq_true.1 ha k (List.mem_range.2 (by omega)))
 exact aj n 0 FU rfl (by omega) (D4 hn) (fun i v=>by omega)
theorem To {R:Type} (f:Nat → Int → Ae R) (n:Nat) (p:Nat → Bool) (e:Nat → Ae R) (g:Ae R) (hn:n < 4611686018427387904)
  (l:∀ m k,k < n → f (m + 1) (k:Int) = if p k = true then e k else f m ((k + 1:Nat):Int)) (s:∀ m,f (m + 1) (n:Int) = g):f FU 0 = match (List.range n).find? p with
   | some k=>e k
   | none=>g:=by
 have ae:∀ d k m,n - k = d → k ≤ n → d < m → f m (k:Int) = match (List.range' k d).find? p with
   | some k=>e k
   | none=>g:=by
  intro d
  induction d with
  | zero =>
   intro k m hd hk u
   have:k = n:=by omega
   subst this
   cases m with
   | zero=>omega
   | succ m=>rw [s]; rfl
  | succ d ih =>
   intro k m hd hk u
   cases m with
   | zero=>omega
   | succ m =>
    rw [l m k (by omega),List.range'_succ,List.find?_cons]
    by_cases h:p k = true
    ·rw [if_pos h,h]
    ·have v:p k = false:=by simpa using h
     rw [if_neg h,v]
     exact ih (k + 1) m (by omega) (by omega) (by omega)
 have:=ae n 0 FU rfl (by omega) (D4 hn)
 rw [List.range_eq_range']
 exact this
theorem Yb (u:Nat) (h:u < 4096):H8 (u:Int) = some (Dh 12 u:Int):=by
 have:∀ a:Nat,a < 64 → ∀ b:Nat,b < 64 → H8 ((64 * a + b:Nat):Int) = some (Dh 12 (64 * a + b):Int):=by decide +kernel
 have:=this (u / 64) (by omega) (u % 64) (by omega)
 rwa [Nat.div_add_mod] at this
structure CO (x:List (List Int)) (n:Nat) (c:Nat → Nat → Int):Prop where
 len:x.length = n
 row:∀ i,i < n → ∃ r,x[i]? = some r ∧ r.length = n ∧ ∀ k,k < n → r[k]? = some (c i k)
 bd:∀ i k,i < n → k < n → 0 ≤ c i k ∧ c i k ≤ 2100000
 n1:1 ≤ n
 n12:n ≤ 12
theorem O4 {n:Nat} (h:n ≤ 12):1 ≤ 2 ^ n ∧ 2 ^ n ≤ 4096:=⟨Nat.one_le_two_pow,Nat.pow_le_pow_right (n:=2) (by omega) h⟩
def JE (n:Nat) (c:Nat → Nat → Int) (m:Nat):List Int:=Qi n c m ++ List.replicate (2 ^ n - 1 - m) 0
theorem NU (n:Nat) (c:Nat → Nat → Int) {m:Nat} (h:m < 2 ^ n):(JE n c m).length = 2 ^ n:=by
 unfold JE
 rw [CM,List.length_replicate,HM]
 omega
theorem LA (n:Nat) (c:Nat → Nat → Int) {m s:Nat} (e:s ≤ m):(JE n c m)[s]? = some (VV n c s):=by
 unfold JE
 rw [List.getElem?_append_left (by rw [HM]; omega)]
 exact Rv n c e
theorem ZU (n:Nat) (c:Nat → Nat → Int) {m:Nat} (h:m + 1 < 2 ^ n):(JE n c m).set (m + 1) (VV n c (m + 1)) = JE n c (m + 1):=by
 apply List.ext_getElem?
 intro i
 have g:=NU n c (m:=m) (by omega)
 have l:=NU n c h
 rcases Nat.lt_trichotomy i (m + 1) with f | f | f
 ·rw [List.getElem?_set_ne (by omega),LA n c (by omega),LA n c (by omega)]
 ·subst f
  rw [List.getElem?_set_self (by omega),LA n c (Nat.le_refl _)]
 ·rw [List.getElem?_set_ne (by omega)]
  unfold JE
  rw [List.getElem?_append_right (by rw [HM]; omega),List.getElem?_append_right (by rw [HM]; omega),HM,HM,List.getElem?_replicate,List.getElem?_replicate]
  by_cases e:i - (m + 1) < 2 ^ n - 1 - m
  ·rw [if_pos e,if_pos (by omega)]
  ·rw [if_neg e,if_neg (by omega)]
theorem Kd (a b:Int):EQ a b = some (min a b):=by
 unfold EQ
 by_cases h:a < b
 ·rw [if_pos (by simpa using h),Int.min_eq_left (by omega)]
 ·rw [if_neg (by simpa using h),Int.min_eq_right (by omega)]
theorem Abk (a b:Int):Fn a b = min a b:=by
 unfold Fn
 by_cases h:b < a
 ·rw [if_pos h,Int.min_eq_right (by omega)]
 ·rw [if_neg h,Int.min_eq_left (by omega)]
theorem YH (x:List (List Int)) {n:Nat} (f:x.length = n) (hn:n ≤ 12) {s:Nat} (h:s < 1073741824) (l:List Int) (e:List Int → Int → Ae (List Int)) :
  Ex x (s:Int) l e FU 0 0 = Option.bind (AL l (s:Int)) fun u=>Option.bind (AL x ((n:Int) - (Dh n s:Int))) fun g=>D0 g (s:Int) e FU (BE l (s:Int) 1000000000) 0:=by
 have:=EM (Ex x (s:Int) l e) n (fun k=>(Dh k s:Int)) (Option.bind (AL l (s:Int)) fun u=>Option.bind (AL x ((n:Int) - (Dh n s:Int))) fun g=>D0 g (s:Int) e FU (BE l (s:Int) 1000000000) 0) (by omega) (j:=0) (by omega) (fun m k _ hk=>?_) (fun m=>?_)
 ·simpa [Dh] using this
 ·have v:=LO k s
  rw [Ex,if_pos (by rw [f]; simp; omega),EN (by omega) (by omega),if_pos (by simp),WM h (by omega),AD (by omega),Ir]
  have hb:(s.testBit k).toNat ≤ 1:=by cases s.testBit k <;> simp
  rw [A6 (by omega) (by omega)]
  rfl
 ·have v:=LO n s
  rw [Ex,if_neg (by rw [f]; simp),f,A6 (by omega) (by omega)]
theorem Aba {x:List (List Int)} {n:Nat} {c:Nat → Nat → Int} (h:CO x n c) {m:Nat} (v:m + 1 < 2 ^ n) {r:List Int} (l:r.length = n) (hc:∀ k,k < n → r[k]? = some (c (n - Dh n (m + 1)) k)) (f:List Int → Int → Ae (List Int)) :
  D0 r ((m + 1:Nat):Int) f FU (BE (JE n c m) ((m + 1:Nat):Int) 1000000000) 0 = f (JE n c (m + 1)) ((m + 2:Nat):Int):=by
 have aa:=O4 h.n12
 have hn:=h.n12
 have hp:0 < Dh n (m + 1):=by
  obtain ⟨k,g,u⟩:=N3 v (by omega)
  have:=NR g u
  omega
 have aj:=LO n (m + 1)
 have ah:=NU n c (m:=m) (by omega)
 have ac:=EM (D0 r ((m + 1:Nat):Int) f) n (fun k=>(JE n c m).set (m + 1) (mf (m + 1).testBit (fun k=>c (n - Dh n (m + 1)) k + VV n c ((m + 1) ^^^ 2 ^ k)) Vk k)) (f (JE n c (m + 1)) ((m + 2:Nat):Int)) (by omega) (j:=0) (by omega) (fun q k _ g=>?_) (fun q=>?_)
 ·rw [J6]
  exact ac
 ·have u:=h.bd (n - Dh n (m + 1)) k (by omega) g
  rw [D0,if_pos (by rw [l]; simp; omega)]
  unfold Bk
  dsimp only
  rw [AY,hc k g,Aa,EN (by omega) (by omega),if_pos (by simp),Uv (by omega) (by omega),NC]
  by_cases e:(m + 1).testBit k = true
  ·have hx:=Lv e
   have hv:=VE h.n12 h.bd (s:=(m + 1) ^^^ 2 ^ k) (by omega)
   have ae:2 ^ k ≤ 4096:=Ay (Nat.pow_le_pow_right (by omega) (by omega:k ≤ n)) aa.2
   rw [if_pos e,AY,List.getElem?_set_self (by omega),Aa,L0 (by omega),WK (by omega) (by omega),AY,List.getElem?_set_ne (by omega),LA n c (by omega),Aa,A6 (x:=c _ k + _) (by omega) (by omega),Kd,Aa,Aa,J6,List.set_set,AD (by omega),if_pos e]
  ·rw [if_neg e,if_neg e,AD (by omega)]
 ·rw [D0,if_neg (by rw [l]; simp),← VD n c (by omega),ZU n c v,A6 (by omega) (by omega)]
  rfl
theorem VR {x:List (List Int)} {n:Nat} {c:Nat → Nat → Int} (h:CO x n c):JI x = some (JE n c (2 ^ n - 1)):=by
 have ad:=O4 h.n12
 have hn:=h.n12
 unfold JI
 rw [h.len,EN (by omega) (by omega),if_pos (by simp),L0 (by omega),NB (by omega),Aa]
 have u:List.replicate (2 ^ n) (0:Int) = JE n c 0:=by
  unfold JE Qi
  rw [show 2 ^ n = (2 ^ n - 1 - 0) + 1 by omega,List.replicate_succ]
  simp
 have ab:=EM (EY x) (2 ^ n) (fun s=>JE n c (s - 1)) (some (JE n c (2 ^ n - 1))) (by omega) (j:=1) (by omega) (fun q s ac e=>?_) (fun q=>?_)
 ·rw [u]; exact ab
 ·rw [EY,h.len,EN (by omega) (by omega),L0 (by omega),if_pos (decide_eq_true (Int.ofNat_lt.2 e)),YH x h.len h.n12 (by omega)]
  obtain ⟨m,rfl⟩:∃ m,s = m + 1:=⟨s - 1,by omega⟩
  have hp:0 < Dh n (m + 1):=by
   obtain ⟨k,hk,g⟩:=N3 e (by omega)
   have:=NR hk g
   omega
  have ah:=LO n (m + 1)
  have ae:=NU n c (m:=m) (by omega)
  obtain ⟨r,f,v,l⟩:=h.row (n - Dh n (m + 1)) (by omega)
  rw [Nat.add_sub_cancel,Js (by omega),Aa,show (n:Int) - (Dh n (m + 1):Int) = ((n - Dh n (m + 1):Nat):Int) by omega,AY,f,Aa,Aba h e v l]
  rfl
 ·rw [EY,h.len,EN (by omega) (by omega),L0 (by omega),if_neg (by simp)]
theorem X9 {n s:Nat} (e:s < 2 ^ n):∀ m,Dh (n + m) s = Dh n s
 | 0=>rfl
 | m + 1=>by
  rw [← Nat.add_assoc,Ir,X9 e m,Nat.testBit_lt_two_pow (Nat.lt_of_lt_of_le e (Nat.pow_le_pow_right (by omega) (by omega)))]
  rfl
theorem ZV {n s:Nat} (f:n ≤ 12) (e:s < 2 ^ n):H8 ((2 ^ n - 1 - s:Nat):Int) = some ((n - Dh n s:Nat):Int):=by
 have g:=O4 f
 rw [Yb _ (by omega)]
 have h1:=X9 (n:=n) (s:=2 ^ n - 1 - s) (by omega) (12 - n)
 rw [show n + (12 - n) = 12 by omega] at h1
 have h:=Ur e n (Nat.le_refl _)
 rw [h1,show Dh n (2 ^ n - 1 - s) = n - Dh n s by omega]
theorem Abr {x:List (List Int)} {n:Nat} {c:Nat → Nat → Int} (h:CO x n c) {s:Nat} (h0:0 < s) (l:s < 2 ^ n) (g:List Int → Int → Ae (List Int)) :
  DI x ((2 ^ n - 1 - s:Nat):Int) ((n - Dh n s:Nat):Int) g FU (BE (KC n c (s - 1)) ((2 ^ n - 1 - s:Nat):Int) 13194139533312) 0 = g (KC n c s) (Ag (((2 ^ n - 1 - s:Nat):Int) - 1)):=by
 have aj:=O4 h.n12
 have hn:=h.n12
 obtain ⟨j,v,u⟩:=N3 l h0
 have hp:0 < Dh n s:=by
  have:=NR v u
  omega
 have an:=LO n s
 have ap:=PY n c (m:=s - 1) (by omega)
 obtain ⟨r,hr,ak,ai⟩:=h.row (n - Dh n s) (by omega)
 have aa:∀ k,k < n → s.testBit k = true → 0 ≤ c (n - Dh n s) k + VV n c (s ^^^ 2 ^ k) ∧ c (n - Dh n s) k + VV n c (s ^^^ 2 ^ k) ≤ 27300000:=fun k f e=>by
  have hx:=Lv e
  have hb:=h.bd (n - Dh n s) k (by omega) f
  have hv:=VE h.n12 h.bd (s:=s ^^^ 2 ^ k) (by omega)
  omega
 have ag:=EM (DI x ((2 ^ n - 1 - s:Nat):Int) ((n - Dh n s:Nat):Int) g) n (fun k=>(KC n c (s - 1)).set (2 ^ n - 1 - s) (mf s.testBit (fun k=>c (n - Dh n s) k + VV n c (s ^^^ 2 ^ k)) 13194139533312 k)) (g (KC n c s) (Ag (((2 ^ n - 1 - s:Nat):Int) - 1))) (by omega) (j:=0) (by omega) (fun q k _ f=>?_) (fun q=>?_)
 ·rw [J6]
  exact ag
 ·have hb:=h.bd (n - Dh n s) k (by omega) f
  have ao:2 ^ k ≤ 4096:=Ay (Nat.pow_le_pow_right (by omega) (by omega:k ≤ n)) aj.2
  rw [DI,if_pos (by rw [h.len]; simp; omega)]
  unfold Bk
  dsimp only
  rw [if_pos (by simp),XO (by omega) (by omega),Px l f,Bool.not_not,NC]
  by_cases e:s.testBit k = true
  ·have hx:=Lv e
   have hv:=aa k f e
   rw [if_pos e,AY,List.getElem?_set_self (by omega),Aa,AY,hr,Aa,AY,ai k f,Aa,L0 (by omega),Yy (by omega) (by omega),WE l f e,AY,List.getElem?_set_ne (by omega),ME n c (by omega) (by omega),Aa,Aa,J6,List.set_set,AD (by omega),if_pos e,A6 (by omega) (by omega),Abk]
  ·rw [if_neg e,if_neg e,AD (by omega)]
 ·have e:=aa j v u
  rw [DI,if_neg (by rw [h.len]; simp),Acq (b:=Vk) v u (by omega) (by unfold Vk; omega),← VD n c h0]
  have:=Aao n c (m:=s - 1) (by omega)
  rw [show s - 1 + 1 = s by omega] at this
  rw [this]
theorem Ub {x:List (List Int)} {n:Nat} {c:Nat → Nat → Int} (h:CO x n c):IK x = some (KC n c (2 ^ n - 1)):=by
 have ab:=O4 h.n12
 have hn:=h.n12
 have g:=h.n1
 have v:2 ≤ 2 ^ n:=Ay (by decide:2 ≤ 2 ^ 1) (Nat.pow_le_pow_right (by omega) g)
 unfold IK
 rw [h.len,if_pos (by simp),L0 (by omega),NB (by omega),Aa]
 have f:List.replicate (2 ^ n) (0:Int) = KC n c 0:=by
  unfold KC Qi
  rw [show [(0:Int)].reverse = List.replicate 1 0 by rfl,List.replicate_append_replicate,show 2 ^ n - 1 - 0 + 1 = 2 ^ n by omega]
 have u:=EM (fun m l (k:Int)=>Ev x m l (((2 ^ n - 1:Nat):Int) - k)) (2 ^ n) (fun s=>KC n c (s - 1)) (some (KC n c (2 ^ n - 1))) (by omega) (j:=1) (by omega) (fun q s aa e=>?_) (fun q=>?_)
 ·rw [f,A6 (by omega) (by omega),show ((2 ^ n:Nat):Int) - 2 = ((2 ^ n - 1:Nat):Int) - ((1:Nat):Int) by omega]
  exact u
 ·have ad:=LO n s
  have ae:=PY n c (m:=s - 1) (by omega)
  rw [show ((2 ^ n - 1:Nat):Int) - (s:Int) = ((2 ^ n - 1 - s:Nat):Int) by omega,Ev,if_pos (by simp),EN (by omega) (by omega),ZV h.n12 e,Aa,Js (by omega),Aa,Abr h (by omega) e,A6 (by omega) (by omega),show ((2 ^ n - 1 - s:Nat):Int) - 1 = ((2 ^ n - 1:Nat):Int) - ((s + 1:Nat):Int) by omega]
  rfl
 ·rw [Ev,if_neg (by rw [C9]; omega)]
def Pt (n:Nat) (c:Nat → Nat → Int) (r s k:Nat):Bool:=s.testBit k && decide (c r k + VV n c (s ^^^ 2 ^ k) = VV n c s)
def Ps (n:Nat) (c:Nat → Nat → Int) (r s:Nat):Nat:=((List.range n).find? (Pt n c r s)).getD 0
def EK (n:Nat) (c:Nat → Nat → Int):Nat → Nat
 | 0=>2 ^ n - 1
 | r + 1=>EK n c r ^^^ 2 ^ Ps n c r (EK n c r)
def KP (n:Nat) (c:Nat → Nat → Int) (r:Nat):List Int:=(List.range r).map fun i=>(Ps n c i (EK n c i):Int)
theorem UX (n:Nat) (c:Nat → Nat → Int) (r:Nat):KP n c (r + 1) = KP n c r ++ [(Ps n c r (EK n c r):Int)]:=by
 unfold KP
 rw [List.range_succ,List.map_append]
 rfl
theorem NT (n:Nat) (c:Nat → Nat → Int) (r:Nat):(KP n c r).length = r:=by unfold KP; simp
theorem Aad (n:Nat):Dh n (2 ^ n - 1) = n:=by
 have h1:=Ur (n:=n) (s:=0) (Nat.two_pow_pos n) n (Nat.le_refl _)
 rw [UV] at h1
 simpa using h1
theorem UQ {x:List (List Int)} {n:Nat} {c:Nat → Nat → Int} (h:CO x n c):∀ r,r ≤ n → (EK n c r < 2 ^ n ∧ Dh n (EK n c r) = n - r) ∧ (r < n → (List.range n).find? (Pt n c r (EK n c r)) = some (Ps n c r (EK n c r)) ∧ Ps n c r (EK n c r) < n ∧ (EK n c r).testBit (Ps n c r (EK n c r)) = true):=by
 have am:=O4 h.n12
 have v:∀ r s,r < n → s < 2 ^ n → Dh n s = n - r → (List.range n).find? (Pt n c r s) = some (Ps n c r s) ∧ Ps n c r s < n ∧ s.testBit (Ps n c r s) = true:=by
  intro r s g m f
  have h0:=Abi m (by omega)
  obtain ⟨k,hk,hb,u⟩:=(XP h.n12 h.bd s s (Nat.le_refl _) m).2 h0
  rw [f,show n - (n - r) = r by omega] at u
  cases l:(List.range n).find? (Pt n c r s) with
  | none =>
   have:=List.find?_eq_none.1 l k (List.mem_range.2 hk)
   unfold Pt at this
   simp [hb,u] at this
  | some j =>
   have f:=List.find?_some l
   have hj:j < n:=List.mem_range.1 (List.mem_of_find?_eq_some l)
   have e:Ps n c r s = j:=by unfold Ps; rw [l]; rfl
   rw [e]
   unfold Pt at f
   rw [Cf] at f
   exact ⟨rfl,hj,f.1⟩
 intro r
 induction r with
 | zero =>
  intro _
  have h1:EK n c 0 < 2 ^ n ∧ Dh n (EK n c 0) = n - 0:=⟨by unfold EK; omega,Aad n⟩
  exact ⟨h1,fun g=>v 0 _ g h1.1 h1.2⟩
 | succ r ih =>
  intro g
  obtain ⟨⟨i1,i2⟩,i3⟩:=ih (by omega)
  obtain ⟨_,i4,i5⟩:=i3 (by omega)
  have h1:EK n c (r + 1) < 2 ^ n ∧ Dh n (EK n c (r + 1)) = n - (r + 1):=by
   have hx:=Lv i5
   have f:=NR i4 i5
   refine ⟨by unfold EK; omega,by unfold EK; omega⟩
  exact ⟨h1,fun g=>v (r + 1) _ g h1.1 h1.2⟩
theorem Zs (p:Nat → Bool) (k:Nat):(List.range (k + 1)).find? p = match (List.range k).find? p with
  | some j=>some j
  | none=>if p k = true then some k else none:=by
 rw [List.range_succ,List.find?_append]
 cases (List.range k).find? p with
 | some j=>rfl
 | none =>
  rw [Option.none_or,List.find?_cons]
  cases p k <;> rfl
def Ue (o:Ae Nat):Int:=match o with
 | some j=>(j:Int)
 | none=>-1
theorem VS {x:List (List Int)} {n:Nat} {c:Nat → Nat → Int} (h:CO x n c):JJ x = some (KP n c n,VV n c (2 ^ n - 1)):=by
 have aa:=O4 h.n12
 have hn:=h.n12
 have ab:=NU n c (m:=2 ^ n - 1) (by omega)
 unfold JJ
 rw [VR h,Aa,ab,A6 (by omega) (by omega),show ((2 ^ n:Nat):Int) - 1 = ((2 ^ n - 1:Nat):Int) by omega]
 have ad:=EM (fun m (s:Int × List Int) k=>DV x (JE n c (2 ^ n - 1)) m s.1 s.2 k) n (fun r=>((EK n c r:Int),KP n c r)) (some (KP n c n,VV n c (2 ^ n - 1))) (by omega) (j:=0) (by omega) (fun q r _ g=>?_) (fun q=>?_)
 ·exact ad
 ·dsimp only
  obtain ⟨v,ai,l,ag⟩:=h.row r g
  obtain ⟨⟨i1,i2⟩,i3⟩:=UQ h r (by omega)
  obtain ⟨i6,i4,i5⟩:=i3 g
  rw [DV,if_pos (by rw [h.len]; simp; omega),AY,ai,Aa]
  have IQ:=EM (EZ v (EK n c r:Int) (JE n c (2 ^ n - 1)) (KP n c r) (DV x (JE n c (2 ^ n - 1)) q) (r:Int)) n (fun k=>Ue ((List.range k).find? (Pt n c r (EK n c r)))) (DV x (JE n c (2 ^ n - 1)) q (EK n c (r + 1):Int) (KP n c (r + 1)) ((r + 1:Nat):Int)) (by omega) (j:=0) (by omega) (fun q k _ u=>?_) (fun q=>?_)
  ·exact IQ
  ·have hb:=h.bd r k g u
   rw [EZ,if_pos (by rw [l]; simp; omega)]
   unfold Bk
   dsimp only
   rw [AY,ag k u,Aa,Zs]
   cases hf:(List.range k).find? (Pt n c r (EK n c r)) with
   | some j =>
    unfold Ue
    dsimp only
    rw [if_neg (by simp),if_neg (by simp),AD (by omega)]
   | none =>
    unfold Ue
    dsimp only
    have ae:2 ^ k ≤ 4096:=Ay (Nat.pow_le_pow_right (by omega) (by omega:k ≤ n)) aa.2
    rw [if_pos (by simp),EN (by omega) (by omega),if_pos (by simp),Uv (by omega) (by omega)]
    by_cases e:(EK n c r).testBit k = true
    ·have hx:=Lv e
     have hv:=VE h.n12 h.bd (s:=EK n c r ^^^ 2 ^ k) (by omega)
     rw [if_pos e,AY,LA n c (by omega),Aa,L0 (by omega),WK (by omega) (by omega),AY,LA n c (by omega),Aa,A6 (by omega) (by omega),AD (by omega)]
     unfold Pt
     rw [e,Bool.true_and]
     by_cases f:c r k + VV n c (EK n c r ^^^ 2 ^ k) = VV n c (EK n c r)
     ·rw [if_pos (by simpa using f),if_pos (by simpa using f)]
     ·rw [if_neg (by simpa using f),if_neg (by simpa using f)]
    ·rw [if_neg e,if_neg (by simp),AD (by omega),if_neg]
     unfold Pt
     simp [e]
  ·have ae:2 ^ Ps n c r (EK n c r) ≤ 4096:=Ay (Nat.pow_le_pow_right (by omega) (by omega:Ps n c r (EK n c r) ≤ n)) aa.2
   rw [EZ,if_neg (by rw [l]; simp),i6]
   unfold Ue
   dsimp only
   rw [Bt (by rw [NT]; simp; omega),Aa,EN (by omega) (by omega),if_pos (by simp),L0 (by omega),WK (by omega) (by omega),AD (by omega),UX]
   rfl
 ·dsimp only
  rw [DV,if_neg (by rw [h.len]; simp),ab,A6 (by omega) (by omega),show ((2 ^ n:Nat):Int) - 1 = ((2 ^ n - 1:Nat):Int) by omega,AY,LA n c (by omega),Aa]
theorem QQ {x:List (List Int)} {n:Nat} {c:Nat → Nat → Int} (h:CO x n c):GW x = some (KP n c n):=by
 have ah:=O4 h.n12
 have hn:=h.n12
 unfold GW
 rw [Ub h,Aa]
 have v:=EM (fun m (s:Int × List Int) k=>Dx x (KC n c (2 ^ n - 1)) m s.1 s.2 k) n (fun r=>(((2 ^ n - 1 - EK n c r:Nat):Int),KP n c r)) (some (KP n c n)) (by omega) (j:=0) (by omega) (fun q r _ u=>?_) (fun q=>?_)
 ·have e:((2 ^ n - 1 - EK n c 0:Nat):Int) = 0:=by unfold EK; omega
  dsimp only at v
  rw [e] at v
  exact v
 ·dsimp only
  obtain ⟨ag,aj,an,ae⟩:=h.row r u
  obtain ⟨⟨i1,i2⟩,i3⟩:=UQ h r (by omega)
  obtain ⟨i6,i4,i5⟩:=i3 u
  rw [Dx,if_pos (by rw [h.len]; simp; omega)]
  unfold Gn
  dsimp only
  have IQ:=fun (l:Int → List Int → Ae (List Int))=>To (Dw x (KP n c r) l ((2 ^ n - 1 - EK n c r:Nat):Int) (r:Int) (KC n c (2 ^ n - 1))) n (Pt n c r (EK n c r)) (fun k=>l (((2 ^ n - 1 - EK n c r:Nat) ||| 2 ^ k:Nat):Int) (KP n c r ++ [(k:Int)])) (l ((2 ^ n - 1 - EK n c r:Nat):Int) (KP n c r)) (by omega) (fun q k g=>?_) (fun q=>?_)
  ·rw [IQ,i6]
   dsimp only
   rw [WE i1 i4 i5,AD (by omega),UX]
   rfl
  ·have hb:=h.bd r k u g
   have aq:2 ^ k ≤ 4096:=Ay (Nat.pow_le_pow_right (by omega) (by omega:k ≤ n)) ah.2
   rw [Dw,if_pos (by rw [h.len]; simp; omega)]
   unfold Bk
   dsimp only
   rw [if_pos (by simp),XO (by omega) (by omega),Px i1 g,Bool.not_not]
   by_cases f:(EK n c r).testBit k = true
   ·have hx:=Lv f
    have hv:=VE h.n12 h.bd (s:=EK n c r ^^^ 2 ^ k) (by omega)
    rw [if_pos f,AY,aj,Aa,AY,ae k g,Aa,AY,ME n c (by omega) (by omega),Aa,L0 (by omega),Yy (by omega) (by omega),WE i1 g f,AY,ME n c (by omega) (by omega),Aa,A6 (by omega) (by omega),AD (by omega),Bt (by rw [NT]; simp; omega),Aa,if_pos (c:=decide (0 ≤ (k:Int)) = true) (by simp)]
    unfold Pt
    rw [f,Bool.true_and]
    rfl
   ·rw [if_neg f,if_neg (by simp),AD (by omega),if_neg]
    unfold Pt
    simp [f]
  ·rw [Dw,if_neg (by rw [h.len]; simp)]
 ·dsimp only
  rw [Dx,if_neg (by rw [h.len]; simp)]
theorem Ny (c:List (Int × Int)) (h:c.length ≤ 1048576):Gp c = some c:=by
 unfold Gp
 rw [WQ (by simp; omega)]
 rfl
theorem SW (c:List Int) (h:c.length ≤ 1048576):JK c = some c:=by
 unfold JK
 rw [WQ (by simp; omega)]
 rfl
theorem Nc (c:List Int) (h:c.length ≤ 1048576):Ft c = some c:=by
 unfold Ft
 rw [WQ (by simp; omega)]
 rfl
def Ady (x:T5) (p n:Int):T5:=(x.1,BE x.2.1 p n,x.2.2.1,x.2.2.2)
theorem XX (l:List Int) (n:Int) (h:l.length < 4611686018427387904):KX l n = some (l.any (· == n)):=by
 unfold KX
 rw [N1 (Gc l n) l (fun u=>!(u == n)) (some false) (some true) h (fun m k u f e=>?_) (fun m=>?_)]
 ·have:l.any (· == n) = !l.all (fun u=>!(u == n)):=by simp [List.any_eq_not_all_not]
  rw [this]
  cases l.all (fun u=>!(u == n)) <;> simp
 ·rw [Gc,if_pos (by simp; omega),AY,e,Aa,AD (by omega)]
  cases u == n <;> simp
 ·rw [Gc,if_neg (by simp)]
abbrev BV:=Aev × Aev × Int × (List Int)
def IV (l:List Int) (i:Nat):Int:=(l[i]?).getD 0
theorem JG {l:List Int} {i:Nat} (h:i < l.length):l[i]? = some (IV l i):=by unfold IV; rw [Cp h]; rfl
def OY (l:List Int) (n:Nat) (i:Nat):Bool:=BN (IV l i) 0 ((n:Int) - 1) && !(l.take i).any (· == IV l i)
def Rz (l:List Int) (n:Nat):Bool:=(List.range l.length).all (OY l n) && ((l.length:Int) == (n:Int))
theorem Vo {l:List Int} {n:Nat} (e:l.length < 4611686018427387904) (g:n ≤ 12):Jy l (n:Int) = some (Rz l n):=by
 unfold Jy Rz
 rw [O7 (EA l (n:Int)) l.length (OY l n) (some ((l.length:Int) == (n:Int))) (some false) e (fun m k f=>?_) (fun m=>?_)]
 ·cases (List.range l.length).all (OY l n) <;> simp
 ·rw [EA,if_pos (by simp; omega),AY,JG f,Aa]
  unfold Bk OY
  dsimp only
  rw [CU,Aa,A6 (by omega) (by omega),LN _ (by omega),Aa,XX _ _ (by simp; omega),Aa,AD (by omega)]
  cases BN (IV l k) 0 ((n:Int) - 1) with
  | false=>rfl
  | true=>cases (l.take k).any (· == IV l k) <;> rfl
 ·rw [EA,if_neg (by simp)]
def QB (l:List Int) (i:Nat):Nat:=(l.take i).foldl (fun a k=>a ||| 2 ^ k.toNat) 0
theorem UN {l:List Int} {i:Nat} (h:i < l.length):QB l (i + 1) = QB l i ||| 2 ^ (IV l i).toNat:=by
 unfold QB
 rw [List.take_add_one,JG h,List.foldl_append]
 rfl
theorem SR {l:List Int} {n:Nat} (f:n ≤ 12):∀ i,i ≤ l.length → (∀ j,j < i → OY l n j = true) → QB l i < 2 ^ 12 ∧ ∀ b:Nat,(QB l i).testBit b = (l.take i).any (· == (b:Int))
 | 0,_,_=>⟨by unfold QB; simp,fun b=>by unfold QB; simp⟩
 | i + 1,h,hk=>by
  obtain ⟨h1,g⟩:=SR f i (by omega) (fun j s=>hk j (by omega))
  have e:=hk i (by omega)
  unfold OY at e
  rw [Cf,DB] at e
  have m:2 ^ (IV l i).toNat < 2 ^ 12:=Nat.pow_lt_pow_right (by omega) (by omega)
  rw [UN (by omega)]
  refine ⟨Nat.or_lt_two_pow h1 m,fun b=>?_⟩
  rw [Nat.testBit_or,g,Nat.testBit_two_pow,List.take_add_one,JG (by omega),List.any_append]
  congr 1
  rw [Bool.eq_iff_iff]
  simp
  omega
theorem Tu {l:List Int} {n:Nat} (u:l.length < 4611686018427387904) (hn:n ≤ 12):Io l (n:Int) = some (Rz l n):=by
 unfold Io Rz
 have:=Acr (Eh l (n:Int)) l.length (OY l n) (fun i=>(QB l i:Int)) (some ((l.length:Int) == (n:Int))) (some false) u (fun m k g h=>?_) (fun m=>?_)
 ·refine Eq.trans this ?_
  cases (List.range l.length).all (OY l n) <;> simp
 ·obtain ⟨h1,v⟩:=SR hn k (by omega) h
  rw [Eh,if_pos (by simp; omega),AY,JG g,Aa]
  unfold Bk OY
  dsimp only
  rw [CT,Aa,A6 (by omega) (by omega),AD (by omega)]
  cases ho:BN (IV l k) 0 ((n:Int) - 1) with
  | false=>rfl
  | true =>
   have s:=DB.1 ho
   have e:IV l k = ((IV l k).toNat:Int):=by omega
   have hp:2 ^ (IV l k).toNat < 2 ^ 12:=Nat.pow_lt_pow_right (by omega) (by omega)
   have f:=v (IV l k).toNat
   rw [← e] at f
   rw [if_neg (by simp),if_pos (by simpa using s.1)]
   conv=>lhs; rw [e]
   rw [Uv (by omega) (by omega),L0 (by omega),Yy (by omega) (by omega),f,UN g]
   cases (l.take k).any (· == IV l k)
   ·rw [if_neg (by simp),if_pos (decide_eq_true (Int.natCast_nonneg _)),if_pos (by simp)]
   ·simp
 ·rw [Eh,if_neg (by simp)]
def LI (a b:List (Int × Int)) (n:Int):Bool:=Cv a && (Cv b && (((a.length:Int) == (b.length:Int)) && BN n 1 64))
theorem Pw {a b:List (Int × Int)} {n:Int} (e:a.length < 4611686018427387904) (f:b.length < 4611686018427387904):H6 a b n = some (LI a b n):=by
 unfold H6 Bk LI
 dsimp only
 rw [GR a e,Aa,GR b f,CT,Aa,Aa]
 cases Cv a <;> cases Cv b <;> cases ((a.length:Int) == (b.length:Int)) <;> rfl
theorem RS {a b:List (Int × Int)} (e:a.length < 4611686018427387904) (f:b.length < 4611686018427387904):Ji a b = some (Cv a && (Cv b && ((a.length:Int) == (b.length:Int)))):=by
 unfold Ji Bk
 dsimp only
 rw [J5 a e,Aa,J5 b f,Aa]
 cases Cv a <;> cases Cv b <;> rfl
theorem QD {a b:List (Int × Int)} {n:Int} (e:a.length < 4611686018427387904) (f:b.length < 4611686018427387904):I3 a b n = some (LI a b n):=by
 unfold I3 Bk LI
 dsimp only
 rw [RS e f,Aa,CU,Aa]
 cases Cv a <;> cases Cv b <;> cases ((a.length:Int) == (b.length:Int)) <;> rfl
structure Aaw (a b:List (Int × Int)) (n:Int):Prop where
 ca:Cv a = true
 cb:Cv b = true
 le:a.length = b.length
 l1:1 ≤ a.length
 l12:a.length ≤ 12
 n1:1 ≤ n
 n64:n ≤ 64
theorem LH {a b:List (Int × Int)} {n:Int}:LI a b n = true ↔ Aaw a b n:=by
 unfold LI
 rw [Cf,Cf,Cf,DB,beq_iff_eq]
 constructor
 ·rintro ⟨h1,f,g,e⟩
  have:=Dc h1
  exact ⟨h1,f,by omega,this.1,this.2,e.1,e.2⟩
 ·rintro h
  exact ⟨h.ca,h.cb,by have:=h.le; omega,h.n1,h.n64⟩
def Lq (t:BV):Bool:=LI t.1 t.2.1 t.2.2.1 && Rz t.2.2.2 t.1.length
theorem Lr {t:BV} (h1:t.1.length < 4611686018427387904) (f:t.2.1.length < 4611686018427387904) (e:t.2.2.2.length < 4611686018427387904):Fp t = some (Lq t):=by
 unfold Fp Bk Lq LI
 dsimp only
 rw [GR _ h1,Aa,GR _ f,CT,Aa,Aa]
 cases g:Cv t.1 with
 | false=>rfl
 | true =>
  rw [Tu e (Dc g).2,Aa]
  cases Cv t.2.1 <;> cases ((t.1.length:Int) == (t.2.1.length:Int)) <;> cases BN t.2.2.1 1 64 <;> rfl
theorem OS {t:BV} (h1:t.1.length < 4611686018427387904) (f:t.2.1.length < 4611686018427387904) (e:t.2.2.2.length < 4611686018427387904):Ic t = some (Lq t):=by
 unfold Ic Bk Lq LI
 dsimp only
 rw [RS h1 f,Aa,CU,Aa]
 cases g:Cv t.1 with
 | false=>rfl
 | true =>
  rw [Vo e (Dc g).2,Aa]
  cases Cv t.2.1 <;> cases ((t.1.length:Int) == (t.2.1.length:Int)) <;> cases BN t.2.2.1 1 64 <;> rfl
def Qk:BV:=([],[],0,[])
def QM (n:Nat):List Int:=(List.range n).map fun (i:Nat)=>(i:Int)
def Em (a b:List (Int × Int)) (n:Int):BV × Bool:=if LI a b n = true then ((a,b,n,QM a.length),true) else (Qk,false)
theorem KS {a b:List (Int × Int)} {n:Int} {p:List Int} (e:a.length ≤ 1000) (f:b.length ≤ 1000) (g:p.length ≤ 1000):EI a b n p = some (a,b,n,p):=by
 unfold EI
 rw [Bt (by simp; omega),Aa,Bt (by simp; omega),Aa,Nc _ (by omega),Aa,List.nil_append,List.nil_append]
theorem OR {a b:List (Int × Int)} {n:Int} {p:List Int} (e:a.length ≤ 1000) (f:b.length ≤ 1000) (g:p.length ≤ 1000):Ib a b n p = some (a,b,n,p):=by
 unfold Ib
 rw [Ny _ (by omega),Aa,Ny _ (by omega),Aa,SW _ (by omega),Aa]
theorem NS (n:Nat):(QM n).length = n:=by unfold QM; simp
theorem UW (n:Nat):QM (n + 1) = QM n ++ [(n:Int)]:=by unfold QM; rw [List.range_succ,List.map_append]; rfl
theorem Mg {a b:List (Int × Int)} {n:Int} (g:a.length < 4611686018427387904) (h:b.length < 4611686018427387904):ER a b n = some (Em a b n):=by
 unfold ER Em
 rw [Pw g h,Aa]
 cases e:LI a b n with
 | false=>rfl
 | true =>
  have f:=LH.1 e
  have:=f.l12
  have:=f.le
  rw [if_neg (by simp),if_pos rfl]
  refine EM (Dg a b n) a.length QM _ (by omega) (j:=0) (by omega) (fun m k _ l=>?_) (fun m=>?_)
  ·rw [Dg,if_pos (by simp; omega),Bt (by simp [NS]; omega),Aa,AD (by omega),UW]
  ·rw [Dg,if_neg (by simp),KS (by omega) (by omega) (by rw [NS]; omega),Aa]
theorem LV {a b:List (Int × Int)} {n:Int} (g:a.length < 4611686018427387904) (h:b.length < 4611686018427387904):Gq a b n = some (Em a b n):=by
 unfold Gq Em
 rw [QD g h,Aa]
 cases e:LI a b n with
 | false=>rfl
 | true =>
  have f:=LH.1 e
  have:=f.l12
  have:=f.le
  rw [if_neg (by simp),if_pos rfl]
  refine EM (Df a b n) a.length QM _ (by omega) (j:=0) (by omega) (fun m k _ l=>?_) (fun m=>?_)
  ·rw [Df,if_pos (by simp; omega),Bt (by simp [NS]; omega),Aa,AD (by omega),UW]
  ·rw [Df,if_neg (by simp),OR (by omega) (by omega) (by rw [NS]; omega),Aa]
structure XQ (t:BV):Prop where
 can:Aaw t.1 t.2.1 t.2.2.1
 mat:t.2.2.2.length = t.1.length
 inR:∀ i,i < t.1.length → 0 ≤ IV t.2.2.2 i ∧ (IV t.2.2.2 i).toNat < t.2.1.length
theorem NX {t:BV} (h:Lq t = true):XQ t:=by
 unfold Lq Rz at h
 rw [Cf,Cf,List.all_eq_true,beq_iff_eq] at h
 obtain ⟨h1,g,l⟩:=h
 have f:=LH.1 h1
 refine ⟨f,by omega,fun i m=>?_⟩
 have e:=g i (List.mem_range.2 (by omega))
 unfold OY at e
 rw [Cf,DB] at e
 have:=f.le
 omega
def DY (l:List (Int × Int)) (i:Nat):Int × Int:=(l[i]?).getD (0,0)
theorem Dq {l:List (Int × Int)} {i:Nat} (h:i < l.length):l[i]? = some (DY l i):=by unfold DY; rw [Cp h]; rfl
theorem I8 {l:List (Int × Int)} (h:Cv l = true) {i:Nat} (e:i < l.length):CX (DY l i) = true:=(I9.1 h).2.1 _ (List.mem_of_getElem? (Dq e))
def Hn (t:BV) (i:Nat):Ga:=(DY t.1 i,DY t.2.1 (IV t.2.2.2 i).toNat,t.2.2.1)
def G7 (t:BV):List Ga:=(List.range t.1.length).map (Hn t)
theorem Ea (t:BV):(G7 t).length = t.1.length:=by unfold G7; simp
theorem Ix (t:BV) {i:Nat} (h:i < t.1.length):(G7 t)[i]? = some (Hn t i):=by unfold G7; simp [h]
theorem Wo (t:BV) (k:Nat):(List.range (k + 1)).map (Hn t) = (List.range k).map (Hn t) ++ [Hn t k]:=by rw [List.range_succ,List.map_append]; rfl
theorem Kc {t:BV} (f:XQ t) {i:Nat} (h:i < t.1.length):IA (Hn t i):=⟨I8 f.can.ca h,I8 f.can.cb (f.inR i h).2⟩
theorem Oe {t:BV} (f:XQ t):H5 t = some (G7 t):=by
 unfold H5
 have:=f.can.l12
 refine EM (Fk t) t.1.length (fun k=>(List.range k).map (Hn t)) _ (by omega) (j:=0) (by omega) (fun m k _ e=>?_) (fun m=>?_)
 ·have h:=f.mat
  have g:=f.inR k e
  rw [Fk,if_pos (by simp; omega),AY,JG (by omega),Aa,AY,Dq e,Aa,Iy g.1,Dq g.2,Aa,Bt (by simp; omega),Aa,AD (by omega),Wo]
  rfl
 ·rw [Fk,if_neg (by rw [f.mat]; simp)]
  rfl
theorem LU {t:BV} (f:XQ t):GE t = some (G7 t):=by
 unfold GE
 have:=f.can.l12
 refine EM (Fg t) t.1.length (fun k=>(List.range k).map (Hn t)) _ (by omega) (j:=0) (by omega) (fun m k _ e=>?_) (fun m=>?_)
 ·have h:=f.mat
  have g:=f.inR k e
  rw [Fg,if_pos (by simp; omega),AY,JG (by omega),Aa,AY,Dq e,Aa,Iy g.1,Dq g.2,Aa,Bt (by simp; omega),Aa,AD (by omega),Wo]
  rfl
 ·rw [Fg,if_neg (by rw [f.mat]; simp)]
  rfl
theorem LM {a b:Int × Int} (e:CX a = true) (f:CX b = true):GM a b = (a.1 - b.1) * (a.1 - b.1) + (a.2 - b.2) * (a.2 - b.2) ∧ 0 ≤ GM a b ∧ GM a b ≤ 2089984:=by
 have e:=FM.1 e
 have f:=FM.1 f
 have h1:=Mx (x:=a.1 - b.1) (A:=1280) (by omega) (by omega)
 have g:=Mx (x:=a.2 - b.2) (A:=672) (by omega) (by omega)
 unfold GM
 rw [A6 (x:=a.1 - b.1) (by omega) (by omega),A6 (x:=a.2 - b.2) (by omega) (by omega)]
 generalize (a.1 - b.1) * (a.1 - b.1) = A at *
 generalize (a.2 - b.2) * (a.2 - b.2) = B at *
 rw [A6 (x:=A) (by omega) (by omega),A6 (x:=B) (by omega) (by omega),A6 (by omega) (by omega)]
 omega
def NN (t:BV) (k:Nat):Int:=((List.range k).map fun i=>ST (Hn t i)).sum
theorem QC (t:BV) (k:Nat):NN t (k + 1) = NN t k + ST (Hn t k):=by unfold NN; rw [List.range_succ,List.map_append,List.sum_append]; simp
theorem Rw {t:BV} (f:XQ t):∀ k,k ≤ t.1.length → 0 ≤ NN t k ∧ NN t k ≤ 2089984 * (k:Int)
 | 0,_=>by simp [NN]
 | k + 1,h=>by
  have e:=Rw f k (by omega)
  have g:=Kc f (i:=k) (by omega)
  have:=(LM g.1 g.2).2
  rw [QC]
  unfold ST
  omega
def M3 (t:BV):Int × Bool:=if Lq t = true then (NN t t.1.length,true) else (0,false)
theorem Uc {t:BV} (h1:t.1.length < 4611686018427387904) (v:t.2.1.length < 4611686018427387904) (s:t.2.2.2.length < 4611686018427387904):H7 t = some (M3 t):=by
 unfold H7 M3
 rw [Lr h1 v s,Aa]
 cases u:Lq t with
 | false=>rfl
 | true =>
  have f:=NX u
  have:=f.can.l12
  have e:II t = some (NN t t.1.length):=by
   unfold II
   refine EM (Et t) t.1.length (NN t) _ (by omega) (j:=0) (by omega) (fun m k _ h=>?_) (fun m=>?_)
   ·have hm:=f.mat
    have l:=f.inR k h
    have hb:=Rw f k (by omega)
    have g:=Kc f h
    have hq:=(LM g.1 g.2).2
    have e:GM (DY t.1 k) (DY t.2.1 (IV t.2.2.2 k).toNat) = ST (Hn t k):=rfl
    rw [Et,if_pos (by simp; omega),AY,JG (by omega),Aa,AY,Dq h,Aa,Iy l.1,Dq l.2,Aa,Ho,Aa,AD (by omega),e,A6 (by unfold ST; omega) (by unfold ST; omega),QC]
   ·rw [Et,if_neg (by rw [f.mat]; simp)]
  rw [if_neg (by simp),e,if_pos rfl]
  rfl
theorem TN {t:BV} (h1:t.1.length < 4611686018427387904) (u:t.2.1.length < 4611686018427387904) (l:t.2.2.2.length < 4611686018427387904):H2 t = some (M3 t):=by
 unfold H2 M3
 rw [OS h1 u l,Aa]
 cases s:Lq t with
 | false=>rfl
 | true =>
  have f:=NX s
  have:=f.can.l12
  have e:KZ t = some (NN t t.1.length):=by
   unfold KZ
   rw [LU f,Aa]
   refine EM (Ge (G7 t)) t.1.length (NN t) _ (by omega) (j:=0) (by omega) (fun m k _ h=>?_) (fun m=>?_)
   ·have hb:=Rw f k (by omega)
    have g:=Kc f h
    have v:=(LM g.1 g.2).2
    have e:GM (Hn t k).1 (Hn t k).2.1 = ST (Hn t k):=rfl
    rw [Ge,if_pos (by rw [Ea]; simp; omega),AY,Ix t h,Aa,L6,Aa,AD (by omega),e,A6 (by unfold ST; omega) (by unfold ST; omega),QC]
   ·rw [Ge,if_neg (by rw [Ea]; simp)]
  rw [if_neg (by simp),e,if_pos rfl]
  rfl
def WD (a b:List (Int × Int)) (i k:Nat):Int:=GM (DY a i) (DY b k)
def Nd (a b:List (Int × Int)) (i:Nat) (n:Nat):List Int:=(List.range n).map (WD a b i)
def Mi (a b:List (Int × Int)) (n:Nat):List (List Int):=(List.range n).map fun i=>Nd a b i b.length
theorem Vg (a b:List (Int × Int)) (i n:Nat):Nd a b i (n + 1) = Nd a b i n ++ [WD a b i n]:=by unfold Nd; rw [List.range_succ,List.map_append]; rfl
theorem Vh (a b:List (Int × Int)) (n:Nat):Mi a b (n + 1) = Mi a b n ++ [Nd a b n b.length]:=by unfold Mi; rw [List.range_succ,List.map_append]; rfl
theorem TZ {a b:List (Int × Int)} (g:a.length ≤ 1000) (h:b.length ≤ 1000):IH a b = some (Mi a b a.length):=by
 unfold IH
 refine EM (DG a b) a.length (Mi a b) _ (by omega) (j:=0) (by omega) (fun m i _ f=>?_) (fun m=>?_)
 ·rw [DG,if_pos (by simp; omega),AY,Dq f,Aa]
  refine EM (Es b (DY a i) (Mi a b i) (DG a b m) (i:Int)) b.length (Nd a b i) _ (by omega) (j:=0) (by omega) (fun m k _ e=>?_) (fun m=>?_)
  ·rw [Es,if_pos (by simp; omega),AY,Dq e,Aa,Ho,Aa,Bt (by simp [Nd]; omega),Aa,AD (by omega),Vg]
   rfl
  ·rw [Es,if_neg (by simp),Bt (by simp [Mi]; omega),Aa,AD (by omega),Vh]
 ·rw [DG,if_neg (by simp)]
theorem VT {a b:List (Int × Int)} (g:a.length ≤ 1000) (h:b.length ≤ 1000):JP a b = some (Mi a b a.length):=by
 unfold JP
 refine EM (Ey a b) a.length (Mi a b) _ (by omega) (j:=0) (by omega) (fun m i _ f=>?_) (fun m=>?_)
 ·rw [Ey,if_pos (by simp; omega),AY,Dq f,Aa]
  refine EM (Fh b (DY a i) (Mi a b i) (Ey a b m) (i:Int)) b.length (Nd a b i) _ (by omega) (j:=0) (by omega) (fun m k _ e=>?_) (fun m=>?_)
  ·rw [Fh,if_pos (by simp; omega),AY,Dq e,Aa,L6,Aa,Bt (by simp [Nd]; omega),Aa,AD (by omega),Vg]
   rfl
  ·rw [Fh,if_neg (by simp),Bt (by simp [Mi]; omega),Aa,AD (by omega),Vh]
 ·rw [Ey,if_neg (by simp)]
theorem Zu {a b:List (Int × Int)} {n:Int} (f:Aaw a b n):CO (Mi a b a.length) a.length (WD a b):=by
 have h:=f.le
 refine ⟨by simp [Mi],fun i e=>⟨Nd a b i b.length,by simp [Mi,e],by simp [Nd,h],fun k g=>?_⟩,fun i k e g=>?_,f.l1,f.l12⟩
 ·have:k < b.length:=by omega
  simp [Nd,this]
 ·have:=(LM (I8 f.ca e) (I8 f.cb (by omega:k < b.length))).2
  unfold WD
  omega
def Fz (a b:List (Int × Int)) (n:Int):BV × Bool:=if LI a b n = true then ((a,b,n,KP a.length (WD a b) a.length),true) else (Qk,false)
theorem PU {a b:List (Int × Int)} {n:Int} (g:a.length < 4611686018427387904) (h:b.length < 4611686018427387904):Gt a b n = some (Fz a b n):=by
 unfold Gt Fz
 rw [Pw g h,Aa]
 cases e:LI a b n with
 | false=>rfl
 | true =>
  have f:=LH.1 e
  have:=f.l12
  have:=f.le
  rw [if_neg (by simp),if_pos rfl,TZ (by omega) (by omega),Aa,QQ (Zu f),Aa,KS (by omega) (by omega) (by rw [NT]; omega),Aa]
theorem PI {a b:List (Int × Int)} {n:Int} (g:a.length < 4611686018427387904) (h:b.length < 4611686018427387904):Gr a b n = some (Fz a b n):=by
 unfold Gr Fz
 rw [QD g h,Aa]
 cases e:LI a b n with
 | false=>rfl
 | true =>
  have f:=LH.1 e
  have:=f.l12
  have:=f.le
  rw [if_neg (by simp),if_pos rfl,VT (by omega) (by omega),Aa,VS (Zu f),Aa,OR (by omega) (by omega) (by rw [NT]; omega),Aa]
structure SmT (t:BV):Prop where
 h1:t.1.length ≤ 12
 h2:t.2.1.length ≤ 12
 h3:t.2.2.2.length ≤ 12
theorem SmT.sum {t:BV} (h:SmT t):H7 t = some (M3 t) ∧ H2 t = some (M3 t):=by
 have:=h.h1
 have:=h.h2
 have:=h.h3
 exact ⟨Uc (by omega) (by omega) (by omega),TN (by omega) (by omega) (by omega)⟩
theorem Zg:SmT Qk:=⟨by simp [Qk],by simp [Qk],by simp [Qk]⟩
theorem UY (a b:List (Int × Int)) (n:Int):SmT (Em a b n).1:=by
 unfold Em
 split
 ·rename_i h
  have f:=LH.1 h
  have:=f.l12
  have:=f.le
  exact ⟨by dsimp only; omega,by dsimp only; omega,by dsimp only; rw [NS]; omega⟩
 ·exact Zg
theorem Zk (a b:List (Int × Int)) (n:Int):SmT (Fz a b n).1:=by
 unfold Fz
 split
 ·rename_i h
  have f:=LH.1 h
  have:=f.l12
  have:=f.le
  exact ⟨by dsimp only; omega,by dsimp only; omega,by dsimp only; rw [NT]; omega⟩
 ·exact Zg
theorem So:Lq Qk = false:=by decide
theorem Abd (t:BV):0 ≤ (M3 t).1 ∧ (M3 t).1 ≤ 100000000:=by
 unfold M3
 split
 ·rename_i h
  have f:=NX h
  have:=f.can.l12
  have:=Rw f t.1.length (by omega)
  dsimp only
  omega
 ·simp
def Wf (bad:Nat → Nat → Bool) (n i:Nat):List (List Int):=((List.range' (i + 1) (n - (i + 1))).filter (bad i)).map fun (k:Nat)=>[(i:Int),(k:Int)]
def J9 (bad:Nat → Nat → Bool) (n j:Nat):List (List Int):=(List.range j).foldl (fun s i=>s ++ Wf bad n i) []
theorem ZM (e:Nat → Nat → Bool) (n i:Nat):(Wf e n i).length ≤ n:=by
 unfold Wf
 rw [List.length_map]
 refine Ay (List.length_filter_le _ _) ?_
 simp
theorem PM (e:Nat → Nat → Bool) (n j:Nat):J9 e n (j + 1) = J9 e n j ++ Wf e n j:=by unfold J9; rw [List.range_succ,List.foldl_append]; rfl
theorem QN (e:Nat → Nat → Bool) (n:Nat):∀ j,(J9 e n j).length ≤ n * j
 | 0=>by simp [J9]
 | j + 1=>by
  have:=QN e n j
  have:=ZM e n j
  rw [PM,CM,Nat.mul_succ]
  omega
theorem N0 (F1:Nat → List (List Int) → Int → Ae Ae0) (F2:(List (List Int) → Int → Ae Ae0) → Nat → Nat → List (List Int) → Int → Ae Ae0) (e:Nat → Nat → Bool) (n:Nat) (u:n ≤ 100)
  (h1:∀ m s i,i < n → F1 (m + 1) s (i:Int) = F2 (F1 m) i FU s ((i + 1:Nat):Int))
  (l:∀ nx i m s k,i < n → k < n → s.length ≤ 1000000 → F2 nx i (m + 1) s (k:Int) = F2 nx i m (if e i k then s ++ [[(i:Int),(k:Int)]] else s) ((k + 1:Nat):Int))
  (h:∀ nx i m s,i < n → F2 nx i (m + 1) s (n:Int) = nx s ((i + 1:Nat):Int))
  (g:∀ m s,F1 (m + 1) s (n:Int) = some s):F1 FU [] 0 = some (J9 e n n):=by
 refine EM F1 n (J9 e n) _ (by omega) (j:=0) (by omega) (fun m i _ f=>?_) (fun m=>g m _)
 have hl:=QN e n i
 have hm:n * i ≤ 100 * 100:=Nat.mul_le_mul u (by omega)
 rw [h1 m _ i f,ZX (F2 (F1 m) i) n 1000000 (e i) (fun (k:Nat)=>[(i:Int),(k:Int)]) (fun s=>F1 m s ((i + 1:Nat):Int)) (by omega) (fun q s k v hs=>l _ i q s k f v (by omega)) (fun q s=>h _ i q s f) (i + 1) (J9 e n i) (by omega) (by omega),PM]
 rfl
theorem Zd {e:Nat → Nat → Bool} {n j:Nat} {q:List Int} (h:q ∈ J9 e n j):∃ i k:Nat,q = [(i:Int),(k:Int)] ∧ i < j ∧ i < k ∧ k < n ∧ e i k = true:=by
 induction j with
 | zero=>cases h
 | succ j l =>
  rw [PM,AX] at h
  rcases h with h | h
  ·obtain ⟨i,k,h1,m,g⟩:=l h
   exact ⟨i,k,h1,by omega,g⟩
  ·unfold Wf at h
   obtain ⟨k,f,rfl⟩:=List.mem_map.1 h
   rw [List.mem_filter,List.mem_range'_1] at f
   exact ⟨j,k,rfl,by omega,by omega,by omega,f.2⟩
def XM (t:BV) (least:Int) (i k:Nat):Bool:=!Sj (Hn t i) (Hn t k) least
def Lg (t:BV) (least:Int):Ae0 × Bool:=if (Lq t && BN least 0 80) = true then (J9 (XM t least) t.1.length t.1.length,true) else ([],false)
theorem QT {t:BV} (h:SmT t) (g:Int):Ha t g = some (Lg t g):=by
 have:=h.h1
 have:=h.h2
 have:=h.h3
 unfold Ha Bk Lg
 dsimp only
 rw [Lr (by omega) (by omega) (by omega),Aa,QR,Aa]
 cases ho:Lq t with
 | false=>rfl
 | true =>
  cases l:BN g 0 80 with
  | false=>rfl
  | true =>
   have f:=NX ho
   have e:GZ t g = some (J9 (XM t g) t.1.length t.1.length):=by
    unfold GZ
    rw [Oe f,Aa]
    refine N0 (Dz (G7 t) g) (fun u i=>Dy (G7 t) (i:Int) g u) _ _ (by omega) (fun m s i l=>?_) (fun u i m s k l v hs=>?_) (fun u i m s l=>?_) (fun m s=>?_)
    ·rw [Dz,if_pos (by rw [Ea]; simp; omega),AD (by omega)]
    ·rw [Dy,if_pos (by rw [Ea]; simp; omega)]
     unfold Bk XM
     dsimp only
     rw [AY,Ix t l,Aa,AY,Ix t v,Aa,TY _ _ _ (Kc f l) (Kc f v),Aa,Bt (by simp; omega),Aa,AD (by omega)]
     cases Sj (Hn t i) (Hn t k) g <;> rfl
    ·rw [Dy,if_neg (by rw [Ea]; simp),AD (by omega)]
    ·rw [Dz,if_neg (by rw [Ea]; simp)]
   rw [e]
   rfl
theorem QE {t:BV} (h:SmT t) (g:Int):GU t g = some (Lg t g):=by
 have:=h.h1
 have:=h.h2
 have:=h.h3
 unfold GU Lj Bk Lg
 dsimp only
 rw [OS (by omega) (by omega) (by omega),Aa,O1,Aa]
 cases ho:Lq t with
 | false=>rfl
 | true =>
  cases l:BN g 0 80 with
  | false=>rfl
  | true =>
   have f:=NX ho
   have e:JO t g = some (J9 (XM t g) t.1.length t.1.length):=by
    unfold JO
    rw [LU f,Aa]
    refine N0 (Ff (G7 t) g) (fun u i=>Fe (G7 t) (Hn t i) g (i:Int) u) _ _ (by omega) (fun m s i l=>?_) (fun u i m s k l v hs=>?_) (fun u i m s l=>?_) (fun m s=>?_)
    ·rw [Ff,if_pos (by rw [Ea]; simp; omega),AY,Ix t l,Aa,AD (by omega)]
    ·rw [Fe,if_pos (by rw [Ea]; simp; omega)]
     unfold Bk XM
     dsimp only
     rw [AY,Ix t v,Aa,Xj _ _ _ (Kc f l) (Kc f v),Aa,Bt (by simp; omega),Aa,AD (by omega)]
     cases Sj (Hn t i) (Hn t k) g <;> rfl
    ·rw [Fe,if_neg (by rw [Ea]; simp),AD (by omega)]
    ·rw [Ff,if_neg (by rw [Ea]; simp)]
   rw [e]
   rfl
theorem MW {a b:Int} (ha:0 ≤ a) (ae:a ≤ 4000000000000000000) (v:0 < b) (ab:b ≤ 1000000000000000) :
  ∃ g:Int,0 < g ∧ a = (Is a b).1 * g ∧ b = (Is a b).2 * g ∧ 0 ≤ (Is a b).1 ∧ (Is a b).1 ≤ a ∧ 0 < (Is a b).2 ∧ (Is a b).2 ≤ b:=by
 have f:0 < Nat.gcd a.toNat b.toNat:=Nat.gcd_pos_of_pos_right _ (by omega)
 obtain ⟨x,hx⟩:=Nat.gcd_dvd_left a.toNat b.toNat
 obtain ⟨y,hy⟩:=Nat.gcd_dvd_right a.toNat b.toNat
 have l:a = ((Nat.gcd a.toNat b.toNat * x:Nat):Int):=by omega
 have e:b = ((Nat.gcd a.toNat b.toNat * y:Nat):Int):=by omega
 unfold Is
 generalize Nat.gcd a.toNat b.toNat = g at *
 have ac:x ≤ g * x:=Nat.le_mul_of_pos_left _ f
 have u:y ≤ g * y:=Nat.le_mul_of_pos_left _ f
 have m:Int.tdiv a (g:Int) = (x:Int):=by rw [l,Int.natCast_mul,Int.mul_comm,Int.mul_tdiv_cancel _ (by omega)]
 have s:Int.tdiv b (g:Int) = (y:Int):=by rw [e,Int.natCast_mul,Int.mul_comm,Int.mul_tdiv_cancel _ (by omega)]
 rw [m,s,A6 (by omega) (by omega),A6 (by omega) (by omega)]
 have y0:0 < y:=by
  rcases Nat.eq_zero_or_pos y with h | h
  ·subst h; simp at e; omega
  ·exact h
 refine ⟨(g:Int),by omega,?_,?_,by omega,by omega,by omega,by omega⟩
 ·dsimp only; rw [l,Int.natCast_mul,Int.mul_comm]
 ·dsimp only; rw [e,Int.natCast_mul,Int.mul_comm]
def G9 (M:Int) (f:Int × Int):Bool:=decide (f.1 < M * f.2)
theorem PP {a b g:Int} (e:0 < g):a * g < b * g ↔ a < b :=
 ⟨fun h=>Int.lt_of_mul_lt_mul_right h (Int.le_of_lt e),fun h=>Int.mul_lt_mul_of_pos_right h e⟩
theorem Zz {M a b e f g:Int} (h:0 < g) (m:a = e * g) (l:b = f * g):G9 M (a,b) = G9 M (e,f):=by
 unfold G9
 rw [decide_eq_decide]
 dsimp only
 rw [m,l,← Int.mul_assoc,PP h]
theorem Uw {M a b:Int} (m:0 ≤ a) (l:a ≤ 4000000000000000000) (f:0 < b) (h:b ≤ 1000000000000000):G9 M (Is a b) = G9 M (a,b):=by
 obtain ⟨g,e,h1,s,_⟩:=MW m l f h
 rw [Zz e h1 s]
def OX (a b:Int × Int):Int × Int:=if R1 b.1 b.2 a.1 a.2 = true then b else a
theorem WN {M:Int} {a b:Int × Int} (f:0 < a.2) (g:0 < b.2):G9 M (OX a b) = (G9 M a || G9 M b):=by
 unfold OX R1
 by_cases h:b.1 * a.2 < a.1 * b.2
 ·rw [if_pos (decide_eq_true h)]
  rw [Bool.eq_iff_iff,Bool.or_eq_true]
  refine ⟨.inr,fun h1=>h1.elim (fun h1=>?_) id⟩
  unfold G9 at h1 ⊢
  rw [C9] at h1 ⊢
  have l:a.1 * b.2 < M * a.2 * b.2:=Int.mul_lt_mul_of_pos_right h1 g
  have e:b.1 * a.2 < M * b.2 * a.2:=by
   have:M * a.2 * b.2 = M * b.2 * a.2:=by rw [Int.mul_assoc,Int.mul_comm a.2,← Int.mul_assoc]
   omega
  exact (PP f).1 e
 ·rw [if_neg (by simpa using h)]
  rw [Bool.eq_iff_iff,Bool.or_eq_true]
  refine ⟨.inl,fun h1=>h1.elim id (fun h1=>?_)⟩
  unfold G9 at h1 ⊢
  rw [C9] at h1 ⊢
  have l:b.1 * a.2 < M * b.2 * a.2:=Int.mul_lt_mul_of_pos_right h1 f
  have e:a.1 * b.2 < M * a.2 * b.2:=by
   have:M * a.2 * b.2 = M * b.2 * a.2:=by rw [Int.mul_assoc,Int.mul_comm a.2,← Int.mul_assoc]
   omega
  exact (PP g).1 e
abbrev HS:=Int × Int
def IQ (P Q:HS):Bool:=decide (P.1 * (Q.1 - P.1) + P.2 * (Q.2 - P.2) < 0) && decide (0 - (P.1 * (Q.1 - P.1) + P.2 * (Q.2 - P.2)) < (Q.1 - P.1) * (Q.1 - P.1) + (Q.2 - P.2) * (Q.2 - P.2))
def H9 (P Q:HS):Int:=P.1 * Q.2 - P.2 * Q.1
def Lw (P Q:HS):Int:=(Q.1 - P.1) * (Q.1 - P.1) + (Q.2 - P.2) * (Q.2 - P.2)
def Jr (P:HS):Int:=P.1 * P.1 + P.2 * P.2
def IW (P Q:HS):Int × Int:=if IQ P Q = true then (H9 P Q * H9 P Q,Lw P Q) else (Jr Q,1)
def LW (P Q:HS):Int × Int:=if IQ P Q = true then (H9 P Q * H9 P Q,Lw P Q) else (min (Jr P) (Jr Q),1)
theorem Aay (x:Int):0 ≤ x * x:=by
 have:(0:Int) ≤ ((x.natAbs * x.natAbs:Nat):Int):=Int.natCast_nonneg _
 rwa [Int.natAbs_mul_self] at this
theorem Aee (P Q:HS):H9 P Q * H9 P Q + (P.1 * (Q.1 - P.1) + P.2 * (Q.2 - P.2)) * (P.1 * (Q.1 - P.1) + P.2 * (Q.2 - P.2)) = Jr P * Lw P Q:=by
 unfold H9 Jr Lw
 grind
theorem Adt (P Q:HS):H9 P Q * H9 P Q + (Q.1 * (Q.1 - P.1) + Q.2 * (Q.2 - P.2)) * (Q.1 * (Q.1 - P.1) + Q.2 * (Q.2 - P.2)) = Jr Q * Lw P Q:=by
 unfold H9 Jr Lw
 grind
theorem Ac7 (P Q:HS):H9 P Q * H9 P Q ≤ Jr P * Lw P Q ∧ H9 P Q * H9 P Q ≤ Jr Q * Lw P Q:=by
 have h1:=Aee P Q
 have f:=Adt P Q
 have g:=Aay (P.1 * (Q.1 - P.1) + P.2 * (Q.2 - P.2))
 have e:=Aay (Q.1 * (Q.1 - P.1) + Q.2 * (Q.2 - P.2))
 omega
theorem Sr {P Q:HS} (h:IQ P Q = true):0 < Lw P Q:=by
 unfold IQ at h
 rw [Cf,C9,C9] at h
 unfold Lw
 omega
theorem Abs {M a b:Int}:G9 M (min a b,1) = (G9 M (a,1) || G9 M (b,1)):=by
 unfold G9
 rw [Bool.eq_iff_iff,Bool.or_eq_true]
 simp only [C9]
 omega
theorem Vj {M:Int} {P Q:HS} (h:IQ P Q = true):(G9 M (Jr P,1) = true → G9 M (IW P Q) = true) ∧ (G9 M (Jr Q,1) = true → G9 M (IW P Q) = true):=by
 have g:=Sr h
 obtain ⟨l,m⟩:=Ac7 P Q
 have f:∀ x,H9 P Q * H9 P Q ≤ x * Lw P Q → G9 M (x,1) = true → G9 M (IW P Q) = true:=by
  intro x s e
  unfold G9 IW at *
  rw [if_pos h]
  rw [C9] at e ⊢
  dsimp only at e ⊢
  have:x * Lw P Q < M * 1 * Lw P Q:=Int.mul_lt_mul_of_pos_right e g
  rw [Int.mul_one] at this
  omega
 exact ⟨f _ l,f _ m⟩
theorem WO {M:Int} {P Q:HS}:G9 M (LW P Q) = if IQ P Q = true then G9 M (IW P Q) else (G9 M (Jr P,1) || G9 M (Jr Q,1)):=by
 unfold LW IW
 split
 ·rfl
 ·exact Abs
def Mk (M:Int) (D:Nat → HS):Nat → Bool
 | 0=>G9 M (Jr (D 0),1)
 | k + 1=>Mk M D k || G9 M (IW (D k) (D (k + 1)))
def KD (M:Int) (D:Nat → HS):Nat → Bool
 | 0=>false
 | k + 1=>KD M D k || G9 M (LW (D k) (D (k + 1)))
theorem Abx {M:Int} {D:Nat → HS}:∀ k,G9 M (Jr (D k),1) = true → Mk M D k = true
 | 0,h=>h
 | k + 1,h=>by
  rw [Mk,Bool.or_eq_true]
  right
  by_cases e:IQ (D k) (D (k + 1)) = true
  ·exact (Vj e).2 h
  ·unfold IW
   rw [if_neg e]
   exact h
theorem Adc {M:Int} {D:Nat → HS}:∀ k,Mk M D (k + 1) = KD M D (k + 1):=by
 have l:∀ k,KD M D k = true → Mk M D k = true:=by
  intro k
  induction k with
  | zero=>intro h; cases h
  | succ k f =>
   intro h
   rw [KD,Bool.or_eq_true,WO] at h
   rw [Mk,Bool.or_eq_true]
   rcases h with h | h
   ·exact .inl (f h)
   ·by_cases e:IQ (D k) (D (k + 1)) = true
    ·rw [if_pos e] at h; exact .inr h
    ·rw [if_neg e,Bool.or_eq_true] at h
     rcases h with h | h
     ·exact .inl (Abx k h)
     ·right; unfold IW; rw [if_neg e]; exact h
 have m:∀ k,Mk M D (k + 1) = true → KD M D (k + 1) = true:=by
  have g:∀ k,G9 M (IW (D k) (D (k + 1))) = true → KD M D (k + 1) = true:=by
   intro k h
   rw [KD,Bool.or_eq_true,WO]
   right
   by_cases e:IQ (D k) (D (k + 1)) = true
   ·rw [if_pos e]; exact h
   ·rw [if_neg e,Bool.or_eq_true]
    unfold IW at h
    rw [if_neg e] at h
    exact .inr h
  intro k
  induction k with
  | zero =>
   intro h
   rw [Mk,Mk,Bool.or_eq_true] at h
   rcases h with h | h
   ·rw [KD,KD,Bool.false_or,WO]
    by_cases e:IQ (D 0) (D (0 + 1)) = true
    ·rw [if_pos e]; exact (Vj e).1 h
    ·rw [if_neg e,Bool.or_eq_true]; exact .inl h
   ·exact g 0 h
  | succ k f =>
   intro h
   rw [Mk,Bool.or_eq_true] at h
   rcases h with h | h
   ·rw [KD,Bool.or_eq_true]; exact .inl (f h)
   ·exact g (k + 1) h
 intro k
 rw [Bool.eq_iff_iff]
 exact ⟨m k,l (k + 1)⟩
def tD (C p k:Int):Int:=max 0 (min C (k - p))
def DC (m:Ga) (p k:Int):HS:=(m.1.1 * m.2.2 + (m.2.1.1 - m.1.1) * tD m.2.2 p k,m.1.2 * m.2.2 + (m.2.1.2 - m.1.2) * tD m.2.2 p k)
theorem XT {C p k:Int} (h:1 ≤ C):0 ≤ tD C p k ∧ tD C p k ≤ C:=by unfold tD; omega
theorem Ti {a b c k B:Int} (e:0 ≤ a ∧ a ≤ B) (f:0 ≤ b ∧ b ≤ B) (g:0 ≤ k ∧ k ≤ c):0 ≤ a * c + (b - a) * k ∧ a * c + (b - a) * k ≤ B * c ∧ 0 ≤ a * c ∧ a * c ≤ B * c ∧ - (B * c) ≤ (b - a) * k ∧ (b - a) * k ≤ B * c:=by
 have h1:a * c + (b - a) * k = a * (c - k) + b * k:=by rw [Int.sub_mul,Int.mul_sub]; omega
 have h2:0 ≤ a * (c - k):=Int.mul_nonneg e.1 (by omega)
 have u:0 ≤ b * k:=Int.mul_nonneg f.1 g.1
 have s:a * (c - k) ≤ B * (c - k):=Int.mul_le_mul_of_nonneg_right e.2 (by omega)
 have v:b * k ≤ B * k:=Int.mul_le_mul_of_nonneg_right f.2 g.1
 have l:0 ≤ a * c:=Int.mul_nonneg e.1 (by omega)
 have h:a * c ≤ B * c:=Int.mul_le_mul_of_nonneg_right e.2 (by omega)
 have m:B * c = B * (c - k) + B * k:=by rw [← Int.mul_add]; congr 1; omega
 exact ⟨by omega,by omega,l,h,by omega,by omega⟩
theorem X8 {m:Ga} (g:IA m) (h:1 ≤ m.2.2) (s:m.2.2 ≤ 16) (p k:Int):(0 ≤ (DC m p k).1 ∧ (DC m p k).1 ≤ 20480) ∧ 0 ≤ (DC m p k).2 ∧ (DC m p k).2 ≤ 10752:=by
 have h1:=FM.1 g.1
 have f:=FM.1 g.2
 have e:=XT (C:=m.2.2) (p:=p) (k:=k) h
 have u:=Ti h1.1 f.1 e
 have l:=Ti h1.2 f.2 e
 unfold DC
 dsimp only
 omega
theorem Yz {m:Ga} (g:IA m) (l:1 ≤ m.2.2) (s:m.2.2 ≤ 16) {t:Int} (e:0 ≤ t ∧ t ≤ m.2.2):FQ m t = some (m.1.1 * m.2.2 + (m.2.1.1 - m.1.1) * t,m.1.2 * m.2.2 + (m.2.1.2 - m.1.2) * t) ∧ L2 m t = some (m.1.1 * m.2.2 + (m.2.1.1 - m.1.1) * t,m.1.2 * m.2.2 + (m.2.1.2 - m.1.2) * t):=by
 have h1:=FM.1 g.1
 have f:=FM.1 g.2
 have u:=Ti h1.1 f.1 e
 have h:=Ti h1.2 f.2 e
 unfold FQ L2
 rw [A6 (x:=m.2.1.1 - m.1.1) (by omega) (by omega),A6 (x:=m.2.1.2 - m.1.2) (by omega) (by omega),Int.mul_comm t,Int.mul_comm t,A6 (x:=m.1.1 * m.2.2) (by omega) (by omega),A6 (x:=m.1.2 * m.2.2) (by omega) (by omega),A6 (x:=(m.2.1.1 - m.1.1) * t) (by omega) (by omega),A6 (x:=(m.2.1.2 - m.1.2) * t) (by omega) (by omega),
  A6 (x:=m.1.1 * m.2.2 + _) (by omega) (by omega),A6 (x:=m.1.2 * m.2.2 + _) (by omega) (by omega)]
 exact ⟨rfl,rfl⟩
theorem Nn {m:Ga} (g:IA m) (f:1 ≤ m.2.2) (h:m.2.2 ≤ 16) {p k:Int} (s:0 ≤ p ∧ p ≤ 4) (l:0 ≤ k ∧ k ≤ 1000):Gg m p k = some (DC m p k):=by
 unfold Gg
 have e:Fn (Fy (Ag (k - p)) 0) m.2.2 = tD m.2.2 p k:=by
  rw [A6 (by omega) (by omega)]
  unfold Fn Fy tD
  split <;> split <;> omega
 rw [e,(Yz g f h (XT f)).1]
 rfl
theorem QO (a b:Int):Hp a b = some (max a b):=by
 unfold Hp
 by_cases h:b < a
 ·rw [if_pos (by simpa using h),Int.max_eq_left (by omega)]
 ·rw [if_neg (by simpa using h),Int.max_eq_right (by omega)]
theorem O0 {m:Ga} (g:IA m) (e:1 ≤ m.2.2) (f:m.2.2 ≤ 16) {p k:Int} (l:0 ≤ p ∧ p ≤ 4) (h:0 ≤ k ∧ k ≤ 1000):Iv m p k = some (DC m p k):=by
 unfold Iv
 rw [A6 (by omega) (by omega),Kd,Aa,QO,Aa]
 rw [show max 0 (min m.2.2 (k - p)) = tD m.2.2 p k by rfl,(Yz g e f (XT e)).2]
 rfl
structure Ms (P:HS):Prop where
 a1:-20480 ≤ P.1
 a2:P.1 ≤ 20480
 b1:-10752 ≤ P.2
 b2:P.2 ≤ 10752
structure Aek (P Q:HS):Prop where
 m1:-838860800 ≤ P.1 * (Q.1 - P.1) ∧ P.1 * (Q.1 - P.1) ≤ 838860800
 m2:-231211008 ≤ P.2 * (Q.2 - P.2) ∧ P.2 * (Q.2 - P.2) ≤ 231211008
 m3:0 ≤ (Q.1 - P.1) * (Q.1 - P.1) ∧ (Q.1 - P.1) * (Q.1 - P.1) ≤ 1677721600
 m4:0 ≤ (Q.2 - P.2) * (Q.2 - P.2) ∧ (Q.2 - P.2) * (Q.2 - P.2) ≤ 462422016
 m5:0 ≤ P.1 * P.1 ∧ P.1 * P.1 ≤ 419430400
 m6:0 ≤ P.2 * P.2 ∧ P.2 * P.2 ≤ 115605504
 m7:0 ≤ Q.1 * Q.1 ∧ Q.1 * Q.1 ≤ 419430400
 m8:0 ≤ Q.2 * Q.2 ∧ Q.2 * Q.2 ≤ 115605504
 m9:-220200960 ≤ P.1 * Q.2 ∧ P.1 * Q.2 ≤ 220200960
 m10:-220200960 ≤ P.2 * Q.1 ∧ P.2 * Q.1 ≤ 220200960
 m11:0 ≤ H9 P Q * H9 P Q ∧ H9 P Q * H9 P Q ≤ 193953851139686400
 m12:-440401920 ≤ P.1 * (Q.2 - P.2) ∧ P.1 * (Q.2 - P.2) ≤ 440401920
 m13:-440401920 ≤ P.2 * (Q.1 - P.1) ∧ P.2 * (Q.1 - P.1) ≤ 440401920
 m14:P.1 * (Q.2 - P.2) - P.2 * (Q.1 - P.1) = H9 P Q
theorem Yx {P Q:HS} (hP:Ms P) (v:Ms Q):Aek P Q:=by
 obtain ⟨h,e,f,g⟩:=hP
 obtain ⟨l,m,s,u⟩:=v
 have m9:=Mc h e s u
 have ad:=Mc f g l m
 have ac:=Mx (x:=H9 P Q) (A:=440401920) (by unfold H9; omega) (by unfold H9; omega)
 refine ⟨Mc (A:=20480) (B:=40960) h e (by omega) (by omega),Mc (A:=10752) (B:=21504) f g (by omega) (by omega),Mx (A:=40960) (by omega) (by omega),Mx (A:=21504) (by omega) (by omega),Mx h e,Mx f g,Mx l m,Mx s u,by omega,by omega,by omega,Mc (A:=20480) (B:=21504) h e (by omega) (by omega),Mc (A:=10752) (B:=40960) f g (by omega) (by omega),?_⟩
 unfold H9
 grind
theorem X3 {P Q:HS} (f:Ms P) (g:Ms Q):0 ≤ (IW P Q).1 ∧ (IW P Q).1 ≤ 193953851139686400 ∧ 0 < (IW P Q).2 ∧ (IW P Q).2 ≤ 2200000000:=by
 have b:=Yx f g
 have:=b.m3
 have:=b.m4
 have:=b.m7
 have:=b.m8
 have:=b.m11
 unfold IW
 split
 ·rename_i h
  have:=Sr h
  have e:Lw P Q = (Q.1 - P.1) * (Q.1 - P.1) + (Q.2 - P.2) * (Q.2 - P.2):=rfl
  dsimp only
  omega
 ·have e:Jr Q = Q.1 * Q.1 + Q.2 * Q.2:=rfl
  dsimp only
  omega
theorem TP {P Q:HS} (f:Ms P) (g:Ms Q):0 ≤ (LW P Q).1 ∧ (LW P Q).1 ≤ 193953851139686400 ∧ 0 < (LW P Q).2 ∧ (LW P Q).2 ≤ 2200000000:=by
 have b:=Yx f g
 have:=b.m3
 have:=b.m4
 have:=b.m5
 have:=b.m6
 have:=b.m7
 have:=b.m8
 have:=b.m11
 unfold LW
 split
 ·rename_i h
  have:=Sr h
  have e:Lw P Q = (Q.1 - P.1) * (Q.1 - P.1) + (Q.2 - P.2) * (Q.2 - P.2):=rfl
  dsimp only
  omega
 ·have e:Jr Q = Q.1 * Q.1 + Q.2 * Q.2:=rfl
  have l:Jr P = P.1 * P.1 + P.2 * P.2:=rfl
  dsimp only
  omega
theorem Acn {P:HS} (e:Ms P):0 ≤ Jr P ∧ Jr P ≤ 535035904:=by
 have b:=Yx e e
 have:=b.m5
 have:=b.m6
 unfold Jr
 omega
def XR (f:Int × Int):Prop:=0 ≤ f.1 ∧ f.1 ≤ 193953851139686400 ∧ 0 < f.2 ∧ f.2 ≤ 2200000000
theorem XE {a b:Int × Int} (e:XR a) (f:XR b):XR (OX a b):=by unfold OX; split <;> assumption
def Do (D:Nat → HS):Nat → Int × Int
 | 0=>(Jr (D 0),1)
 | k + 1=>OX (Do D k) (IW (D k) (D (k + 1)))
def HE (D:Nat → HS):Nat → Int × Int
 | 0=>(-1,1)
 | k + 1=>if (HE D k).1 < 0 then LW (D k) (D (k + 1)) else OX (HE D k) (LW (D k) (D (k + 1)))
theorem Qb {D:Nat → HS} (h:∀ k,Ms (D k)) (M:Int):∀ k,XR (Do D k) ∧ G9 M (Do D k) = Mk M D k
 | 0=>by
  have:=Acn (h 0)
  exact ⟨⟨by unfold Do; dsimp only; omega,by unfold Do; dsimp only; omega,by unfold Do; dsimp only; omega,by unfold Do; dsimp only; omega⟩,rfl⟩
 | k + 1=>by
  obtain ⟨h1,f⟩:=Qb h M k
  have e:=X3 (h k) (h (k + 1))
  refine ⟨XE h1 e,?_⟩
  rw [Do,WN h1.2.2.1 e.2.2.1,f,Mk]
theorem Qa {D:Nat → HS} (h:∀ k,Ms (D k)) (M:Int):∀ k,XR (HE D (k + 1)) ∧ G9 M (HE D (k + 1)) = KD M D (k + 1)
 | 0=>by
  have e:=TP (h 0) (h 1)
  rw [HE,if_pos (by unfold HE; decide),KD,KD,Bool.false_or]
  exact ⟨e,rfl⟩
 | k + 1=>by
  obtain ⟨h1,f⟩:=Qa h M k
  have e:=TP (h (k + 1)) (h (k + 2))
  have g:¬ (HE D (k + 1)).1 < 0:=by have:=h1.1; omega
  rw [HE,if_neg g,WN h1.2.2.1 e.2.2.1,f,KD]
  exact ⟨XE h1 e,rfl⟩
structure Uy (u v:Ga) (p q:Int):Prop where
 gu:IA u
 gv:IA v
 c1:1 ≤ u.2.2
 c16:u.2.2 ≤ 16
 e:v.2.2 = u.2.2
 p0:0 ≤ p ∧ p ≤ 4
 q0:0 ≤ q ∧ q ≤ 4
def BH (u v:Ga) (p q:Int) (k:Nat):HS:=((DC u p (k:Int)).1 - (DC v q (k:Int)).1,(DC u p (k:Int)).2 - (DC v q (k:Int)).2)
theorem WB {u v:Ga} {p q:Int} (f:Uy u v p q) (k:Nat):Ms (BH u v p q k):=by
 have h1:=X8 f.gu f.c1 f.c16 p (k:Int)
 have g:=X8 f.gv (by rw [f.e]; exact f.c1) (by rw [f.e]; exact f.c16) q (k:Int)
 unfold BH
 exact ⟨by dsimp only; omega,by dsimp only; omega,by dsimp only; omega,by dsimp only; omega⟩
def Cq (u:Ga) (p q:Int):Nat:=(u.2.2 + max p q).toNat
def KV (u v:Ga) (p q least:Int):Bool:=KD (least * least * u.2.2 * u.2.2) (BH u v p q) (Cq u p q)
structure Aej (P Q:HS):Prop where
 w1:Ag (Q.1 - P.1) = Q.1 - P.1
 w2:Ag (Q.2 - P.2) = Q.2 - P.2
 w3:Ag (P.1 * (Q.2 - P.2)) = P.1 * (Q.2 - P.2)
 w4:Ag (P.2 * (Q.1 - P.1)) = P.2 * (Q.1 - P.1)
 w5:Ag (P.1 * (Q.2 - P.2) - P.2 * (Q.1 - P.1)) = H9 P Q
 w6:Ag (H9 P Q * H9 P Q) = H9 P Q * H9 P Q
 w7:Ag ((Q.1 - P.1) * (Q.1 - P.1)) = (Q.1 - P.1) * (Q.1 - P.1)
 w8:Ag ((Q.2 - P.2) * (Q.2 - P.2)) = (Q.2 - P.2) * (Q.2 - P.2)
 w9:Ag ((Q.1 - P.1) * (Q.1 - P.1) + (Q.2 - P.2) * (Q.2 - P.2)) = Lw P Q
 w10:Ag (P.1 * (Q.1 - P.1)) = P.1 * (Q.1 - P.1)
 w11:Ag (P.2 * (Q.2 - P.2)) = P.2 * (Q.2 - P.2)
 w12:Ag (P.1 * (Q.1 - P.1) + P.2 * (Q.2 - P.2)) = P.1 * (Q.1 - P.1) + P.2 * (Q.2 - P.2)
 w13:Ag (0 - (P.1 * (Q.1 - P.1) + P.2 * (Q.2 - P.2))) = 0 - (P.1 * (Q.1 - P.1) + P.2 * (Q.2 - P.2))
 w14:Ag (Q.1 * Q.1) = Q.1 * Q.1
 w15:Ag (Q.2 * Q.2) = Q.2 * Q.2
 w16:Ag (Q.1 * Q.1 + Q.2 * Q.2) = Jr Q
 w17:Ag (P.1 * P.1) = P.1 * P.1
 w18:Ag (P.2 * P.2) = P.2 * P.2
 w19:Ag (P.1 * P.1 + P.2 * P.2) = Jr P
 w20:Ag (P.1 * Q.2) = P.1 * Q.2
 w21:Ag (P.2 * Q.1) = P.2 * Q.1
 w22:Ag (P.1 * Q.2 - P.2 * Q.1) = H9 P Q
theorem Aan {P Q:HS} (f:Ms P) (e:Ms Q):Aej P Q:=by
 have b:=Yx f e
 have:=b.m1; have:=b.m2; have:=b.m3; have:=b.m4; have:=b.m5; have:=b.m6; have:=b.m7; have:=b.m8; have:=b.m9; have:=b.m10; have:=b.m11; have:=b.m12; have:=b.m13; have h:=b.m14
 have:=f.a1; have:=f.a2; have:=f.b1; have:=f.b2; have:=e.a1; have:=e.a2; have:=e.b1; have:=e.b2
 have l:Lw P Q = (Q.1 - P.1) * (Q.1 - P.1) + (Q.2 - P.2) * (Q.2 - P.2):=rfl
 have m:Jr Q = Q.1 * Q.1 + Q.2 * Q.2:=rfl
 have s:Jr P = P.1 * P.1 + P.2 * P.2:=rfl
 have g:H9 P Q = P.1 * Q.2 - P.2 * Q.1:=rfl
 constructor <;> (try rw [A6 (by omega) (by omega)]) <;> first | done | omega
theorem ZH {R:Type} {P Q:HS} (f:Int → Int → Ae R):(if IQ P Q = true then f (H9 P Q * H9 P Q) (Lw P Q) else f (Jr Q) 1) = f (IW P Q).1 (IW P Q).2:=by
 unfold IW
 split <;> rfl
theorem RA {u v:Ga} {p q:Int} (f:Uy u v p q):∃ r:Int × Int,Gi u v p q = some r ∧ 0 < r.2 ∧ r.2 ≤ 1000000000000 ∧ ∀ K,G9 K r = Mk (K * u.2.2 * u.2.2) (BH u v p q) (Cq u p q):=by
 have h:=f.c1
 have l:=f.c16
 have hp:=f.p0
 have hq:=f.q0
 have ap:1 ≤ v.2.2:=by rw [f.e]; exact h
 have ar:v.2.2 ≤ 16:=by rw [f.e]; exact l
 have hT:((Cq u p q:Nat):Int) = u.2.2 + max p q:=by unfold Cq; omega
 have bx:Cq u p q ≤ 20:=by omega
 have ad:=WB f
 have al:=fun M=>Qb ad M (Cq u p q)
 obtain ⟨b1,b2,b3,b4⟩:=(al 0).1
 obtain ⟨g1,bo,l1,l2,l3,l4,l5,l6⟩:=MW b1 (by omega) b3 (by omega)
 have bk:1 ≤ u.2.2 * u.2.2 ∧ u.2.2 * u.2.2 ≤ 256:=⟨Int.mul_le_mul h h (by omega) (by omega),Int.mul_le_mul l l (by omega) (by omega)⟩
 have d1:(Is (Do (BH u v p q) (Cq u p q)).1 (Do (BH u v p q) (Cq u p q)).2).2 * u.2.2 ≤ 2200000000 * 16:=Int.mul_le_mul (by omega) l (by omega) (by omega)
 have d2:1 * 1 ≤ (Is (Do (BH u v p q) (Cq u p q)).1 (Do (BH u v p q) (Cq u p q)).2).2 * u.2.2:=Int.mul_le_mul (by omega) h (by omega) (by omega)
 have d3:(Is (Do (BH u v p q) (Cq u p q)).1 (Do (BH u v p q) (Cq u p q)).2).2 * u.2.2 * u.2.2 ≤ 2200000000 * 16 * 16:=Int.mul_le_mul d1 l (by omega) (by omega)
 have d4:1 * 1 ≤ (Is (Do (BH u v p q) (Cq u p q)).1 (Do (BH u v p q) (Cq u p q)).2).2 * u.2.2 * u.2.2:=Int.mul_le_mul (by omega) h (by omega) (by omega)
 have av:Gi u v p q = some (Is (Is (Do (BH u v p q) (Cq u p q)).1 (Do (BH u v p q) (Cq u p q)).2).1 ((Is (Do (BH u v p q) (Cq u p q)).1 (Do (BH u v p q) (Cq u p q)).2).2 * u.2.2 * u.2.2)):=by
  unfold Gi
  have z1:tD u.2.2 p 0 = 0:=by unfold tD; omega
  have z2:tD v.2.2 q 0 = 0:=by unfold tD; omega
  have a1:FQ u 0 = some (DC u p 0):=by rw [(Yz f.gu h l (t:=0) (by omega)).1]; unfold DC; rw [z1]
  have a2:FQ v 0 = some (DC v q 0):=by rw [(Yz f.gv ap ar (t:=0) (by omega)).1]; unfold DC; rw [z2]
  have h0:=ad 0
  have w0:=Aan h0 h0
  have:=h0.a1; have:=h0.a2; have:=h0.b1; have:=h0.b2
  have e1:Ag ((DC u p 0).1 - (DC v q 0).1) = (BH u v p q 0).1:=by
   have:(DC u p 0).1 - (DC v q 0).1 = (BH u v p q 0).1:=rfl
   rw [this,A6 (by omega) (by omega)]
  have e2:Ag ((DC u p 0).2 - (DC v q 0).2) = (BH u v p q 0).2:=by
   have:(DC u p 0).2 - (DC v q 0).2 = (BH u v p q 0).2:=rfl
   rw [this,A6 (by omega) (by omega)]
  rw [a1,Aa,a2,Aa,e1,e2,w0.w14,w0.w15,w0.w16]
  have a5:=EM (fun m (s:Int × Int × Int × Int) k=>C0 u p q v m s.1 s.2.1 s.2.2.1 s.2.2.2 (k + 1)) (Cq u p q) (fun k=>((BH u v p q k).1,(BH u v p q k).2,(Do (BH u v p q) k).1,(Do (BH u v p q) k).2)) (some (Is (Is (Do (BH u v p q) (Cq u p q)).1 (Do (BH u v p q) (Cq u p q)).2).1 ((Is (Do (BH u v p q) (Cq u p q)).1 (Do (BH u v p q) (Cq u p q)).2).2 * u.2.2 * u.2.2))) (by omega) (j:=0) (by omega) (fun m k _ hk=>?_) (fun m=>?_)
  ·exact a5
  ·dsimp only
   have hP:=ad k
   have hQ:=ad (k + 1)
   have w:=Aan hP hQ
   have:=hQ.a1; have:=hQ.a2; have:=hQ.b1; have:=hQ.b2
   have ah:Fy p q = max p q:=by unfold Fy; split <;> omega
   have c1:Ag ((DC u p ((k:Int) + 1)).1 - (DC v q ((k:Int) + 1)).1) = (BH u v p q (k + 1)).1:=by
    have:(DC u p ((k:Int) + 1)).1 - (DC v q ((k:Int) + 1)).1 = (BH u v p q (k + 1)).1:=rfl
    rw [this,A6 (by omega) (by omega)]
   have c2:Ag ((DC u p ((k:Int) + 1)).2 - (DC v q ((k:Int) + 1)).2) = (BH u v p q (k + 1)).2:=by
    have:(DC u p ((k:Int) + 1)).2 - (DC v q ((k:Int) + 1)).2 = (BH u v p q (k + 1)).2:=rfl
    rw [this,A6 (by omega) (by omega)]
   obtain ⟨⟨i1,i2,i3,i4⟩,_⟩:=Qb ad 0 k
   obtain ⟨s1,s2,s3,s4⟩:=X3 hP hQ
   rw [C0,ah,A6 (x:=u.2.2 + _) (by omega) (by omega),if_pos (by rw [C9]; omega),Nn f.gu h l hp (by omega),Aa,Nn f.gv ap ar hq (by omega),Aa,c1,c2]
   simp only [Bk,Gn,w.w1,w.w2,w.w3,w.w4,w.w5,w.w6,w.w7,w.w8,w.w9,w.w10,w.w11,w.w12,w.w13,w.w14,w.w15,w.w16]
   have a8:∀ a b:Int,0 ≤ a → a ≤ 193953851139686400 → 0 < b → b ≤ 2200000000 → (Option.bind (Fo a b (Do (BH u v p q) k).1 (Do (BH u v p q) k).2) fun ai=>if ai = true then C0 u p q v m (BH u v p q (k + 1)).1 (BH u v p q (k + 1)).2 a b (Ag ((k:Int) + 1 + 1)) else C0 u p q v m (BH u v p q (k + 1)).1 (BH u v p q (k + 1)).2 (Do (BH u v p q) k).1 (Do (BH u v p q) k).2 (Ag ((k:Int) + 1 + 1))) = C0 u p q v m (BH u v p q (k + 1)).1 (BH u v p q (k + 1)).2 (OX (Do (BH u v p q) k) (a,b)).1 (OX (Do (BH u v p q) k) (a,b)).2 (((k + 1:Nat):Int) + 1):=by
    intro a b h1 h2 h3 h4
    rw [R9 _ _ _ _ h1 (by omega) (by omega) (by omega) i1 (by omega) (by omega) (by omega),Aa,A6 (by omega) (by omega)]
    unfold OX
    split <;> rfl
   have hl:=a8 (IW (BH u v p q k) (BH u v p q (k + 1))).1 (IW (BH u v p q k) (BH u v p q (k + 1))).2 s1 s2 s3 s4
   rw [Do]
   refine Eq.trans ?_ hl
   rw [← ZH (P:=BH u v p q k) (Q:=BH u v p q (k + 1)) (f:=fun a b=>Option.bind (Fo a b (Do (BH u v p q) k).1 (Do (BH u v p q) k).2) fun ai=>if ai = true then C0 u p q v m (BH u v p q (k + 1)).1 (BH u v p q (k + 1)).2 a b (Ag ((k:Int) + 1 + 1)) else C0 u p q v m (BH u v p q (k + 1)).1 (BH u v p q (k + 1)).2 (Do (BH u v p q) k).1 (Do (BH u v p q) k).2 (Ag ((k:Int) + 1 + 1)))]
   unfold IQ
   change _ = if (decide _ && decide (_ < Lw _ _)) = true then _ else _
   by_cases h1:(BH u v p q k).1 * ((BH u v p q (k + 1)).1 - (BH u v p q k).1) + (BH u v p q k).2 * ((BH u v p q (k + 1)).2 - (BH u v p q k).2) < 0
   ·rw [if_pos (decide_eq_true h1),decide_eq_true h1,Bool.true_and]
   ·rw [if_neg (by simpa using h1),decide_eq_false h1]
    rfl
  ·dsimp only
   have ah:Fy p q = max p q:=by unfold Fy; split <;> omega
   rw [C0,ah,A6 (x:=u.2.2 + _) (by omega) (by omega),if_neg (by rw [C9]; omega),LC _ _ b1 (by omega) b3 (by omega),Aa,A6 (x:=(Is (Do (BH u v p q) (Cq u p q)).1 (Do (BH u v p q) (Cq u p q)).2).2 * u.2.2) (by omega) (by omega),A6 (by omega) (by omega),LC _ _ l3 (by omega) (by omega) (by omega),Aa]
 refine ⟨_,av,?_,?_,fun K=>?_⟩
 ·obtain ⟨g,_,_,_,_,_,k5,_⟩:=MW (a:=(Is (Do (BH u v p q) (Cq u p q)).1 (Do (BH u v p q) (Cq u p q)).2).1) (b:=(Is (Do (BH u v p q) (Cq u p q)).1 (Do (BH u v p q) (Cq u p q)).2).2 * u.2.2 * u.2.2) l3 (by omega) (by omega) (by omega)
  exact k5
 ·obtain ⟨g,_,_,_,_,_,k5,k6⟩:=MW (a:=(Is (Do (BH u v p q) (Cq u p q)).1 (Do (BH u v p q) (Cq u p q)).2).1) (b:=(Is (Do (BH u v p q) (Cq u p q)).1 (Do (BH u v p q) (Cq u p q)).2).2 * u.2.2 * u.2.2) l3 (by omega) (by omega) (by omega)
  omega
 ·rw [Uw l3 (by omega) (by omega) (by omega),← (al (K * u.2.2 * u.2.2)).2]
  have:G9 (K * u.2.2 * u.2.2) (Do (BH u v p q) (Cq u p q)) = G9 (K * u.2.2 * u.2.2) (Is (Do (BH u v p q) (Cq u p q)).1 (Do (BH u v p q) (Cq u p q)).2):=(Uw b1 (by omega) b3 (by omega)).symm
  rw [this]
  unfold G9
  rw [decide_eq_decide]
  dsimp only
  generalize (Is (Do (BH u v p q) (Cq u p q)).1 (Do (BH u v p q) (Cq u p q)).2).2 = B
  rw [show K * (B * u.2.2 * u.2.2) = K * u.2.2 * u.2.2 * B by grind]
theorem Xv {M:Int} {D:Nat → HS} {T:Nat} (h:1 ≤ T):Mk M D T = KD M D T:=by
 obtain ⟨k,rfl⟩:∃ k,T = k + 1:=⟨T - 1,by omega⟩
 exact Adc k
theorem Nq {u v:Ga} {p q e:Int} (f:Uy u v p q) (hl:0 ≤ e ∧ e ≤ 80):Gj u v p q e = some (KV u v p q e):=by
 obtain ⟨r,h1,h2,l,h⟩:=RA f
 have g:=Mx (x:=e) (A:=80) (by omega) (by omega)
 have s:=Int.mul_le_mul g.2 l (by omega) (by omega)
 have ad:0 ≤ e * e * r.2:=Int.mul_nonneg g.1 (by omega)
 unfold Gj KV
 rw [h1,Aa,A6 (x:=e * e) (by omega) (by omega),A6 (by omega) (by omega)]
 have:=h (e * e)
 unfold G9 at this
 have hc:=f.c1
 have m:=f.p0
 rw [this,Xv (by unfold Cq; omega)]
theorem ZG {R:Type} {P Q:HS} (f:Int → Int → Ae R):(if IQ P Q = true then f (H9 P Q * H9 P Q) (Lw P Q) else f (min (Jr P) (Jr Q)) 1) = f (LW P Q).1 (LW P Q).2:=by
 unfold LW
 split <;> rfl
theorem Xh {P Q:HS} (e:Ms P) (g:Ms Q):Ko P.1 P.2 Q.1 Q.2 = some (LW P Q):=by
 have w:=Aan e g
 unfold Ko
 simp only [Bk,w.w1,w.w2,w.w7,w.w8,w.w9,w.w10,w.w11,w.w12,w.w13,w.w14,w.w15,w.w16,w.w17,w.w18,w.w19,w.w20,w.w21,w.w22,w.w6,Kd,Aa]
 have:=ZG (P:=P) (Q:=Q) (f:=fun a b=>some (a,b))
 refine Eq.trans ?_ this
 unfold IQ
 change _ = if (decide _ && decide (_ < Lw _ _)) = true then _ else _
 by_cases h1:P.1 * (Q.1 - P.1) + P.2 * (Q.2 - P.2) < 0
 ·rw [if_pos (by rw [C9]; omega),decide_eq_true h1,Bool.true_and]
 ·rw [if_neg (by rw [C9]; omega),decide_eq_false h1]
  rfl
theorem VQ {u v:Ga} {p q:Int} (f:Uy u v p q):∃ r:Int × Int,I1 u v p q = some r ∧ 0 ≤ r.1 ∧ r.1 ≤ 193953851139686400 ∧ 0 < r.2 ∧ r.2 ≤ 1000000000000 ∧ ∀ K,G9 K r = KD (K * u.2.2 * u.2.2) (BH u v p q) (Cq u p q):=by
 have ac:=f.c1
 have ad:=f.c16
 have hp:=f.p0
 have hq:=f.q0
 have ak:1 ≤ v.2.2:=by rw [f.e]; exact ac
 have am:v.2.2 ≤ 16:=by rw [f.e]; exact ad
 have hT:((Cq u p q:Nat):Int) = u.2.2 + max p q:=by unfold Cq; omega
 have bi:Cq u p q ≤ 20:=by omega
 have ae:=WB f
 obtain ⟨T,ay⟩:∃ T,Cq u p q = T + 1:=⟨Cq u p q - 1,by omega⟩
 have ag:∀ M,XR (HE (BH u v p q) (Cq u p q)) ∧ G9 M (HE (BH u v p q) (Cq u p q)) = KD M (BH u v p q) (Cq u p q):=fun M=>by rw [ay]; exact Qa ae M T
 obtain ⟨b1,b2,b3,b4⟩:=(ag 0).1
 have d1:(HE (BH u v p q) (Cq u p q)).2 * u.2.2 ≤ 2200000000 * 16:=Int.mul_le_mul b4 ad (by omega) (by omega)
 have d2:1 * 1 ≤ (HE (BH u v p q) (Cq u p q)).2 * u.2.2:=Int.mul_le_mul (by omega) ac (by omega) (by omega)
 have d3:(HE (BH u v p q) (Cq u p q)).2 * u.2.2 * u.2.2 ≤ 2200000000 * 16 * 16:=Int.mul_le_mul d1 ad (by omega) (by omega)
 have d4:1 * 1 ≤ (HE (BH u v p q) (Cq u p q)).2 * u.2.2 * u.2.2:=Int.mul_le_mul (by omega) ac (by omega) (by omega)
 have an:I1 u v p q = some (Is (HE (BH u v p q) (Cq u p q)).1 ((HE (BH u v p q) (Cq u p q)).2 * u.2.2 * u.2.2)):=by
  unfold I1
  have aw:=EM (fun m (s:Int × Int) k=>EV p q u v m s.1 s.2 k) (Cq u p q) (fun k=>((HE (BH u v p q) k).1,(HE (BH u v p q) k).2)) (some (Is (HE (BH u v p q) (Cq u p q)).1 ((HE (BH u v p q) (Cq u p q)).2 * u.2.2 * u.2.2))) (by omega) (j:=0) (by omega) (fun m k _ hk=>?_) (fun m=>?_)
  ·exact aw
  ·dsimp only
   have h:=ae k
   have l:=ae (k + 1)
   have:=h.a1; have:=h.a2; have:=h.b1; have:=h.b2
   have:=l.a1; have:=l.a2; have:=l.b1; have:=l.b2
   have e1:Ag ((DC u p (k:Int)).1 - (DC v q (k:Int)).1) = (BH u v p q k).1:=by
    have:(DC u p (k:Int)).1 - (DC v q (k:Int)).1 = (BH u v p q k).1:=rfl
    rw [this,A6 (by omega) (by omega)]
   have e2:Ag ((DC u p (k:Int)).2 - (DC v q (k:Int)).2) = (BH u v p q k).2:=by
    have:(DC u p (k:Int)).2 - (DC v q (k:Int)).2 = (BH u v p q k).2:=rfl
    rw [this,A6 (by omega) (by omega)]
   have c1:Ag ((DC u p ((k + 1:Nat):Int)).1 - (DC v q ((k + 1:Nat):Int)).1) = (BH u v p q (k + 1)).1:=by
    have:(DC u p ((k + 1:Nat):Int)).1 - (DC v q ((k + 1:Nat):Int)).1 = (BH u v p q (k + 1)).1:=rfl
    rw [this,A6 (by omega) (by omega)]
   have c2:Ag ((DC u p ((k + 1:Nat):Int)).2 - (DC v q ((k + 1:Nat):Int)).2) = (BH u v p q (k + 1)).2:=by
    have:(DC u p ((k + 1:Nat):Int)).2 - (DC v q ((k + 1:Nat):Int)).2 = (BH u v p q (k + 1)).2:=rfl
    rw [this,A6 (by omega) (by omega)]
   obtain ⟨s1,s2,s3,s4⟩:=TP h l
   rw [EV,QO,Aa,A6 (x:=u.2.2 + _) (by omega) (by omega),if_pos (by rw [C9]; omega)]
   unfold Gn Bk
   dsimp only
   rw [O0 f.gu ac ad hp (by omega),Aa,O0 f.gv ak am hq (by omega),Aa,AD (k:=k) (by omega),O0 f.gu ac ad hp (by omega),Aa,O0 f.gv ak am hq (by omega),Aa,e1,e2,c1,c2,Xh h l,Aa,HE]
   by_cases hn:(HE (BH u v p q) k).1 < 0
   ·rw [if_pos (decide_eq_true hn),if_pos rfl,if_pos hn]
   ·have aq:∃ j,k = j + 1:=by
     cases k with
     | zero=>exact absurd (show (-1:Int) < 0 by decide) hn
     | succ j=>exact ⟨j,rfl⟩
    obtain ⟨j,rfl⟩:=aq
    obtain ⟨⟨i1,i2,i3,i4⟩,_⟩:=Qa ae 0 j
    rw [if_neg (by simpa using hn),Xk _ _ _ _ s1 (by omega) s3 (by omega) i1 (by omega) i3 (by omega),Aa,if_neg hn]
    unfold OX
    split <;> rfl
  ·dsimp only
   rw [EV,QO,Aa,A6 (x:=u.2.2 + _) (by omega) (by omega),if_neg (by rw [C9]; omega),A6 (x:=(HE (BH u v p q) (Cq u p q)).2 * u.2.2) (by omega) (by omega),A6 (by omega) (by omega),RQ _ _ b1 (by omega) (by omega) (by omega),Aa]
 obtain ⟨g,_,_,_,k3,k4,k5,k6⟩:=MW (a:=(HE (BH u v p q) (Cq u p q)).1) (b:=(HE (BH u v p q) (Cq u p q)).2 * u.2.2 * u.2.2) b1 (by omega) (by omega) (by omega)
 refine ⟨_,an,k3,by omega,k5,by omega,fun K=>?_⟩
 rw [Uw b1 (by omega) (by omega) (by omega),← (ag (K * u.2.2 * u.2.2)).2]
 unfold G9
 rw [decide_eq_decide]
 dsimp only
 generalize (HE (BH u v p q) (Cq u p q)).2 = B
 rw [show K * (B * u.2.2 * u.2.2) = K * u.2.2 * u.2.2 * B by grind]
theorem RN {u v:Ga} {p q e:Int} (f:Uy u v p q) (s:0 ≤ e ∧ e ≤ 80):Je u v p q e = some (!KV u v p q e):=by
 obtain ⟨r,h1,g,h3,h,h5,m⟩:=VQ f
 have hL:=Mx (x:=e) (A:=80) (by omega) (by omega)
 unfold Je KV
 have hd:=Int.ediv_nonneg g (Int.le_of_lt h)
 have ab:r.1 / r.2 ≤ r.1:=Int.ediv_le_self _ g
 have l:¬ r.2 = 0:=by omega
 rw [h1,Aa,if_neg l,A6 (x:=e * e) (by omega) (by omega),Int.tdiv_eq_ediv_of_nonneg g,A6 (by omega) (by omega),← m (e * e)]
 unfold G9
 congr 1
 rw [Bool.eq_iff_iff]
 simp only [Bool.not_eq_true',C9,decide_eq_false_iff_not]
 rw [Int.le_ediv_iff_mul_le h]
 omega
def Pb (ft:Nat → Nat → Int → Int → Bool) (ds:List Int) (p:Int):Bool:=(List.range ds.length).all fun i=>ft i ds.length (ds.getD i 0) p
def LG (ft:Nat → Nat → Int → Int → Bool):Nat → List Int → Bool
 | 0,_=>true
 | r + 1,ds=>(List.range 5).any fun (p:Nat)=>Pb ft ds (p:Int) && LG ft r (ds ++ [(p:Int)])
def LF (ft:Nat → Nat → Int → Int → Bool):Nat → List Int → Nat → Bool
 | 0,_,s=>s == 0
 | r + 1,ds,s=>(List.range (min s 4 + 1)).any fun (p:Nat)=>Pb ft ds (p:Int) && LF ft r (ds ++ [(p:Int)]) (s - p)
theorem R7 (e:Nat → Nat → Int → Int → Bool):∀ (r:Nat) (ds:List Int),LG e r ds = true ↔ ∃ s,s ≤ 4 * r ∧ LF e r ds s = true
 | 0,ds=>by simp [LG,LF]
 | r + 1,ds=>by
  rw [LG,List.any_eq_true]
  constructor
  ·rintro ⟨p,f,h⟩
   rw [Cf,R7 e r] at h
   obtain ⟨h1,s,h2,m⟩:=h
   have l:=List.mem_range.1 f
   refine ⟨s + p,by omega,?_⟩
   rw [LF,List.any_eq_true]
   refine ⟨p,List.mem_range.2 (by omega),?_⟩
   rw [Cf,Nat.add_sub_cancel]
   exact ⟨h1,m⟩
  ·rintro ⟨s,hs,h⟩
   rw [LF,List.any_eq_true] at h
   obtain ⟨p,f,h⟩:=h
   rw [Cf] at h
   have l:=List.mem_range.1 f
   refine ⟨p,List.mem_range.2 (by omega),?_⟩
   rw [Cf,R7 e r]
   refine ⟨h.1,?_⟩
   by_cases g:s - p ≤ 4 * r
   ·exact ⟨s - p,g,h.2⟩
   ·exfalso
    have v:∀ (r:Nat) (ds:List Int) (s:Nat),LF e r ds s = true → s ≤ 4 * r:=by
     intro r
     induction r with
     | zero=>intro ds s h; simpa [LF] using h
     | succ r u =>
      intro ds s h
      rw [LF,List.any_eq_true] at h
      obtain ⟨p,f,h⟩:=h
      rw [Cf] at h
      have l:=List.mem_range.1 f
      have:=u _ _ h.2
      omega
    exact g (v r _ _ h.2)
theorem Zi {R:Type} (f:Nat → Int → Ae R) (n:Nat) (p:Nat → Bool) (e:Nat → Ae R) (g:Ae R) (hn:n < 4611686018427387904)
  (s:∀ m k,k < n → f (m + 1) (k:Int) = if p k = true then e k else f m ((k + 1:Nat):Int)) (u:∀ m,f (m + 1) (n:Int) = g) {j:Nat} (l:j ≤ n):f FU (j:Int) = match (List.range' j (n - j)).find? p with
   | some k=>e k
   | none=>g:=by
 have ae:∀ d k m,n - k = d → k ≤ n → d < m → f m (k:Int) = match (List.range' k d).find? p with
   | some k=>e k
   | none=>g:=by
  intro d
  induction d with
  | zero =>
   intro k m hd hk v
   have:k = n:=by omega
   subst this
   cases m with
   | zero=>omega
   | succ m=>rw [u]; rfl
  | succ d ih =>
   intro k m hd hk v
   cases m with
   | zero=>omega
   | succ m =>
    rw [s m k (by omega),List.range'_succ,List.find?_cons]
    by_cases h:p k = true
    ·rw [if_pos h,h]
    ·have h':p k = false:=by simpa using h
     rw [if_neg h,h']
     exact ih (k + 1) m (by omega) (by omega) (by omega)
 exact ae (n - j) j FU rfl l (D4 (by omega))
theorem JF {ι S R:Type} (f:ι → Nat → S → Int → Ae R) (n:Nat) (g:Nat → S → Prop) (rest:ι → S → Ae R) (hn:n < 4611686018427387904) {b:Nat}
  (hs:∀ k s,b ≤ k → k < n → g k s → ∃ e,g (k + 1) e ∧ ∀ j m,f j (m + 1) s (k:Int) = f j m e ((k + 1:Nat):Int)) (he:∀ s,g n s → ∀ j m,f j (m + 1) s (n:Int) = rest j s) (hb:b ≤ n) {s:S} (h0:g b s) :
  ∃ e,g n e ∧ ∀ j,f j FU s (b:Int) = rest j e:=by
 have al:∀ d k s,n - k = d → b ≤ k → k ≤ n → g k s → ∃ e,g n e ∧ ∀ j m,d < m → f j m s (k:Int) = rest j e:=by
  intro d
  induction d with
  | zero =>
   intro k s hd u hk h
   have:k = n:=by omega
   subst this
   refine ⟨s,h,fun j m hm=>?_⟩
   cases m with
   | zero=>omega
   | succ m=>exact he s h j m
  | succ d ih =>
   intro k s hd u hk h
   obtain ⟨e,h1,l⟩:=hs k s u (by omega) h
   obtain ⟨v,h3,h4⟩:=ih (k + 1) e (by omega) (by omega) (by omega) h1
   refine ⟨v,h3,fun j m hm=>?_⟩
   cases m with
   | zero=>omega
   | succ m=>rw [l]; exact h4 j m (by omega)
 obtain ⟨e,h1,l⟩:=al (n - b) b s rfl (Nat.le_refl _) hb h0
 exact ⟨e,h1,fun j=>l j FU (D4 (by omega))⟩
theorem XG {S R:Type} (f:Nat → S → Int → Ae R) (n:Nat) (g:S → Prop) (a:Nat → Bool) (l v:R → Prop) (hn:n < 4611686018427387904)
  (hs:∀ k s,k < n → g s → (a k = true ∧ ∃ r,l r ∧ ∀ m,f (m + 1) s (k:Int) = some r) ∨ (a k = false ∧ ∃ h,g h ∧ ∀ m,f (m + 1) s (k:Int) = f m h ((k + 1:Nat):Int)))
  (he:∀ s,g s → ∃ r,v r ∧ ∀ m,f (m + 1) s (n:Int) = some r) {s:S} (h0:g s):∃ r,f FU s 0 = some r ∧ (((List.range n).any a = true ∧ l r) ∨ ((List.range n).any a = false ∧ v r)):=by
 have ak:∀ d k m s,n - k = d → k ≤ n → d < m → g s → ∃ r,f m s (k:Int) = some r ∧ (((List.range' k d).any a = true ∧ l r) ∨ ((List.range' k d).any a = false ∧ v r)):=by
  intro d
  induction d with
  | zero =>
   intro k m s hd hk hm hi
   have:k = n:=by omega
   subst this
   cases m with
   | zero=>omega
   | succ m =>
    obtain ⟨r,h1,e⟩:=he s hi
    exact ⟨r,e m,.inr ⟨rfl,h1⟩⟩
  | succ d ih =>
   intro k m s hd hk hm hi
   cases m with
   | zero=>omega
   | succ m =>
    rw [List.range'_succ,List.any_cons]
    rcases hs k s (by omega) hi with ⟨h1,r,e,u⟩ | ⟨h1,h,e,u⟩
    ·exact ⟨r,u m,.inl ⟨by rw [h1]; rfl,e⟩⟩
    ·rw [u,h1,Bool.false_or]
     exact ih (k + 1) m h (by omega) (by omega) (by omega) e
 have:=ak n 0 FU s rfl (by omega) (D4 hn) h0
 rwa [← List.range_eq_range'] at this
structure RepF (t:BV) (least:Int):Prop where
 tr:XQ t
 c16:t.2.2.1 ≤ 16
 n6:t.1.length ≤ 6
 l0:0 ≤ least ∧ least ≤ 80
theorem RepF.del {t:BV} {g:Int} (f:RepF t g) {i k:Nat} (h:i < t.1.length) (l:k < t.1.length) {p q:Int} (m:0 ≤ p ∧ p ≤ 4) (e:0 ≤ q ∧ q ≤ 4):Uy (Hn t i) (Hn t k) p q :=
 ⟨Kc f.tr h,Kc f.tr l,f.tr.can.n1,f.c16,rfl,m,e⟩
def TT (t:BV) (least:Int) (i k:Nat):Bool:=KV (Hn t i) (Hn t k) 0 0 least
theorem Rn {n i:Nat} (h:i < n):(List.replicate n (0:Int))[i]? = some 0:=by simp [h]
theorem Xq {t:BV} {e:Int} (f:RepF t e):Hx t (List.replicate t.1.length 0) e = some (J9 (TT t e) t.1.length t.1.length):=by
 have v:=f.n6
 unfold Hx
 rw [Oe f.tr,Aa]
 refine N0 (D9 (G7 t) (List.replicate t.1.length 0) e) (fun h i=>D8 (G7 t) (i:Int) (List.replicate t.1.length 0) e h) _ _ (by omega) (fun m s i g=>?_) (fun h i m s k g l u=>?_) (fun h i m s g=>?_) (fun m s=>?_)
 ·rw [D9,if_pos (by rw [Ea]; simp; omega),AD (by omega)]
 ·rw [D8,if_pos (by rw [Ea]; simp; omega)]
  unfold Bk TT
  dsimp only
  rw [AY,Ix t g,Aa,AY,Ix t l,Aa,AY,Rn g,Aa,AY,Rn l,Aa,Nq (f.del g l (by omega) (by omega)) f.l0,Aa,Bt (by simp; omega),Aa,AD (by omega)]
  cases KV (Hn t i) (Hn t k) 0 0 e <;> rfl
 ·rw [D8,if_neg (by rw [Ea]; simp),AD (by omega)]
 ·rw [D9,if_neg (by rw [Ea]; simp)]
theorem RP {t:BV} {e:Int} (f:RepF t e):I2 t (List.replicate t.1.length 0) e = some (J9 (TT t e) t.1.length t.1.length):=by
 have v:=f.n6
 unfold I2
 rw [LU f.tr,Aa]
 refine N0 (EX (G7 t) (List.replicate t.1.length 0) e) (fun h i=>EW (G7 t) (List.replicate t.1.length 0) (i:Int) (Hn t i) e h) _ _ (by omega) (fun m s i g=>?_) (fun h i m s k g l u=>?_) (fun h i m s g=>?_) (fun m s=>?_)
 ·rw [EX,if_pos (by rw [Ea]; simp; omega),AY,Ix t g,Aa,AD (by omega)]
 ·rw [EW,if_pos (by rw [Ea]; simp; omega)]
  unfold Bk TT
  dsimp only
  rw [AY,Ix t l,Aa,AY,Rn g,Aa,AY,Rn l,Aa,RN (f.del g l (by omega) (by omega)) f.l0,Aa,Bool.not_not,Bt (by simp; omega),Aa,AD (by omega)]
  cases KV (Hn t i) (Hn t k) 0 0 e <;> rfl
 ·rw [EW,if_neg (by rw [Ea]; simp),AD (by omega)]
 ·rw [EX,if_neg (by rw [Ea]; simp)]
def OW (t:BV) (least:Int):Bool:=((J9 (TT t least) t.1.length t.1.length).length:Int) == 0
theorem Np {t:BV} {e:Int} (f:RepF t e):Gh t e = some (OW t e):=by
 have g:=f.n6
 unfold Gh OW
 rw [NB (by omega),Aa,Xq f,Aa]
def Oz (t:BV) (i k:Nat):BV:=(t.1,t.2.1,t.2.2.1,(t.2.2.2.set i (IV t.2.2.2 k)).set k (IV t.2.2.2 i))
theorem Aax {t:BV} {m:Int} (f:RepF t m) {i k:Nat} (u:i < t.1.length) (v:k < t.1.length):RepF (Oz t i k) m:=by
 have s:=f.tr.mat
 refine ⟨⟨f.tr.can,by unfold Oz; simpa using s,fun j l=>?_⟩,f.c16,f.n6,f.l0⟩
 have h1:=f.tr.inR i u
 have h2:=f.tr.inR k v
 have h3:=f.tr.inR j l
 unfold Oz
 unfold Oz at l
 dsimp only at l ⊢
 have e:IV ((t.2.2.2.set i (IV t.2.2.2 k)).set k (IV t.2.2.2 i)) j = if k = j then IV t.2.2.2 i else if i = j then IV t.2.2.2 k else IV t.2.2.2 j:=by
  conv=>lhs; unfold IV
  rw [List.getElem?_set,List.length_set,List.getElem?_set,s]
  by_cases g:k = j
  ·rw [if_pos g,if_pos v,if_pos g]; rfl
  ·rw [if_neg g,if_neg g]
   by_cases h:i = j
   ·rw [if_pos h,if_pos u,if_pos h]; rfl
   ·rw [if_neg h,if_neg h]; rfl
 rw [e]
 split
 ·exact h1
 ·split
  ·exact h2
  ·exact h3
theorem Tr {t:BV} {e:Int} (f:RepF t e) {i k:Nat} (l:i < t.1.length) (m:k < t.1.length):Ik t (i:Int) (k:Int) = some (Oz t i k):=by
 have g:=f.tr.mat
 have h:=f.n6
 have s:=f.tr.can.le
 unfold Ik
 rw [KS (by omega) (by omega) (by omega),Aa]
 unfold Bk Oz
 dsimp only
 rw [AY,JG (by omega),Aa,AY,JG (by omega),Aa,Aa,J6,Js (by simp; omega),Aa,J6]
theorem Xi {t:BV} {e:Int} (f:RepF t e) {i k:Nat} (l:i < t.1.length) (m:k < t.1.length):Kq t (i:Int) (k:Int) = some (Oz t i k):=by
 have g:=f.tr.mat
 have h:=f.n6
 have s:=f.tr.can.le
 unfold Kq
 rw [OR (by omega) (by omega) (by omega),Aa]
 unfold Oz
 dsimp only
 rw [AY,JG (by omega),Aa,AY,JG (by omega),Aa,Aa,J6,Js (by simp; omega),Aa,J6]
def SS (t:BV) (least:Int) (i:Nat):Ae Nat:=(List.range' (i + 1) (t.1.length - (i + 1))).find? fun k=>OW (Oz t i k) least
def VP (t:BV) (least:Int):Ae Nat:=(List.range t.1.length).find? fun i=>(SS t least i).isSome
theorem Ts {t:BV} {e:Int} (f:RepF t e):∃ r,Il t e = some r ∧ r.2.2 = (VP t e).isSome:=by
 have l:=f.n6
 unfold Il
 rw [To (Dm t e) t.1.length (fun i=>(SS t e i).isSome) (fun i=>some ((i:Int),((SS t e i).getD 0:Int),true)) (some (0,0,false)) (by omega) (fun m i h=>?_) (fun m=>?_)]
 ·unfold VP
  cases (List.range t.1.length).find? fun i=>(SS t e i).isSome with
  | none=>exact ⟨_,rfl,rfl⟩
  | some i=>exact ⟨_,rfl,rfl⟩
 ·rw [Dm,if_pos (by simp; omega),AD (by omega)]
  rw [Zi (Eg t (i:Int) e (Dm t e m)) t.1.length (fun k=>OW (Oz t i k) e) (fun k=>some ((i:Int),(k:Int),true)) (Dm t e m ((i + 1:Nat):Int)) (by omega) (fun m k g=>?_) (fun m=>?_) (j:=i + 1) (by omega)]
  ·unfold SS
   cases (List.range' (i + 1) (t.1.length - (i + 1))).find? fun k=>OW (Oz t i k) e <;> rfl
  ·rw [Eg,if_pos (by simp; omega),Tr f h g,Aa,Np (Aax f h g),Aa,AD (by omega)]
  ·rw [Eg,if_neg (by simp),AD (by omega)]
 ·rw [Dm,if_neg (by simp)]
theorem Xg {t:BV} {g:Int} (f:RepF t g):∃ r,Kn t g = some r ∧ decide (0 ≤ r.1) = (VP t g).isSome:=by
 have s:=f.n6
 unfold Kn
 rw [NB (by omega),Aa]
 rw [To (Ej t (List.replicate t.1.length 0) g) t.1.length (fun i=>(SS t g i).isSome) (fun i=>some ((i:Int),((SS t g i).getD 0:Int))) (some (-1,-1)) (by omega) (fun m i l=>?_) (fun m=>?_)]
 ·unfold VP
  cases (List.range t.1.length).find? fun i=>(SS t g i).isSome with
  | none=>exact ⟨_,rfl,rfl⟩
  | some i=>exact ⟨_,rfl,by simp⟩
 ·rw [Ej,if_pos (by simp; omega),AD (by omega)]
  rw [Zi (FC t (i:Int) (List.replicate t.1.length 0) g (Ej t (List.replicate t.1.length 0) g m)) t.1.length (fun k=>OW (Oz t i k) g) (fun k=>some ((i:Int),(k:Int))) (Ej t (List.replicate t.1.length 0) g m ((i + 1:Nat):Int)) (by omega) (fun m k h=>?_) (fun m=>?_) (j:=i + 1) (by omega)]
  ·unfold SS
   cases (List.range' (i + 1) (t.1.length - (i + 1))).find? fun k=>OW (Oz t i k) g <;> rfl
  ·have e:=RP (Aax f l h)
   rw [show (Oz t i k).1.length = t.1.length by rfl] at e
   rw [FC,if_pos (by simp; omega),Xi f l h,Aa,e,Aa,AD (by omega)]
   rfl
  ·rw [FC,if_neg (by simp),AD (by omega)]
 ·rw [Ej,if_neg (by simp)]
def Hu (t:BV) (least:Int) (i k:Nat) (q p:Int):Bool:=!KV (Hn t i) (Hn t k) q p least
def HP (i k q p:Nat):Nat:=i * 150 + k * 25 + q * 5 + p * 1
def XK (ds:List Int):Prop:=∀ i,i < ds.length → ∃ q:Nat,q < 5 ∧ ds[i]? = some (q:Int)
theorem WA {ds:List Int} (h:XK ds) {p:Nat} (l:p < 5):XK (ds ++ [(p:Int)]):=by
 intro i g
 rw [CM,List.length_singleton] at g
 by_cases e:i < ds.length
 ·obtain ⟨q,h1,f⟩:=h i e
  exact ⟨q,h1,by rw [List.getElem?_append_left e]; exact f⟩
 ·have:i = ds.length:=by omega
  subst this
  exact ⟨p,l,by simp⟩
theorem Aa6 {ds:List Int} {i q:Nat} (h:ds[i]? = some (q:Int)):ds.getD i 0 = (q:Int):=by rw [List.getD_eq_getElem?_getD,h]; rfl
structure Ql (t:BV) (least:Int) (l:List Int):Prop where
 len:l.length = 900
 val:∀ i k q p:Nat,i < t.1.length → k < t.1.length → q < 5 → p < 5 → l[HP i k q p]? = some 0 ∨ l[HP i k q p]? = some (if Hu t least i k (q:Int) (p:Int) = true then 1 else 2)
theorem YE {t:BV} {g:Int} (f:RepF t g) {l:List Int} (h:Ql t g l) {i k q p:Nat} (hi:i < t.1.length) (hk:k < t.1.length) (hq:q < 5) (hp:p < 5) :
  ∃ l',Ql t g l' ∧ GB (G7 t,g,l) (i:Int) (k:Int) (q:Int) (p:Int) = some (Hu t g i k (q:Int) (p:Int),(G7 t,g,l')):=by
 have h6:=f.n6
 have v:(decide (0 ≤ (i:Int)) && decide ((i:Int) < 6)) = true:=by simp; omega
 have u:(decide (0 ≤ (k:Int)) && decide ((k:Int) < 6)) = true:=by simp; omega
 have c3:(decide (0 ≤ (q:Int)) && decide ((q:Int) < 5)) = true:=by simp; omega
 have s:(decide (0 ≤ (p:Int)) && decide ((p:Int) < 5)) = true:=by simp; omega
 have m:HP i k q p < 900:=by unfold HP; omega
 unfold GB Bk Gn
 dsimp only
 rw [if_pos v,if_pos u,if_pos c3,if_pos s]
 simp only [Int.toNat_natCast]
 rw [show i * 150 + k * 25 + q * 5 + p * 1 = HP i k q p by rfl]
 rcases h.val i k q p hi hk hq hp with h0 | h0
 ·rw [h0,Aa,if_pos (by simp),AY,Ix t hi,Aa,AY,Ix t hk,Aa,RN (f.del hi hk (by omega) (by omega)) f.l0,Aa]
  refine ⟨l.set (HP i k q p) (if Hu t g i k (q:Int) (p:Int) = true then 1 else 2),⟨by rw [List.length_set]; exact h.len,fun i' k' q' p' aj ao ai an=>?_⟩,?_⟩
  ·by_cases e:HP i k q p = HP i' k' q' p'
   ·have:i = i' ∧ k = k' ∧ q = q' ∧ p = p':=by unfold HP at e; omega
    obtain ⟨rfl,rfl,rfl,rfl⟩:=this
    right
    rw [List.getElem?_set_self (by rw [h.len]; exact m)]
   ·rw [List.getElem?_set_ne e]
    exact h.val i' k' q' p' aj ao ai an
  ·have e:Hu t g i k (q:Int) (p:Int) = !KV (Hn t i) (Hn t k) (q:Int) (p:Int) g:=rfl
   rw [e]
   unfold NP
   rw [h.len,if_pos m]
   cases KV (Hn t i) (Hn t k) (q:Int) (p:Int) g with
   | false =>
    simp only [Bool.not_false,if_true,Aa]
    rw [if_pos v,if_pos u,if_pos c3,if_pos s,List.getElem?_set_self (by rw [h.len]; exact m),Aa]
    rfl
   | true =>
    simp only [Bool.not_true,Bool.false_eq_true,if_false,Aa]
    rw [if_pos m,Aa,if_pos v,if_pos u,if_pos c3,if_pos s,List.getElem?_set_self (by rw [h.len]; exact m),Aa]
    rfl
 ·refine ⟨l,h,?_⟩
  rw [h0,Aa]
  have am:((if Hu t g i k (q:Int) (p:Int) = true then (1:Int) else 2) == 0) = false:=by split <;> rfl
  rw [am,if_neg (by simp),if_pos v,if_pos u,if_pos c3,if_pos s,Aa]
  cases Hu t g i k (q:Int) (p:Int) <;> rfl
theorem M7 (a:Nat → Bool) (k:Nat):(List.range (k + 1)).all a = ((List.range k).all a && a k):=by rw [List.range_succ,List.all_append]; simp
abbrev T4:=(List Ga) × Int × (List Int)
theorem Aae {t:BV} {e:Int} (f:RepF t e) {l:List Int} (h:Ql t e l) {ds:List Int} (hd:XK ds) (hl:ds.length < t.1.length) {p:Nat} (hp:p < 5) (s:Int) (hs:0 ≤ s ∧ s ≤ 1000) :
  ∃ g,Ql t e g ∧ ∀ (v:T4 → Ae ((List Int) × T4)) (aa:T4 → (List Int) → Int → Ae ((List Int) × T4)),CN ds (p:Int) v aa s FU (G7 t,e,l) true 0 =
   if Pb (Hu t e) ds (p:Int) = true then Option.bind (aa (G7 t,e,g) (ds ++ [(p:Int)]) (s - p)) fun u=>(if (decide (0 < (List.length u.1:Int))) = true then some (u.1,u.2) else v u.2) else v (G7 t,e,g):=by
 have h6:=f.n6
 refine Exists.elim (JF (fun (j:(T4 → Ae ((List Int) × T4)) × (T4 → (List Int) → Int → Ae ((List Int) × T4))) m (z:T4 × Bool) k=>CN ds (p:Int) j.1 j.2 s m z.1 z.2 k) ds.length
  (fun k z=>∃ g,Ql t e g ∧ z.1 = (G7 t,e,g) ∧ z.2 = (List.range k).all fun i=>Hu t e i ds.length (ds.getD i 0) (p:Int))
  (fun j z=>if (!z.2) = true then j.1 z.1 else Option.bind (j.2 z.1 (ds ++ [(p:Int)]) (s - p)) fun u=>(if (decide (0 < (List.length u.1:Int))) = true then some (u.1,u.2) else j.1 u.2)) (by omega)
  (fun k z _ hk hi=>?_) (fun z hi j m=>?_) (b:=0) (by omega) (s:=((G7 t,e,l),true)) ⟨l,h,rfl,rfl⟩) ?_
 ·obtain ⟨x,b⟩:=z
  obtain ⟨l1,g1,g2,g3⟩:=hi
  dsimp only at g2 g3
  subst g2
  obtain ⟨q,hq,ab⟩:=hd k hk
  cases hb:b with
  | false =>
   refine ⟨((G7 t,e,l1),false),⟨l1,g1,rfl,?_⟩,fun j m=>?_⟩
   ·rw [M7,← g3,hb]; rfl
   ·dsimp only
    rw [CN,if_pos (by simp; omega)]
    unfold Gn
    dsimp only
    rw [AY,ab,Aa,if_neg (by simp),AD (by omega)]
  | true =>
   obtain ⟨l2,g4,g5⟩:=YE f g1 (i:=k) (k:=ds.length) (q:=q) (p:=p) (by omega) hl hq hp
   refine ⟨((G7 t,e,l2),Hu t e k ds.length (q:Int) (p:Int)),⟨l2,g4,rfl,?_⟩,fun j m=>?_⟩
   ·rw [M7,← g3,hb,Bool.true_and,Aa6 ab]
   ·dsimp only
    rw [CN,if_pos (by simp; omega)]
    unfold Gn
    dsimp only
    rw [AY,ab,Aa,if_pos rfl,g5,Aa,AD (by omega)]
 ·obtain ⟨x,b⟩:=z
  dsimp only
  rw [CN,if_neg (by simp),SW _ (by omega),Aa,Bt (by simp; omega),Aa,A6 (by omega) (by omega)]
 ·rintro ⟨x',b'⟩ ⟨⟨g,h1,h2,h3⟩,h4⟩
  dsimp only at h2 h3
  subst h2
  refine ⟨g,h1,fun v aa=>?_⟩
  have:=h4 (v,aa)
  dsimp only at this
  refine Eq.trans this ?_
  rw [h3]
  unfold Pb
  cases (List.range ds.length).all fun i=>Hu t e i ds.length (ds.getD i 0) (p:Int) <;> rfl
theorem YF {t:BV} {g:Int} (f:RepF t g):∀ (r:Nat) (ds:List Int) (s:Nat) (m:Nat) (l:List Int),ds.length + r = t.1.length → XK ds → s ≤ 100 → r < m → Ql t g l →
  ∃ out h,Ql t g h ∧ Db m (G7 t,g,l) ds (s:Int) = some (out,(G7 t,g,h)) ∧ decide (0 < out.length) = LF (Hu t g) r ds s:=by
 have h6:=f.n6
 have h1:=f.tr.can.l1
 intro r
 induction r with
 | zero =>
  intro ds s m l hl hd hs hm hk
  cases m with
  | zero=>omega
  | succ m =>
   rw [Db]
   unfold FV
   rw [if_pos (by rw [Ea,beq_iff_eq]; omega),LF]
   by_cases e:s = 0
   ·subst e
    exact ⟨ds,l,hk,by rfl,by simp; omega⟩
   ·exact ⟨[],l,hk,by rw [if_pos (by simp; omega)],by simp [e]⟩
 | succ r ih =>
  intro ds s m l hl hd hs hm hk
  cases m with
  | zero=>omega
  | succ m =>
   rw [Db]
   unfold FV
   rw [if_neg (by rw [Ea,beq_iff_eq]; omega)]
   refine Exists.elim (XG (CP (s:Int) ds (Db m)) (min s 4 + 1) (fun z=>∃ h,Ql t g h ∧ z = (G7 t,g,h)) (fun (p:Nat)=>Pb (Hu t g) ds (p:Int) && LF (Hu t g) r (ds ++ [(p:Int)]) (s - p))
    (fun u=>∃ h,Ql t g h ∧ u.2 = (G7 t,g,h) ∧ 0 < u.1.length) (fun u=>∃ h,Ql t g h ∧ u = ([],(G7 t,g,h))) (by omega) (fun p z hp hz=>?_) (fun z hz=>?_) (s:=(G7 t,g,l)) ⟨l,hk,rfl⟩) ?_
   ·obtain ⟨l1,g1,rfl⟩:=hz
    obtain ⟨l2,g2,g3⟩:=Aae f g1 hd (by omega) (p:=p) (by omega) (s:Int) (by omega)
    have ab:min (s:Int) 4 = ((min s 4:Nat):Int):=by omega
    by_cases v:Pb (Hu t g) ds (p:Int) = true
    ·obtain ⟨out,l3,g4,g5,g6⟩:=ih (ds ++ [(p:Int)]) (s - p) m l2 (by simp; omega) (WA hd (by omega)) (by omega) (by omega) g2
     rw [show ((s - p:Nat):Int) = (s:Int) - (p:Int) by omega] at g5
     cases he:LF (Hu t g) r (ds ++ [(p:Int)]) (s - p) with
     | true =>
      rw [he,C9] at g6
      refine .inl ⟨by rw [v]; rfl,(out,(G7 t,g,l3)),⟨l3,g4,rfl,g6⟩,fun q=>?_⟩
      rw [CP,Kd,Aa,ab,if_pos (by simp; omega)]
      unfold Bk
      dsimp only
      rw [g3,if_pos v,g5,Aa,if_pos (by simpa using g6)]
     | false =>
      rw [he,decide_eq_false_iff_not] at g6
      refine .inr ⟨by rw [v]; rfl,(G7 t,g,l3),⟨l3,g4,rfl⟩,fun q=>?_⟩
      rw [CP,Kd,Aa,ab,if_pos (by simp; omega)]
      unfold Bk
      dsimp only
      rw [g3,if_pos v,g5,Aa,if_neg (by simpa using g6),AD (by omega)]
    ·refine .inr ⟨by simp [v],(G7 t,g,l2),⟨l2,g2,rfl⟩,fun q=>?_⟩
     rw [CP,Kd,Aa,ab,if_pos (by simp; omega)]
     unfold Bk
     dsimp only
     rw [g3,if_neg v,AD (by omega)]
   ·obtain ⟨l1,g1,rfl⟩:=hz
    have ab:min (s:Int) 4 = ((min s 4:Nat):Int):=by omega
    refine ⟨([],(G7 t,g,l1)),⟨l1,g1,rfl⟩,fun q=>?_⟩
    rw [CP,Kd,Aa,ab,if_neg (by rw [C9]; omega)]
   ·rintro u ⟨h2,h3⟩
    rw [LF]
    rcases h3 with ⟨h4,h,h5,aj,h7⟩ | ⟨h4,h,h5,aj⟩
    ·exact ⟨u.1,h,h5,by rw [h2,← aj],by rw [h4]; simpa using h7⟩
    ·subst aj
     exact ⟨[],h,h5,h2,by rw [h4]; rfl⟩
theorem Vm {t:BV} {e:Int} (f:RepF t e):∃ r,Jw t e = some r ∧ decide (0 < r.1.length) = LG (Hu t e) t.1.length []:=by
 have h6:=f.n6
 unfold Jw
 rw [LU f.tr,Aa]
 have ai:Ql t e (List.replicate 900 0):=⟨List.length_replicate,fun i k q p hi hk hq hp=>.inl (by rw [List.getElem?_replicate,if_pos (by unfold HP; omega)])⟩
 refine Exists.elim (XG (Ec t) (4 * t.1.length + 1) (fun z=>∃ l',Ql t e l' ∧ z = (G7 t,e,l')) (fun s=>LF (Hu t e) t.1.length [] s)
  (fun h=>0 < h.1.length) (fun h=>h.1 = []) (by omega) (fun s z hs v=>?_) (fun z v=>?_) (s:=(G7 t,e,List.replicate 900 0)) ⟨_,ai,rfl⟩) ?_
 ·obtain ⟨l1,g1,rfl⟩:=v
  obtain ⟨out,l3,g4,g5,g⟩:=YF f t.1.length [] s FU l1 (by simp) (fun i hi=>by simp at hi) (by omega) (D4 (by omega)) g1
  cases he:LF (Hu t e) t.1.length [] s with
  | true =>
   rw [he,C9] at g
   refine .inl ⟨rfl,(out,(s:Int)),g,fun q=>?_⟩
   rw [Ec,A6 (by omega) (by omega),if_pos (by simp; omega)]
   unfold HU
   rw [g5,Aa,if_pos (by simpa using g)]
  | false =>
   rw [he,decide_eq_false_iff_not] at g
   refine .inr ⟨rfl,(G7 t,e,l3),⟨l3,g4,rfl⟩,fun q=>?_⟩
   rw [Ec,A6 (by omega) (by omega),if_pos (by simp; omega)]
   unfold HU
   rw [g5,Aa,if_neg (by simpa using g),AD (by omega)]
 ·obtain ⟨l1,g1,rfl⟩:=v
  refine ⟨([],0),rfl,fun q=>?_⟩
  rw [Ec,A6 (by omega) (by omega),if_neg (by simp; omega)]
 ·rintro h ⟨h2,h3⟩
  refine ⟨h,h2,?_⟩
  rcases h3 with ⟨l,m⟩ | ⟨l,m⟩
  ·have:LG (Hu t e) t.1.length [] = true:=by
    rw [R7]
    obtain ⟨s,h7,u⟩:=List.any_eq_true.1 l
    exact ⟨s,by have:=List.mem_range.1 h7; omega,u⟩
   rw [this]
   simpa using m
  ·have:LG (Hu t e) t.1.length [] = false:=by
    rw [← Bool.not_eq_true,R7]
    rintro ⟨s,h7,u⟩
    have:=List.any_eq_false.1 l s (List.mem_range.2 (by omega))
    exact this u
   rw [this,m]
   rfl
structure T7 (t:BV) (least:Int) (l:List Bool) (c:Nat):Prop where
 len:l.length = 900
 val:∀ i k q p:Nat,i < k → k < t.1.length → q < 5 → p < 5 → HP i k q p < c → l[HP i k q p]? = some (!Hu t least i k (q:Int) (p:Int))
abbrev OG:=(List Bool) × Int × (List Int) × Int
theorem Ac2 {t:BV} {e:Int} (f:RepF t e) {l:List Bool} (h:T7 t e l 900) {ds:List Int} (hd:XK ds) (hl:ds.length < t.1.length) {p:Nat} (hp:p < 5) (s:Int) (hs:0 ≤ s ∧ s ≤ 1000)
  (y:OG) (hy:y.1 = l) (g:OG → Ae OG) (u:OG → (List Int) → Int → Ae OG):CI ds (p:Int) u s g FU y true 0 =
   if Pb (Hu t e) ds (p:Int) = true then Option.bind (u y (ds ++ [(p:Int)]) (s + p)) g else g y:=by
 have h6:=f.n6
 refine EM (fun m (b:Bool) k=>CI ds (p:Int) u s g m y b k) ds.length (fun k=>(List.range k).all fun i=>Hu t e i ds.length (ds.getD i 0) (p:Int)) _ (by omega) (j:=0) (by omega) (fun m k _ hk=>?_) (fun m=>?_)
 ·obtain ⟨q,hq,v⟩:=hd k hk
  rw [CI,if_pos (by simp; omega)]
  unfold Gn
  dsimp only
  rw [AY,v,Aa,M7,AD (by omega)]
  cases (List.range k).all fun i=>Hu t e i ds.length (ds.getD i 0) (p:Int) with
  | false=>rfl
  | true =>
   have c1:(decide (0 ≤ (k:Int)) && decide ((k:Int) < 6)) = true:=by simp; omega
   have c2:(decide (0 ≤ (ds.length:Int)) && decide ((ds.length:Int) < 6)) = true:=by simp; omega
   have c3:(decide (0 ≤ (q:Int)) && decide ((q:Int) < 5)) = true:=by simp; omega
   have c4:(decide (0 ≤ (p:Int)) && decide ((p:Int) < 5)) = true:=by simp; omega
   rw [if_pos rfl,if_pos c1,if_pos c2,if_pos c3,if_pos c4]
   simp only [Int.toNat_natCast]
   rw [show k * 150 + ds.length * 25 + q * 5 + p * 1 = HP k ds.length q p by rfl,hy,h.val k ds.length q p hk hl hq hp (by unfold HP; omega),Aa,Bool.not_not,Bool.true_and,Aa6 v]
 ·rw [CI,if_neg (by simp),Nc _ (by omega),Aa,Bt (by simp; omega),Aa,A6 (by omega) (by omega)]
  rfl
theorem Zq {t:BV} {aa:Int} (f:RepF t aa) {l:List Bool} (hc:T7 t aa l 900):∀ (r:Nat) (ds:List Int) (s:Nat) (m:Nat) (g:List Int) (h:Int),ds.length + r = t.1.length → XK ds → s ≤ 4 * ds.length → r < m →
  ∃ best' sm',Ck m (l,(t.1.length:Int),g,h) ds (s:Int) = some (l,(t.1.length:Int),best',sm') ∧ (!best'.isEmpty) = ((!g.isEmpty) || LG (Hu t aa) r ds):=by
 have h6:=f.n6
 have h1:=f.tr.can.l1
 intro r
 induction r with
 | zero =>
  intro ds s m g h hl hd hs hm
  cases m with
  | zero=>omega
  | succ m =>
   rw [Ck]
   unfold EL Gn
   dsimp only
   have al:ds.isEmpty = false:=by rw [List.isEmpty_eq_false_iff]; intro e; rw [e] at hl; simp at hl; omega
   have ao:(if ((ds.length:Int) == (t.1.length:Int)) = true then Option.bind (Ft ds) fun ad=>(if (List.isEmpty ad) = true then none else some (l,(t.1.length:Int),ad,(s:Int))) else Cu ds (Ck m) (s:Int) FU (l,(t.1.length:Int),g,h) 0) = some (l,(t.1.length:Int),ds,(s:Int)):=by
    rw [if_pos (by rw [beq_iff_eq]; omega),Nc _ (by omega),Aa,al,if_neg (by simp)]
   rw [LG,Bool.or_true]
   cases u:g.isEmpty with
   | true =>
    rw [if_neg (by simp),if_neg (by simp),ao]
    exact ⟨ds,_,rfl,by rw [al]; rfl⟩
   | false =>
    rw [if_pos (by simp)]
    by_cases ac:h ≤ (s:Int)
    ·rw [if_pos (decide_eq_true ac)]
     exact ⟨g,h,rfl,by rw [u]; rfl⟩
    ·rw [if_neg (by simpa using ac),ao]
     exact ⟨ds,_,rfl,by rw [al]; rfl⟩
 | succ r ih =>
  intro ds s m g h hl hd hs hm
  cases m with
  | zero=>omega
  | succ m =>
   rw [Ck]
   unfold EL Gn
   dsimp only
   have go:∃ best' sm',(if ((ds.length:Int) == (t.1.length:Int)) = true then Option.bind (Ft ds) fun ad=>(if (List.isEmpty ad) = true then none else some (l,(t.1.length:Int),ad,(s:Int))) else Cu ds (Ck m) (s:Int) FU (l,(t.1.length:Int),g,h) 0) = some (l,(t.1.length:Int),best',sm') ∧ (!best'.isEmpty) = ((!g.isEmpty) || LG (Hu t aa) (r + 1) ds):=by
    rw [if_neg (by rw [beq_iff_eq]; omega)]
    refine Exists.elim (JF (fun (_:Unit) m' (z:OG) k=>Cu ds (Ck m) (s:Int) m' z k) 5 (fun k z=>∃ v s',z = (l,(t.1.length:Int),v,s') ∧ (!v.isEmpty) = ((!g.isEmpty) || (List.range k).any fun (p:Nat)=>Pb (Hu t aa) ds (p:Int) && LG (Hu t aa) r (ds ++ [(p:Int)])))
     (fun _ z=>some z) (by omega) (fun p z _ hp hz=>?_) (fun z hz j m'=>?_) (b:=0) (by omega) (s:=(l,(t.1.length:Int),g,h)) ⟨g,h,rfl,by simp⟩) ?_
    ·obtain ⟨v,s',rfl,u⟩:=hz
     have aq:=Ac2 f hc hd (by omega) (p:=p) hp (s:Int) (by omega) (l,(t.1.length:Int),v,s') rfl
     by_cases hf:Pb (Hu t aa) ds (p:Int) = true
     ·obtain ⟨b2,s2,g1,g2⟩:=ih (ds ++ [(p:Int)]) (s + p) m v s' (by simp; omega) (WA hd hp) (by simp; omega) (by omega)
      refine ⟨(l,(t.1.length:Int),b2,s2),⟨b2,s2,rfl,?_⟩,fun _ m'=>?_⟩
      ·rw [g2,u,List.range_succ,List.any_append,List.any_cons,List.any_nil,Bool.or_false,hf,Bool.true_and,Bool.or_assoc]
      ·rw [Cu,if_pos (by simp; omega)]
       unfold Bk
       dsimp only
       rw [aq,if_pos hf,show (s:Int) + (p:Int) = ((s + p:Nat):Int) by omega,g1,Aa,AD (by omega)]
     ·refine ⟨(l,(t.1.length:Int),v,s'),⟨v,s',rfl,?_⟩,fun _ m'=>?_⟩
      ·have au:Pb (Hu t aa) ds (p:Int) = false:=by simpa using hf
       rw [u,List.range_succ,List.any_append,List.any_cons,List.any_nil,Bool.or_false,au,Bool.false_and,Bool.or_false]
      ·rw [Cu,if_pos (by simp; omega)]
       unfold Bk
       dsimp only
       rw [aq,if_neg hf,AD (by omega)]
    ·rw [Cu,if_neg (by decide)]
    ·rintro z ⟨⟨v,s',rfl,u⟩,hz⟩
     exact ⟨v,s',hz (),u⟩
   cases u:g.isEmpty with
   | true =>
    rw [if_neg (by simp),if_neg (by simp)]
    rw [u] at go
    exact go
   | false =>
    rw [if_pos (by simp)]
    by_cases ac:h ≤ (s:Int)
    ·rw [if_pos (decide_eq_true ac)]
     exact ⟨g,h,rfl,by rw [u]; rfl⟩
    ·rw [if_neg (by simpa using ac)]
     rw [u] at go
     exact go
theorem T0 {t:BV} {e:Int} {l:List Bool} {c c':Nat} (h:T7 t e l c) (s:∀ i k q p:Nat,i < k → k < t.1.length → q < 5 → p < 5 → HP i k q p < c' → HP i k q p < c):T7 t e l c' :=
 ⟨h.len,fun i k q p h1 m g f u=>h.val i k q p h1 m g f (s i k q p h1 m g f u)⟩
def O9 (t:BV) (l:List Bool):OG:=(l,(t.1.length:Int),[],0)
theorem Ss {t:BV} {h:Int} (f:RepF t h):∃ r,HI t h = some r ∧ (!r.1.isEmpty) = LG (Hu t h) t.1.length []:=by
 have h6:=f.n6
 unfold HI
 rw [Oe f.tr,Aa,Ea]
 have h0:T7 t h (List.replicate 900 false) (HP 0 1 0 0):=⟨List.length_replicate,fun i k q p h1 h2 h3 h4 h5=>by unfold HP at h5; omega⟩
 refine Exists.elim (JF (fun (_:Unit) m (z:OG) i=>DQ (G7 t) h m z i) t.1.length (fun i z=>∃ l,z = O9 t l ∧ T7 t h l (HP i (i + 1) 0 0)) (fun _ z=>Option.bind (GY z [] 0) fun ap=>some (ap.2.2.1,ap.2.2.2)) (by omega) (fun i z _ hi g=>?_) (fun z g j m=>?_) (b:=0) (by omega) (s:=O9 t (List.replicate 900 false)) ⟨_,rfl,h0⟩) ?_
 ·obtain ⟨l,rfl,v⟩:=g
  refine Exists.elim (JF (fun (u:OG → Int → Ae Ae1) m (z:OG) k=>DP (G7 t) (i:Int) h u m z k) t.1.length (fun k z=>∃ l,z = O9 t l ∧ T7 t h l (HP i k 0 0)) (fun u z=>u z ((i + 1:Nat):Int)) (by omega) (fun k z a3 hk g=>?_) (fun z g j m=>?_) (b:=i + 1) (by omega) (s:=O9 t l) ⟨_,rfl,v⟩) ?_
  ·obtain ⟨l,rfl,v⟩:=g
   refine Exists.elim (JF (fun (u:OG → Int → Ae Ae1) m (z:OG) p=>DO (G7 t) (i:Int) (k:Int) h u m z p) 5 (fun p z=>∃ l,z = O9 t l ∧ T7 t h l (HP i k p 0)) (fun u z=>u z ((k + 1:Nat):Int)) (by omega) (fun p z _ hp g=>?_) (fun z g j m=>?_) (b:=0) (by omega) (s:=O9 t l) ⟨_,rfl,v⟩) ?_
   ·obtain ⟨l,rfl,v⟩:=g
    refine Exists.elim (JF (fun (u:OG → Int → Ae Ae1) m (z:OG) q=>DN (G7 t) (i:Int) (k:Int) (p:Int) h u m z q) 5 (fun q z=>∃ l,z = O9 t l ∧ T7 t h l (HP i k p q)) (fun u z=>u z ((p + 1:Nat):Int)) (by omega) (fun q z _ hq g=>?_) (fun z g j m=>?_) (b:=0) (by omega) (s:=O9 t l) ⟨_,rfl,v⟩) ?_
    ·obtain ⟨l,rfl,v⟩:=g
     have c1:(decide (0 ≤ (i:Int)) && decide ((i:Int) < 6)) = true:=by simp; omega
     have c2:(decide (0 ≤ (k:Int)) && decide ((k:Int) < 6)) = true:=by simp; omega
     have c3:(decide (0 ≤ (p:Int)) && decide ((p:Int) < 5)) = true:=by simp; omega
     have c4:(decide (0 ≤ (q:Int)) && decide ((q:Int) < 5)) = true:=by simp; omega
     have al:HP i k p q < 900:=by unfold HP; omega
     refine ⟨O9 t (l.set (HP i k p q) (!Hu t h i k (p:Int) (q:Int))),⟨_,rfl,by rw [List.length_set]; exact v.len,fun i' k' p' q' h1 h2 h3 h4 h5=>?_⟩,fun u m=>?_⟩
     ·by_cases e:HP i k p q = HP i' k' p' q'
      ·have:i = i' ∧ k = k' ∧ p = p' ∧ q = q':=by unfold HP at e; omega
       obtain ⟨rfl,rfl,rfl,rfl⟩:=this
       rw [List.getElem?_set_self (by rw [v.len]; exact al)]
      ·rw [List.getElem?_set_ne e]
       exact v.val i' k' p' q' h1 h2 h3 h4 (by unfold HP at h5 e ⊢; omega)
     ·have e:(!Hu t h i k (p:Int) (q:Int)) = KV (Hn t i) (Hn t k) (p:Int) (q:Int) h:=by unfold Hu; rw [Bool.not_not]
      rw [DN,if_pos (by simp; omega)]
      unfold Bk
      dsimp only
      rw [AY,Ix t hi,Aa,AY,Ix t hk,Aa,if_pos c1,if_pos c2,if_pos c3,Nq (f.del hi hk (by omega) (by omega)) f.l0,Aa,if_pos c4]
      simp only [Int.toNat_natCast]
      rw [show i * 150 + k * 25 + p * 5 + q * 1 = HP i k p q by rfl]
      unfold NP O9
      dsimp only
      rw [v.len,if_pos al,Aa,AD (by omega),e]
    ·obtain ⟨l,rfl,v⟩:=g
     rw [DN,if_neg (by decide),AD (by omega)]
    ·rintro z ⟨⟨l',rfl,ag⟩,g⟩
     refine ⟨O9 t l',⟨l',rfl,T0 ag (fun i' k' p' q' h1 h2 h3 h4 h5=>by unfold HP at h5 ⊢; omega)⟩,fun u m=>?_⟩
     rw [DO,if_pos (by simp; omega)]
     exact g _
   ·rw [DO,if_neg (by decide),AD (by omega)]
   ·rintro z ⟨⟨l',rfl,ag⟩,g⟩
    refine ⟨O9 t l',⟨l',rfl,T0 ag (fun i' k' p' q' h1 h2 h3 h4 h5=>by unfold HP at h5 ⊢; omega)⟩,fun u m=>?_⟩
    rw [DP,if_pos (by rw [Ea]; simp; omega)]
    exact g _
  ·rw [DP,if_neg (by rw [Ea]; simp),AD (by omega)]
  ·rintro z ⟨⟨l',rfl,ag⟩,g⟩
   refine ⟨O9 t l',⟨l',rfl,T0 ag (fun i' k' p' q' h1 h2 h3 h4 h5=>by unfold HP at h5 ⊢; omega)⟩,fun _ m=>?_⟩
   rw [DQ,if_pos (by rw [Ea]; simp; omega),AD (by omega)]
   exact g _
 ·rw [DQ,if_neg (by rw [Ea]; simp)]
 ·rintro z ⟨⟨l',rfl,ag⟩,g⟩
  obtain ⟨b',s',g1,g2⟩:=Zq f (T0 ag (c':=900) (fun i' k' p' q' h1 h2 h3 h4 h5=>by unfold HP; omega)) t.1.length [] 0 FU [] 0 (by simp) (fun i hi=>by simp at hi) (by simp) (D4 (by omega))
  refine ⟨(b',s'),Eq.trans (g ()) ?_,g2⟩
  unfold GY O9
  have av:Ck FU (l',(t.1.length:Int),[],0) [] 0 = some (l',(t.1.length:Int),b',s'):=g1
  rw [av,Aa]

def Me (t:BV) (least:Int):Int × Bool :=
 if (Lq t && (decide (t.2.2.1 ≤ 16) && (decide (t.1.length ≤ 6) && BN least 0 80))) = true then ((if OW t least = true then 0 else if (VP t least).isSome = true then 1 else if LG (Hu t least) t.1.length [] = true then 2 else 3),true) else (0,false)
theorem Ac6 (n:Nat):decide ((n:Int) ≤ 6) = decide (n ≤ 6):=by rw [decide_eq_decide]; omega
theorem Tv {t:BV} (h:SmT t) (e:Int):Ip t e = some (Me t e):=by
 have:=h.h1; have:=h.h2; have:=h.h3
 unfold Ip JA Bk Me
 dsimp only
 rw [Lr (by omega) (by omega) (by omega),Aa,QR,Aa,Ac6]
 cases ho:Lq t with
 | false=>rfl
 | true =>
  by_cases g:t.2.2.1 ≤ 16
  ·rw [decide_eq_true g]
   by_cases l:t.1.length ≤ 6
   ·rw [decide_eq_true l]
    cases u:BN e 0 80 with
    | false=>rfl
    | true =>
     have f:RepF t e:=⟨NX ho,g,l,DB.1 u⟩
     obtain ⟨r1,s,v⟩:=Ts f
     obtain ⟨r2,e3,m⟩:=Ss f
     simp only [if_true,Bool.not_true,Bool.false_eq_true,if_false,Aa,Bool.and_true]
     rw [Np f,Aa,s,Aa,v,e3,Aa,m]
     cases OW t e <;> cases (VP t e).isSome <;> cases LG (Hu t e) t.1.length [] <;> rfl
   ·rw [decide_eq_false l]; rfl
  ·rw [decide_eq_false g]; rfl
theorem SX {t:BV} (h:SmT t) (e:Int):Ig t e = some (Me t e):=by
 have:=h.h1; have:=h.h2; have:=h.h3
 unfold Ig L8 Bk Me
 dsimp only
 rw [OS (by omega) (by omega) (by omega),Aa,O1,Aa,Ac6]
 cases ho:Lq t with
 | false=>rfl
 | true =>
  by_cases g:t.2.2.1 ≤ 16
  ·rw [decide_eq_true g]
   by_cases l:t.1.length ≤ 6
   ·rw [decide_eq_true l]
    cases v:BN e 0 80 with
    | false=>rfl
    | true =>
     have f:RepF t e:=⟨NX ho,g,l,DB.1 v⟩
     obtain ⟨r1,s,e2⟩:=Xg f
     obtain ⟨r2,e3,m⟩:=Vm f
     have u:decide (0 < (r2.1.length:Int)) = decide (0 < r2.1.length):=by rw [decide_eq_decide]; omega
     simp only [if_true,Bool.not_true,Bool.false_eq_true,if_false,Aa,Bool.and_true]
     rw [NB (by omega),Aa,RP f,Aa,s,Aa,e2,e3,Aa,u,m]
     unfold OW
     cases ((J9 (TT t e) t.1.length t.1.length).length:Int) == 0 <;> cases (VP t e).isSome <;> cases LG (Hu t e) t.1.length [] <;> rfl
   ·rw [decide_eq_false l]; rfl
  ·rw [decide_eq_false g]; rfl
theorem Aab (t:BV) (e:Int):0 ≤ (Me t e).1 ∧ (Me t e).1 ≤ 3:=by
 unfold Me
 split
 ·dsimp only
  split
  ·decide
  ·split
   ·decide
   ·split <;> decide
 ·decide
theorem Ab7 {k u:Nat} (h:u < 10 ^ (k + 1)):(Lib.decDigits u).length ≤ k + 1:=(Vf k u h).2.2.2.1
theorem TL {t:Int} (f:0 ≤ t) (h1:t < 10):K1 [Mv (Ag (48 + t))] = [UInt8.ofNat (48 + t.toNat)]:=by
 have e:Mv (48 + t) = 48 + t:=by
  unfold Mv
  show (48 + t) % 256 = _
  omega
 rw [A6 (by omega) (by omega),e]
 unfold K1
 rw [List.map_cons,List.map_nil,show (48 + t).toNat = 48 + t.toNat by omega]
theorem Adq:∀ (d m:Nat) (n:Int),0 ≤ n → n.toNat < 10 ^ (d + 1) → d ≤ 18 → d < m → n ≤ 9223372036854775807 → FO m n = some (Lib.decDigits n.toNat):=by
 intro d
 induction d with
 | zero =>
  intro m n e g hd s h2
  cases m with
  | zero=>omega
  | succ m =>
   have f:n.toNat < 10:=by simpa using g
   rw [FO,if_pos (by simp; omega),TL e (by omega),QX f]
 | succ d ih =>
  intro m n e g hd s h2
  cases m with
  | zero=>omega
  | succ m =>
   by_cases f:n < 10
   ·rw [FO,if_pos (by simp; omega),TL e f,QX (by omega)]
   ·rw [FO,if_neg (by simp; omega)]
    unfold Bk
    dsimp only
    have h:(n / 10).toNat = n.toNat / 10:=by omega
    have l:(n % 10).toNat = n.toNat % 10:=by omega
    have v:n.toNat / 10 < 10 ^ (d + 1):=by rw [Nat.pow_succ] at g; omega
    have hl:=Ab7 (k:=d) v
    rw [Int.tdiv_eq_ediv_of_nonneg e,Int.tmod_eq_emod_of_nonneg e,A6 (x:=n / 10) (by omega) (by omega),ih m (n / 10) (by omega) (by omega) (by omega) (by omega) (by omega),Aa,TL (by omega) (by omega),h,l]
    unfold Cl
    rw [if_pos (by simp; omega),Aa,XL (u:=n.toNat) (by omega)]
theorem Kb {n:Int} (h:0 ≤ n) (e:n ≤ 9223372036854775807):Dd n = some (Lib.decDigits n.toNat):=by
 unfold Dd
 exact Adq 18 FU n h (by omega) (by omega) (D4 (by omega)) e
theorem Aa9 {x:GA} (h:Gf x = true) {c:Int} (h0:0 ≤ c) (h1:c ≤ 4611686018427387904):0 ≤ Rs x c ∧ Rs x c ≤ 720000:=by
 obtain ⟨l1,l2,hx⟩:=LQ h
 have au:x.length ≤ 40:=by
  unfold Gf at h
  rw [Cf,LP] at h
  omega
 have aj:∀ (d k m:Nat) (a b:Int),x.length - k = d → k ≤ x.length → d < m → 0 ≤ a → a ≤ 4611686018427387904 → 0 ≤ b → b ≤ 18000 * k → ∃ t,Di x m a b (k:Int) = some t ∧ 0 ≤ t ∧ t ≤ 18000 * x.length:=by
  intro d
  induction d with
  | zero =>
   intro k m a b hd hk hm v a1 b0 b1
   cases m with
   | zero=>omega
   | succ m =>
    rw [Di,if_neg (by simp; omega)]
    exact ⟨_,rfl,by omega,by omega⟩
  | succ d ih =>
   intro k m a b hd hk hm v a1 b0 b1
   cases m with
   | zero=>omega
   | succ m =>
    have u:k < x.length:=by omega
    have l:=List.all_eq_true.1 hx x[k] (List.getElem_mem u)
    unfold G6 at l
    rw [Cf,LP,LP] at l
    have s:¬ x[k].2 = 0:=by omega
    have Cq:∀ q:Int,0 ≤ q → q ≤ 12 → Ag (Int.tdiv (Ag (60000 * q)) x[k].2) = 60000 * q / x[k].2 ∧ 0 ≤ 60000 * q / x[k].2 ∧ 60000 * q / x[k].2 ≤ 18000:=by
     intro q q0 q1
     have d1:0 ≤ 60000 * q / x[k].2:=Int.ediv_nonneg (by omega) (by omega)
     have d2:60000 * q / x[k].2 ≤ 18000:=by
      have:=Int.ediv_le_ediv (c:=x[k].2) (by omega) (show 60000 * q ≤ 18000 * x[k].2 by omega)
      rw [Int.mul_ediv_cancel _ s] at this
      exact this
     rw [A6 (x:=60000 * q) (by omega) (by omega),Int.tdiv_eq_ediv_of_nonneg (by omega),A6 (by omega) (by omega)]
     exact ⟨rfl,d1,d2⟩
    rw [Di,if_pos (by simp; omega),Js u,Aa]
    simp only [H1,if_neg s,Aa,AD (k:=k) (by omega)]
    split
    ·rename_i f
     have ab:a < x[k].1:=by simpa using f
     obtain ⟨e,e0,e1⟩:=Cq a v (by omega)
     rw [e,A6 (by omega) (by omega)]
     exact ⟨_,rfl,by omega,by omega⟩
    ·rename_i f
     have ab:¬ a < x[k].1:=by simpa using f
     obtain ⟨e,e0,e1⟩:=Cq x[k].1 (by omega) (by omega)
     rw [e,A6 (x:=a - x[k].1) (by omega) (by omega),A6 (x:=b + _) (by omega) (by omega)]
     exact ih (k + 1) m _ _ (by omega) (by omega) (by omega) (by omega) (by omega) (by omega) (by omega)
 obtain ⟨t,g,t0,t1⟩:=aj _ 0 FU c 0 rfl (by omega) (D4 (by omega)) h0 h1 (by omega) (by simp)
 have:=OQ x h c
 unfold FJ at this
 rw [show ((0:Nat):Int) = 0 by rfl] at g
 rw [g] at this
 have e:=Option.some.inj this
 rw [← e]
 exact ⟨t0,by omega⟩
abbrev IC:=Int × Int × Int
def SQ (k:Nat) (x:IC):Bool:=(if k = 0 then decide (x.1 = -1) else BN x.1 0 ((k:Int) - 1)) && (BN x.2.1 0 7 && BN x.2.2 0 999)
def OK (l:List IC) (k:Nat):Bool:=match l[k]? with
 | some x=>SQ k x
 | none=>true
def Ht (l:List IC):Bool:=BN (l.length:Int) 1 60 && (List.range l.length).all (OK l)
theorem OO {l:List IC} (s:l.length < 4611686018427387904):HZ l = some (Ht l):=by
 unfold HZ Ht
 rw [O7 (FB l) l.length (OK l) (some (BN (l.length:Int) 1 60)) (some false) s (fun m k u=>?_) (fun m=>?_)]
 ·cases (List.range l.length).all (OK l) <;> simp
 ·obtain ⟨x,g⟩:∃ x,l[k]? = some x:=⟨_,Cp u⟩
  rw [FB,if_pos (by simp; omega),AY,g,Aa,AD (by omega)]
  unfold Bk OK
  rw [g]
  dsimp only
  rw [CU,Aa,CU,CU,Aa,Aa,A6 (by omega) (by omega)]
  unfold SQ
  by_cases h:k = 0
  ·subst h
   have:BN x.1 0 (((0:Nat):Int) - 1) = false:=by rw [← Bool.not_eq_true,DB]; omega
   rw [this]
   by_cases f:x.1 = -1 <;> by_cases h1:BN x.2.1 0 7 = true <;> by_cases e:BN x.2.2 0 999 = true <;> simp [f,h1,e]
  ·by_cases f:BN x.1 0 ((k:Int) - 1) = true <;> by_cases h1:BN x.2.1 0 7 = true <;> by_cases e:BN x.2.2 0 999 = true <;> simp [f,h1,e,h,show 0 < k by omega]
 ·rw [FB,if_neg (by simp),CU,Aa]
theorem LD {l:List IC} (hl:l.length < 4611686018427387904):FI l = some (Ht l):=by
 unfold FI Ht Bk
 dsimp only
 rw [CT,Aa]
 cases hi:BN (l.length:Int) 1 60 with
 | false=>simp
 | true =>
  have ae:=DB.1 hi
  obtain ⟨g,s⟩:∃ x,l[0]? = some x:=⟨_,Cp (by omega)⟩
  rw [if_neg (by simp),Sw,s,Aa,Bool.true_and]
  by_cases f:g.1 = -1
  ·rw [if_neg (by simpa using f),O7 (DU l) l.length (OK l) (some true) (some false) hl (fun m k hk=>?_) (fun m=>?_)]
   ·cases (List.range l.length).all (OK l) <;> simp
   ·obtain ⟨x,e⟩:∃ x,l[k]? = some x:=⟨_,Cp hk⟩
    rw [DU,if_pos (by simp; omega),AY,e,Aa,AD (by omega)]
    unfold Bk OK
    rw [e]
    dsimp only
    rw [CT,Aa,CT,CT,Aa,Aa,A6 (by omega) (by omega)]
    unfold SQ
    by_cases v:k = 0
    ·subst v
     rw [s] at e
     cases e
     by_cases h1:BN g.2.1 0 7 = true <;> by_cases u:BN g.2.2 0 999 = true <;> simp [f,h1,u]
    ·by_cases hq:BN x.1 0 ((k:Int) - 1) = true <;> by_cases h1:BN x.2.1 0 7 = true <;> by_cases u:BN x.2.2 0 999 = true <;> simp [hq,h1,u,v,show 0 < k by omega]
   ·rw [DU,if_neg (by simp)]
  ·rw [if_pos (by simpa using f)]
   have:(List.range l.length).all (OK l) = false:=by
    rw [← Bool.not_eq_true,List.all_eq_true]
    intro h
    have:=h 0 (List.mem_range.2 (by omega))
    unfold OK SQ at this
    rw [s] at this
    simp [f] at this
   rw [this]
def L1 (l:List IC) (v:IC):List IC × Bool:=if Ht (l ++ [v]) = true then (l ++ [v],true) else ([],false)
theorem SZ {l:List IC} (h:Ht l = true) (e:l.length ≤ 60) (v:IC):Ii l v = some (L1 l v):=by
 unfold Ii Bk L1
 dsimp only
 rw [Bt (by simp; omega),Aa,Bt (by simp; omega),Aa,OO (by omega),Aa,h,if_neg (by simp),List.nil_append,OO (by simp; omega),Aa]
 cases Ht (l ++ [v]) <;> rfl
theorem Tx {l:List IC} (h:Ht l = true) (e:l.length ≤ 60) (v:IC):Iq l v = some (L1 l v):=by
 unfold Iq Bk L1
 dsimp only
 rw [LD (by omega),Aa,h,if_neg (by simp),Bt (by simp; omega),Aa,Bt (by simp; omega),Aa,List.nil_append,LD (by simp; omega),Aa]
 cases Ht (l ++ [v]) <;> rfl
abbrev BP:=Int × Int × Int × Int
def FR (a b:BP):Prop:=a.2.2.1 < b.2.2.1 ∨ (a.2.2.1 = b.2.2.1 ∧ a.2.1 < b.2.1)
instance (a b:BP):Decidable (FR a b):=by unfold FR; exact inferInstance
def Kj (a b:BP):Prop:=¬ FR b a
theorem LR {a b c:BP} (h1:Kj a b) (e:Kj b c):Kj a c:=by unfold Kj FR at *; omega
theorem LS {a b:BP} (h:FR a b):Kj a b:=by unfold Kj FR at *; omega
theorem ZY (a:BP):Kj a a:=by unfold Kj FR at *; omega
def Ly (a:BP):Prop:=(0 ≤ a.2.1 ∧ a.2.1 ≤ 99999) ∧ 0 ≤ a.2.2.1 ∧ a.2.2.1 ≤ 99999
theorem QY {a b:BP} (f:Ly a) (e:Ly b):∃ u,Dr a b = some u ∧ decide (u < 0) = decide (FR a b) ∧ decide (0 ≤ u) = !decide (FR a b):=by
 obtain ⟨⟨a1,g⟩,v,a4⟩:=f
 obtain ⟨⟨s,b2⟩,l,m⟩:=e
 unfold Dr
 by_cases h:a.2.2.1 = b.2.2.1
 ·rw [if_neg (by simp [h]),A6 (by omega) (by omega)]
  refine ⟨_,rfl,?_,?_⟩
  ·rw [decide_eq_decide]; unfold FR; omega
  ·rw [← decide_not,decide_eq_decide]; unfold FR; omega
 ·rw [if_pos (by simpa using h),A6 (by omega) (by omega)]
  refine ⟨_,rfl,?_,?_⟩
  ·rw [decide_eq_decide]; unfold FR; omega
  ·rw [← decide_not,decide_eq_decide]; unfold FR; omega
theorem R2 {i j:Nat} (h:i + j < 4611686018427387904):Ag (Br .u64 (Bh (Ag ((i:Int) + (j:Int)))) 1) = (((i + j) / 2:Nat):Int):=by
 rw [A6 (x:=(i:Int) + j) (by omega) (by omega)]
 have f:Bh ((i:Int) + (j:Int)) = (i:Int) + j:=by
  unfold Bh
  show ((i:Int) + (j:Int)) % 18446744073709551616 = _
  omega
 rw [f]
 have e:Br .u64 ((i:Int) + (j:Int)) 1 = (((i + j) / 2:Nat):Int):=by
  unfold Br
  show Int.fdiv ((i:Int) + (j:Int)) 2 = _
  rw [Int.fdiv_eq_ediv_of_nonneg _ (by omega)]
  omega
 rw [e,A6 (by omega) (by omega)]
theorem Ut {R:Type} (f:Nat → Int → Int → Ae R) (q:Nat → Bool) (K:Nat → Ae R) (g h:Nat)
  (hs:∀ (m i j:Nat),i < j → j ≤ h → g ≤ i → f (m + 1) (i:Int) (j:Int) = if q ((i + j) / 2) = true then f m (((i + j) / 2 + 1:Nat):Int) (j:Int) else f m (i:Int) (((i + j) / 2:Nat):Int))
  (he:∀ (m i:Nat),f (m + 1) (i:Int) (i:Int) = K i) (ac:∀ c c',g ≤ c → c ≤ c' → c' < h → q c' = true → q c = true) :
  ∀ (d m i j:Nat),j - i ≤ d → d < m → g ≤ i → i ≤ j → j ≤ h → (∀ c,g ≤ c → c < i → q c = true) → (∀ c,j ≤ c → c < h → q c = false) →
   ∃ s,g ≤ s ∧ s ≤ h ∧ (∀ c,g ≤ c → c < s → q c = true) ∧ (∀ c,s ≤ c → c < h → q c = false) ∧ f m (i:Int) (j:Int) = K s:=by
 intro d
 induction d with
 | zero =>
  intro m i j hd hm u ai l h1 v
  have:i = j:=by omega
  subst this
  cases m with
  | zero=>omega
  | succ m=>exact ⟨i,u,l,h1,v,he m i⟩
 | succ d ih =>
  intro m i j hd hm u ai l h1 v
  cases m with
  | zero=>omega
  | succ m =>
   by_cases e:i = j
   ·subst e
    exact ⟨i,u,l,h1,v,he m i⟩
   ·rw [hs m i j (by omega) l u]
    cases hq:q ((i + j) / 2) with
    | true =>
     rw [if_pos rfl]
     exact ih m _ j (by omega) (by omega) (by omega) (by omega) l (fun c hc ae=>ac c ((i + j) / 2) hc (by omega) (by omega) hq) v
    | false =>
     rw [if_neg (by simp)]
     refine ih m i _ (by omega) (by omega) u (by omega) (by omega) h1 (fun c hc ae=>?_)
     cases al:q c with
     | false=>rfl
     | true=>rw [ac ((i + j) / 2) c (by omega) hc ae al] at hq; cases hq
theorem Jq {α:Type} {A B:List α} {x:α} {k:Nat} (h:k = A.length):AL (A ++ x :: B) (k:Int) = some x:=by
 rw [AY,h,List.getElem?_append_right (by omega)]
 simp
theorem MU {α:Type} {A B:List α} {x y:α} {k:Nat} (h:k = A.length):BE (A ++ x :: B) (k:Int) y = A ++ y :: B:=by
 rw [J6,h,List.set_append_right _ _ (by omega)]
 simp
theorem Xz (x1 x2 x3:Nat) (A M B:List BP):∀ (P Q P0 Q0:List BP) (m:Nat),P.length = Q.length → P0.length = Q0.length → x1 = A.length → x2 = A.length + P0.length + P.length + M.length → x3 = P0.length + P.length → x2 + x3 < 1000000 → P.length < m →
  Bw (x3:Int) (x2:Int) (x1:Int) m (A ++ P0 ++ P ++ M ++ Q0 ++ Q ++ B) (P0.length:Int) = some (A ++ P0 ++ Q ++ M ++ Q0 ++ P ++ B)
 | [],Q,P0,Q0,m,h1,h2,h3,h4,h5,h6,hm=>by
  have:Q = []:=List.length_eq_zero_iff.1 h1.symm
  subst this
  cases m with
  | zero=>simp at hm
  | succ m =>
   rw [Bw,if_neg (by simp at h5 ⊢; omega)]
 | p :: P,[],P0,Q0,m,h1,h2,h3,h4,h5,h6,hm=>by simp at h1
 | p :: P,q :: Q,P0,Q0,m,h1,h2,h3,h4,h5,h6,hm=>by
  simp only [List.length_cons] at h1 h4 h5 hm
  cases m with
  | zero=>omega
  | succ m =>
   rw [Bw,if_pos (by simp; omega)]
   unfold Bk
   dsimp only
   rw [AD (by omega),A6 (x:=(x2:Int) + _) (by omega) (by omega),A6 (x:=(x1:Int) + _) (by omega) (by omega)]
   rw [show (x2:Int) + (P0.length:Int) = ((x2 + P0.length:Nat):Int) by omega,show (x1:Int) + (P0.length:Int) = ((x1 + P0.length:Nat):Int) by omega]
   have g:A ++ P0 ++ p :: P ++ M ++ Q0 ++ q :: Q ++ B = (A ++ P0 ++ p :: P ++ M ++ Q0) ++ q :: (Q ++ B):=by simp
   have f:(A ++ P0 ++ p :: P ++ M ++ Q0) ++ q :: (Q ++ B) = (A ++ P0) ++ p :: (P ++ M ++ Q0 ++ q :: (Q ++ B)):=by simp
   have h:(A ++ P0) ++ q :: (P ++ M ++ Q0 ++ q :: (Q ++ B)) = (A ++ P0 ++ q :: P ++ M ++ Q0) ++ q :: (Q ++ B):=by simp
   rw [g,Jq (by simp; omega),Aa,f,Jq (by simp; omega),Aa,Aa,MU (by simp; omega),h,Jq (by simp; omega),Aa,MU (by simp; omega)]
   have e:=Xz x1 x2 x3 A M B P Q (P0 ++ [q]) (Q0 ++ [p]) m (by omega) (by simpa using h2) h3 (by simp; omega) (by simp; omega) h6 (by omega)
   simp only [List.append_assoc,List.cons_append,List.nil_append,CM,List.length_cons,List.length_nil] at e ⊢
   exact e
theorem NM {A P M Q B:List BP} {x1 x2 x3:Nat} (h1:P.length = Q.length) (f:x1 = A.length) (g:x2 = A.length + P.length + M.length) (h:x3 = P.length) (e:x2 + x3 < 1000000) :
  B8 (A ++ P ++ M ++ Q ++ B) (x1:Int) (x2:Int) (x3:Int) = some (A ++ Q ++ M ++ P ++ B):=by
 unfold B8
 have:=Xz x1 x2 x3 A M B P Q [] [] FU h1 rfl f (by simp; omega) (by simp; omega) e (D4 (by omega))
 simpa using this
theorem MC {α:Type} {l:List α} {k:Nat} (h:k ≤ l.length):∃ P R,l = P ++ R ∧ P.length = k:=⟨l.take k,l.drop k,(List.take_append_drop k l).symm,by simp; omega⟩
theorem ZN (x2:Nat) (hx:x2 < 100000):∀ (d m:Nat) (A U V B:List BP),U.length + V.length ≤ d → d < m → U ≠ [] → V ≠ [] → x2 = A.length + U.length → V.length < 100000 →
  B0 (x2:Int) m (A ++ U ++ V ++ B) (U.length:Int) (V.length:Int) = some (A ++ V ++ U ++ B):=by
 intro d
 induction d with
 | zero =>
  intro m A U V B hd hm g u h2 hv
  exact absurd (List.length_eq_zero_iff.1 (by omega)) g
 | succ d v =>
  intro m A U V B hd hm g u h2 hv
  have ag:=List.length_pos_iff.2 g
  have aj:=List.length_pos_iff.2 u
  cases m with
  | zero=>omega
  | succ m =>
   rw [B0]
   by_cases e:U.length = V.length
   ·rw [if_neg (by simp [e]),A6 (x:=(x2:Int) - _) (by omega) (by omega),show (x2:Int) - (U.length:Int) = (A.length:Int) by omega]
    have:=NM (A:=A) (P:=U) (M:=[]) (Q:=V) (B:=B) (x1:=A.length) (x2:=x2) (x3:=U.length) e rfl (by simp; omega) rfl (by omega)
    simp only [List.append_nil] at this
    rw [this,Aa]
   ·rw [if_pos (by simp; omega)]
    by_cases ac:V.length < U.length
    ·obtain ⟨P,R,rfl,s⟩:=MC (l:=U) (k:=V.length) (by omega)
     simp only [CM] at *
     rw [if_pos (by simp; omega),A6 (x:=(x2:Int) - _) (by omega) (by omega),show (x2:Int) - ((P.length + R.length:Nat):Int) = (A.length:Int) by omega]
     have:=NM (A:=A) (P:=P) (M:=R) (Q:=V) (B:=B) (x1:=A.length) (x2:=x2) (x3:=V.length) s rfl (by omega) (by omega) (by omega)
     rw [show A ++ (P ++ R) ++ V ++ B = A ++ P ++ R ++ V ++ B by simp,this,Aa,A6 (by omega) (by omega),show ((P.length + R.length:Nat):Int) - (V.length:Int) = (R.length:Int) by omega]
     have h:=v m (A ++ V) R P B (by omega) (by omega) (fun h=>by subst h; simp at ac; omega) (fun h=>by subst h; simp at s; omega) (by simp; omega) (by omega)
     rw [s] at h
     rw [h]
     simp
    ·obtain ⟨R,Q,rfl,hR⟩:=MC (l:=V) (k:=V.length - U.length) (by omega)
     simp only [CM] at *
     have f:U.length = Q.length:=by omega
     rw [if_neg (by simp; omega),A6 (x:=(x2:Int) - _) (by omega) (by omega),show (x2:Int) - (U.length:Int) = (A.length:Int) by omega,A6 (x:=(x2:Int) + _) (by omega) (by omega),A6 (by omega) (by omega),
      show (x2:Int) + ((R.length + Q.length:Nat):Int) - (U.length:Int) = ((x2 + R.length:Nat):Int) by omega]
     have:=NM (A:=A) (P:=U) (M:=R) (Q:=Q) (B:=B) (x1:=A.length) (x2:=x2 + R.length) (x3:=U.length) f rfl (by omega) (by omega) (by omega)
     rw [show A ++ U ++ (R ++ Q) ++ B = A ++ U ++ R ++ Q ++ B by simp,this,Aa,A6 (by omega) (by omega),show ((R.length + Q.length:Nat):Int) - (U.length:Int) = (R.length:Int) by omega]
     have h:=v m A Q R (U ++ B) (by omega) (by omega) (fun h=>g (List.length_eq_zero_iff.1 (by rw [f,h]; rfl))) (fun h=>e (by rw [h]; simpa using f)) (by omega) (by omega)
     rw [← f] at h
     rw [show A ++ Q ++ R ++ U ++ B = A ++ Q ++ R ++ (U ++ B) by simp,h]
     simp
theorem YO {A U V B:List BP} {x1 x2 x3:Nat} (e:U ≠ []) (f:V ≠ []) (h1:x1 = A.length) (g:x2 = A.length + U.length) (l:x3 = A.length + U.length + V.length) (h:x3 < 100000) :
  BK (A ++ U ++ V ++ B) (x1:Int) (x2:Int) (x3:Int) = some (A ++ V ++ U ++ B):=by
 unfold BK
 rw [A6 (by omega) (by omega),A6 (by omega) (by omega),show (x2:Int) - (x1:Int) = (U.length:Int) by omega,show (x3:Int) - (x2:Int) = (V.length:Int) by omega]
 exact ZN x2 (by omega) (U.length + V.length) FU A U V B (Nat.le_refl _) (D4 (by omega)) e f g (by omega)
def FZ (l:List BP):Prop:=l.Pairwise Kj
theorem Pm {S1 S2:List BP} {x:BP} (h:FZ (S1 ++ S2)) (m:∀ s ∈ S2,Kj x s) (h1:S1 = [] ∨ ∃ R y,S1 = R ++ [y] ∧ Kj y x):FZ (S1 ++ x :: S2):=by
 unfold FZ at *
 rw [List.pairwise_append] at h ⊢
 refine ⟨h.1,List.pairwise_cons.2 ⟨m,h.2.1⟩,fun a g b e=>?_⟩
 rcases List.mem_cons.1 e with rfl | e
 ·rcases h1 with rfl | ⟨R,y,rfl,l⟩
  ·cases g
  ·rcases AX.1 g with f | f
   ·exact LR ((List.pairwise_append.1 h.1).2.2 a f y (List.mem_singleton.2 rfl)) l
   ·rw [List.mem_singleton.1 f]; exact l
 ·exact h.2.2 a g b e
theorem Zo (nx:List BP → Int → Ae (List BP)) (y6:Int) (A B:List BP) (x:BP) (hx:Ly x) (hA:A.length < 100000):∀ (k m:Nat) (S1 S2:List BP),S1.length = k → k < m → k < 100000 → (∀ s ∈ S1,Ly s) → (∀ s ∈ S2,FR x s) → FZ (S1 ++ S2) →
  ∃ Z,Z.Perm (S1 ++ x :: S2) ∧ FZ Z ∧ Bn nx y6 (A.length:Int) m (A ++ S1 ++ x :: S2 ++ B) ((A.length + S1.length:Nat):Int) = nx (A ++ Z ++ B) (Ag (y6 + 1)):=by
 intro k
 induction k with
 | zero =>
  intro m S1 S2 g hm hl v l e
  have:S1 = []:=List.length_eq_zero_iff.1 g
  subst this
  cases m with
  | zero=>omega
  | succ m =>
   refine ⟨x :: S2,List.Perm.refl _,Pm (S1:=[]) e (fun s h=>LS (l s h)) (.inl rfl),?_⟩
   rw [Bn]
   unfold Bk
   dsimp only
   rw [if_neg (by simp),if_neg (by simp)]
   simp
 | succ k ih =>
  intro m S1 S2 g hm hl v l e
  obtain ⟨R,y,rfl⟩:∃ R y,S1 = R ++ [y]:=⟨S1.dropLast,S1.getLast (fun h=>by subst h; simp at g),(List.dropLast_concat_getLast _).symm⟩
  have hR:R.length = k:=by simpa using g
  have hy:=v y (by simp)
  obtain ⟨u,hu,aj,_⟩:=QY hx hy
  cases m with
  | zero=>omega
  | succ m =>
   rw [Bn]
   unfold Bk
   dsimp only
   have e1:A ++ (R ++ [y]) ++ x :: S2 ++ B = (A ++ R ++ [y]) ++ x :: (S2 ++ B):=by simp
   have e2:(A ++ R ++ [y]) ++ x :: (S2 ++ B) = (A ++ R) ++ y :: (x :: (S2 ++ B)):=by simp
   have ej:Ag (((A.length + (R ++ [y]).length:Nat):Int) - 1) = ((A.length + R.length:Nat):Int):=by
    rw [A6 (by simp; omega) (by simp; omega)]; simp; omega
   rw [if_pos (by simp <;> omega),ej,e1,Jq (by simp <;> omega),Aa,e2,Jq (by simp),Aa,hu,Aa,aj]
   by_cases f:FR x y
   ·rw [decide_eq_true f,if_pos rfl,Aa]
    rw [← e2,Aa,Aa,MU (by simp <;> omega)]
    have e3:(A ++ R ++ [y]) ++ y :: (S2 ++ B) = (A ++ R) ++ y :: (y :: (S2 ++ B)):=by simp
    rw [e3,Jq (by simp),Aa,MU (by simp)]
    have ar:FZ (R ++ y :: S2):=by simpa using e
    obtain ⟨Z,ag,ai,aq⟩:=ih m R (y :: S2) hR (by omega) (by omega) (fun s h=>v s (by simp [h])) (fun s h=>by
     rcases List.mem_cons.1 h with rfl | h
     ·exact f
     ·exact l s h) ar
    refine ⟨Z,ag.trans ?_,ai,?_⟩
    ·rw [List.append_assoc]
     exact List.Perm.append_left R (List.Perm.swap y x S2)
    ·rw [← aq]
     simp
   ·rw [decide_eq_false f,if_neg (by simp)]
    refine ⟨R ++ [y] ++ x :: S2,List.Perm.refl _,Pm e (fun s h=>LS (l s h)) (.inr ⟨R,y,rfl,f⟩),?_⟩
    simp
theorem Vc (A B:List BP) (u:A.length < 50000):∀ (T S:List BP) (m:Nat),T.length < m → S ≠ [] → S.length + T.length < 50000 → (∀ s ∈ S ++ T,Ly s) → FZ S →
  ∃ Z,Z.Perm (S ++ T) ∧ FZ Z ∧ AW ((A.length + S.length + T.length:Nat):Int) (A.length:Int) m (A ++ S ++ T ++ B) ((A.length + S.length:Nat):Int) = some (A ++ Z ++ B)
 | [],S,m,hm,hS,hl,ho,hs=>by
  cases m with
  | zero=>simp at hm
  | succ m =>
   refine ⟨S,by simp,hs,?_⟩
   rw [AW,if_neg (by simp)]
   simp
 | x :: T,S,m,hm,hS,hl,ho,hs=>by
  simp only [List.length_cons] at hm hl ⊢
  cases m with
  | zero=>omega
  | succ m =>
   obtain ⟨Z,h1,v,l⟩:=Zo (AW ((A.length + S.length + (T.length + 1):Nat):Int) (A.length:Int) m) ((A.length + S.length:Nat):Int) A (T ++ B) x (ho x (by simp)) (by omega) S.length FU S [] rfl (D4 (by omega)) (by omega) (fun s h=>ho s (by simp [h])) (fun s h=>by cases h) (by simpa using hs)
   rw [AW,if_pos (by simp; omega)]
   rw [show A ++ S ++ x :: T ++ B = A ++ S ++ [x] ++ (T ++ B) by simp,l,AD (by omega)]
   have e:Z.length = S.length + 1:=by have:=h1.length_eq; simpa using this
   obtain ⟨W,g,w2,f⟩:=Vc A B u T Z m (by omega) (fun h=>by subst h; simp at e) (by omega) (fun s h=>by
    rcases AX.1 h with h | h
    ·refine ho s ?_
     have:=h1.mem_iff.1 h
     simp only [AX,List.mem_cons,List.not_mem_nil,or_false] at this ⊢
     rcases this with h | h
     ·exact .inl h
     ·exact .inr (.inl h)
    ·exact ho s (by simp [h])) v
   refine ⟨W,g.trans ?_,w2,?_⟩
   ·have:=h1.append_right T
    simpa using this
   ·rw [e] at f
    rw [show A ++ Z ++ (T ++ B) = A ++ Z ++ T ++ B by simp,← f]
    congr 1 <;> omega
theorem Mf {A X B:List BP} {a b:Nat} (h:a = A.length) (e:b = A.length + X.length) (m:b < 50000) (g:∀ s ∈ X,Ly s) :
  ∃ Z,Z.Perm X ∧ FZ Z ∧ Bj (A ++ X ++ B) (a:Int) (b:Int) = some (A ++ Z ++ B):=by
 unfold Bj
 rw [AD (by omega)]
 cases X with
 | nil =>
  refine ⟨[],List.Perm.refl _,List.Pairwise.nil,?_⟩
  rw [show FU = (FU - 1) + 1 from rfl,AW,if_neg (by simp at e ⊢; omega)]
 | cons x T =>
  simp only [List.length_cons] at e
  obtain ⟨Z,h1,l,f⟩:=Vc A B (by omega) T [x] FU (D4 (by omega)) (by simp) (by simp; omega) g (List.pairwise_singleton _ _)
  refine ⟨Z,h1,l,?_⟩
  rw [← f]
  simp only [List.length_singleton]
  rw [h,e,show A.length + 1 + T.length = A.length + (T.length + 1) by omega]
  simp
theorem YI (x:BP) (B:List BP) (i:Nat) (l:i < 100000):∀ (Y A:List BP) (m:Nat),Y.length < m → i = A.length + Y.length + 1 →
  Bz (i:Int) m (A ++ x :: Y ++ B) (A.length:Int) = some (A ++ Y ++ x :: B)
 | [],A,m,hm,h=>by
  cases m with
  | zero=>simp at hm
  | succ m =>
   rw [Bz,A6 (x:=(i:Int) - 1) (by omega) (by omega),if_neg (by simp at h ⊢; omega)]
   simp
 | y :: Y,A,m,hm,h=>by
  simp only [List.length_cons] at hm h
  cases m with
  | zero=>omega
  | succ m =>
   rw [Bz,A6 (x:=(i:Int) - 1) (by omega) (by omega),if_pos (by simp; omega)]
   unfold Bk
   dsimp only
   have f:A ++ x :: y :: Y ++ B = (A ++ [x]) ++ y :: (Y ++ B):=by simp
   have g:(A ++ [x]) ++ y :: (Y ++ B) = A ++ x :: (y :: (Y ++ B)):=by simp
   have s:A ++ y :: (y :: (Y ++ B)) = (A ++ [y]) ++ y :: (Y ++ B):=by simp
   rw [AD (by omega),f,Jq (by simp),Aa,g,Jq rfl,Aa,Aa,MU rfl,s,Jq (by simp),Aa,MU (by simp)]
   have e:=YI x B i l Y (A ++ [y]) m (by omega) (by simp; omega)
   simp only [CM,List.length_cons,List.length_nil] at e
   rw [show (A ++ [y]) ++ x :: (Y ++ B) = A ++ [y] ++ x :: Y ++ B by simp,e]
   simp
theorem Acd (y:BP) (B:List BP) (i:Nat) (hi:i < 50000) (A:List BP) (hA:i = A.length):∀ (k m:Nat) (X B:List BP),X.length = k → k < m → k < 50000 →
  Bx (i:Int) m (A ++ X ++ y :: B) ((A.length + X.length:Nat):Int) = some (A ++ y :: X ++ B):=by
 intro k
 induction k with
 | zero =>
  intro m X B e s u
  have:X = []:=List.length_eq_zero_iff.1 e
  subst this
  cases m with
  | zero=>omega
  | succ m =>
   rw [Bx,if_neg (by simp; omega)]
   simp
 | succ k ih =>
  intro m X B e s u
  obtain ⟨R,z,rfl⟩:∃ R z,X = R ++ [z]:=⟨X.dropLast,X.getLast (fun h=>by subst h; simp at e),(List.dropLast_concat_getLast _).symm⟩
  have l:R.length = k:=by simpa using e
  cases m with
  | zero=>omega
  | succ m =>
   rw [Bx,if_pos (by simp; omega)]
   unfold Bk
   dsimp only
   have g:Ag (((A.length + (R ++ [z]).length:Nat):Int) - 1) = ((A.length + R.length:Nat):Int):=by
    rw [A6 (by simp; omega) (by simp; omega)]; simp; omega
   have v:A ++ (R ++ [z]) ++ y :: B = (A ++ R) ++ z :: (y :: B):=by simp
   have e3:(A ++ R) ++ z :: (y :: B) = (A ++ R ++ [z]) ++ y :: B:=by simp
   have f:(A ++ R ++ [z]) ++ z :: B = (A ++ R) ++ z :: (z :: B):=by simp
   rw [g,v,Jq (by simp),Aa,e3,Jq (by simp <;> omega),Aa,Aa,MU (by simp <;> omega),f,Jq (by simp),Aa,MU (by simp)]
   have h:=ih m R (z :: B) l (by omega) (by omega)
   rw [h]
   simp
theorem Acc {l:List BP} (h:FZ l) {i j:Nat} (g:i ≤ j) (f:j < l.length):Kj (l[i]'(by omega)) l[j]:=by
 by_cases e:i = j
 ·subst e; exact ZY _
 ·exact (List.pairwise_iff_getElem.1 h) i j (by omega) f (by omega)
theorem Adp {A Y B:List BP} {k:Nat} (h1:A.length ≤ k) (e:k < A.length + Y.length):AL (A ++ Y ++ B) (k:Int) = some (Y[k - A.length]'(by omega)):=by
 rw [AY,List.append_assoc,List.getElem?_append_right h1,List.getElem?_append_left (by omega),Cp]
def CL (Y:List BP) (k:Nat):BP:=(Y[k]?).getD (0,0,0,0)
theorem FSx {Y:List BP} {k:Nat} (h:k < Y.length):CL Y k = Y[k]:=by unfold CL; rw [Cp h]; rfl
theorem Tj {A Y B:List BP} {k:Nat} (h1:A.length ≤ k) (e:k < A.length + Y.length):AL (A ++ Y ++ B) (k:Int) = some (CL Y (k - A.length)):=by rw [Adp h1 e,FSx]
theorem Jb {Y:List BP} {k:Nat} (h:k < Y.length):CL Y k ∈ Y:=by rw [FSx h]; exact List.getElem_mem h
theorem Mj {Y:List BP} (f:FZ Y) {i j:Nat} (g:i ≤ j) (e:j < Y.length):Kj (CL Y i) (CL Y j):=by rw [FSx (by omega),FSx e]; exact Acc f g e
theorem Md {Y:List BP} {y:BP} (h:y ∈ Y):∃ k,k < Y.length ∧ y = CL Y k:=by
 obtain ⟨k,e,rfl⟩:=List.getElem_of_mem h
 exact ⟨k,e,(FSx e).symm⟩
theorem PZ {P R:List BP} {k:Nat} (h:k < P.length):CL (P ++ R) k = CL P k:=by unfold CL; rw [List.getElem?_append_left h]
theorem OE {P R:List BP} {k:Nat}:CL (P ++ R) (P.length + k) = CL R k:=by unfold CL; rw [List.getElem?_append_right (by omega)]; congr 2; omega
theorem TW {S:List BP} {x:BP} (h:∀ s ∈ S,Kj s x):S = [] ∨ ∃ R y,S = R ++ [y] ∧ Kj y x:=by
 by_cases e:S = []
 ·exact .inl e
 ·exact .inr ⟨S.dropLast,S.getLast e,(List.dropLast_concat_getLast e).symm,h _ (List.getLast_mem e)⟩
theorem Abb {A Y B:List BP} {x:BP} (v:A.length + Y.length < 40000) (hx:Ly x) (ho:∀ y ∈ Y,Ly y) (g:FZ Y) :
  ∃ Z,Z.Perm (x :: Y) ∧ FZ Z ∧ AJ (A ++ x :: Y ++ B) (A.length:Int) FU ((A.length + 1:Nat):Int) ((A.length + 1 + Y.length:Nat):Int) = some (A ++ Z ++ B):=by
 obtain ⟨s,h1,f,h3,h4,h5⟩:=Ut (AJ (A ++ x :: Y ++ B) (A.length:Int)) (fun h=>decide (FR (CL Y (h - (A.length + 1))) x)) (fun i=>AJ (A ++ x :: Y ++ B) (A.length:Int) 1 (i:Int) (i:Int)) (A.length + 1) (A.length + 1 + Y.length)
  (fun m i j aw hj hi=>by
   have hh:(i + j) / 2 < A.length + 1 + Y.length:=by omega
   have ax:A.length + 1 ≤ (i + j) / 2:=by omega
   have hm:=Jb (Y:=Y) (k:=(i + j) / 2 - (A.length + 1)) (by omega)
   obtain ⟨u,hu,ai,_⟩:=QY (ho _ hm) hx
   have eg:AL (A ++ x :: Y ++ B) (((i + j) / 2:Nat):Int) = some (CL Y ((i + j) / 2 - (A.length + 1))):=by
    have:=Tj (A:=A ++ [x]) (Y:=Y) (B:=B) (k:=(i + j) / 2) (by simp; omega) (by simp; omega)
    simpa using this
   have ex:AL (A ++ x :: Y ++ B) (A.length:Int) = some x:=by
    have:=Jq (A:=A) (B:=Y ++ B) (x:=x) (k:=A.length) rfl
    simpa using this
   rw [AJ,if_pos (by simp; omega),R2 (by omega),eg,Aa,ex,Aa,hu,Aa,ai,AD (by omega)])
  (fun m i=>by
   rw [AJ,if_neg (by simp),AJ,if_neg (by simp)])
  (fun c c' hc av aq hq=>by
   have:=Mj g (i:=c - (A.length + 1)) (j:=c' - (A.length + 1)) (by omega) (by omega)
   simp only [C9] at hq ⊢
   unfold Kj FR at *
   omega) Y.length FU (A.length + 1) (A.length + 1 + Y.length) (by omega) (D4 (by omega)) (by omega) (by omega) (by omega) (fun c h1 f=>by omega) (fun c h1 f=>by omega)
 obtain ⟨P,R,rfl,hP⟩:=MC (l:=Y) (k:=s - (A.length + 1)) (by omega)
 have ag:∀ y ∈ P,FR y x:=fun y e=>by
  obtain ⟨k,hk,rfl⟩:=Md e
  have:=h3 (A.length + 1 + k) (by omega) (by omega)
  simp only [C9,show A.length + 1 + k - (A.length + 1) = k by omega,PZ hk] at this
  exact this
 have al:∀ y ∈ R,Kj x y:=fun y e=>by
  obtain ⟨k,hk,rfl⟩:=Md e
  have:=h4 (A.length + 1 + (P.length + k)) (by omega) (by simp; omega)
  simp only [decide_eq_false_iff_not,show A.length + 1 + (P.length + k) - (A.length + 1) = P.length + k by omega,OE] at this
  exact this
 refine ⟨P ++ x :: R,List.perm_middle,Pm g al (TW fun y e=>LS (ag y e)),?_⟩
 rw [h5,AJ,if_neg (by simp)]
 have:=YI x (R ++ B) s (by simp at f v; omega) P A FU (D4 (by simp at v; omega)) (by omega)
 rw [show A ++ x :: (P ++ R) ++ B = A ++ x :: P ++ (R ++ B) by simp,this]
 simp
theorem ZD {A X B:List BP} {y:BP} (f:A.length + X.length < 40000) (hy:Ly y) (ho:∀ x ∈ X,Ly x) (v:FZ X) :
  ∃ Z,Z.Perm (X ++ [y]) ∧ FZ Z ∧ AH (A ++ X ++ y :: B) ((A.length + X.length:Nat):Int) FU (A.length:Int) ((A.length + X.length:Nat):Int) = some (A ++ Z ++ B):=by
 obtain ⟨s,h1,g,h3,h4,h5⟩:=Ut (AH (A ++ X ++ y :: B) ((A.length + X.length:Nat):Int)) (fun h=>!decide (FR y (CL X (h - A.length)))) (fun i=>AH (A ++ X ++ y :: B) ((A.length + X.length:Nat):Int) 1 (i:Int) (i:Int)) A.length (A.length + X.length)
  (fun m i j av hj hi=>by
   have hm:=Jb (Y:=X) (k:=(i + j) / 2 - A.length) (by omega)
   obtain ⟨u,hu,aj,_⟩:=QY hy (ho _ hm)
   have eg:=Tj (A:=A) (Y:=X) (B:=y :: B) (k:=(i + j) / 2) (by omega) (by omega)
   have ey:=Jq (A:=A ++ X) (B:=B) (x:=y) (k:=A.length + X.length) (by simp)
   rw [AH,if_pos (by simp; omega),R2 (by omega),ey,Aa,eg,Aa,hu,Aa,aj,AD (by omega)])
  (fun m i=>by
   rw [AH,if_neg (by simp),AH,if_neg (by simp)])
  (fun c c' hc au aq hq=>by
   have:=Mj v (i:=c - A.length) (j:=c' - A.length) (by omega) (by omega)
   simp only [Bool.not_eq_true',decide_eq_false_iff_not] at hq ⊢
   unfold Kj FR at *
   omega) X.length FU A.length (A.length + X.length) (by omega) (D4 (by omega)) (by omega) (by omega) (by omega) (fun c h1 g=>by omega) (fun c h1 g=>by omega)
 obtain ⟨P,R,rfl,hP⟩:=MC (l:=X) (k:=s - A.length) (by omega)
 have ad:∀ x ∈ P,Kj x y:=fun x e=>by
  obtain ⟨k,hk,rfl⟩:=Md e
  have:=h3 (A.length + k) (by omega) (by omega)
  simp only [Bool.not_eq_true',decide_eq_false_iff_not,show A.length + k - A.length = k by omega,PZ hk] at this
  exact this
 have am:∀ x ∈ R,FR y x:=fun x e=>by
  obtain ⟨k,hk,rfl⟩:=Md e
  have:=h4 (A.length + (P.length + k)) (by omega) (by simp; omega)
  simp only [Bool.not_eq_false',C9,show A.length + (P.length + k) - A.length = P.length + k by omega,OE] at this
  exact this
 refine ⟨P ++ y :: R,?_,Pm v (fun x e=>LS (am x e)) (TW ad),?_⟩
 ·have:(y :: R).Perm (R ++ [y]):=(List.perm_append_singleton y R).symm
  have:=this.append_left P
  simpa using this
 ·rw [h5,AH,if_neg (by simp)]
  have:=Acd y B s (by simp at g f; omega) (A ++ P) (by simp; omega) R.length FU R B rfl (D4 (by simp at f; omega)) (by simp at f; omega)
  simp only [CM] at this ⊢
  rw [show A ++ (P ++ R) ++ y :: B = A ++ P ++ R ++ y :: B by simp,show A.length + (P.length + R.length) = A.length + P.length + R.length by omega,this]
  simp
theorem Abe {L R:List BP} (e:FZ L) (f:FZ R) (h:∀ x ∈ L,∀ y ∈ R,Kj x y):FZ (L ++ R):=List.pairwise_append.2 ⟨e,f,h⟩
theorem M4 {L R:List BP} (h:FZ (L ++ R)):FZ L:=(List.pairwise_append.1 h).1
theorem LL {L R:List BP} (h:FZ (L ++ R)):FZ R:=(List.pairwise_append.1 h).2.1
theorem UO {L R:List BP} (h:FZ (L ++ R)):∀ x ∈ L,∀ y ∈ R,Kj x y:=(List.pairwise_append.1 h).2.2
theorem Ab6 {R:Type} {p q:Bool} {a b:Ae R}:(if p = true then (if q = true then a else b) else (if false = true then a else b)) = if (p && q) = true then a else b:=by cases p <;> cases q <;> rfl
theorem ZC:∀ (d m:Nat) (A X Y B:List BP),X.length + Y.length ≤ d → d < m → X ≠ [] → Y ≠ [] → FZ X → FZ Y → (∀ x ∈ X ++ Y,Ly x) → A.length + X.length + Y.length < 10000 →
  ∃ Z,Z.Perm (X ++ Y) ∧ FZ Z ∧ AO m (A ++ X ++ Y ++ B) (A.length:Int) ((A.length + X.length:Nat):Int) ((A.length + X.length + Y.length:Nat):Int) = some (A ++ Z ++ B):=by
 intro d
 induction d with
 | zero =>
  intro m A X Y B hd hm hX hY _ _ _ _
  exact absurd (List.length_eq_zero_iff.1 (by omega)) hX
 | succ d ih =>
  intro m A X Y B hd hm hX hY sX sY ho hl
  have b7:=List.length_pos_iff.2 hX
  have b1:=List.length_pos_iff.2 hY
  cases m with
  | zero=>omega
  | succ m =>
   show ∃ Z,Z.Perm (X ++ Y) ∧ FZ Z ∧ BW (AO m) (A ++ X ++ Y ++ B) (A.length:Int) ((A.length + X.length:Nat):Int) ((A.length + X.length + Y.length:Nat):Int) = some (A ++ Z ++ B)
   unfold BW
   rw [A6 (x:=((A.length + X.length:Nat):Int) - _) (by omega) (by omega),A6 (x:=((A.length + X.length + Y.length:Nat):Int) - _) (by omega) (by omega)]
   by_cases e1:X.length = 1
   ·obtain ⟨x,rfl⟩:=List.length_eq_one_iff.1 e1
    obtain ⟨Z,z1,z2,z3⟩:=Abb (A:=A) (Y:=Y) (B:=B) (x:=x) (by omega) (ho x (by simp)) (fun y g=>ho y (by simp [g])) sY
    rw [if_pos (by simp; omega)]
    refine ⟨Z,by simpa using z1,z2,?_⟩
    rw [← z3]
    simp
   ·rw [if_neg (by simp; omega)]
    by_cases e2:Y.length = 1
    ·obtain ⟨y,rfl⟩:=List.length_eq_one_iff.1 e2
     obtain ⟨Z,z1,z2,z3⟩:=ZD (A:=A) (X:=X) (B:=B) (y:=y) (by omega) (ho y (by simp)) (fun x f=>ho x (by simp [f])) sX
     rw [if_pos (by simp; omega)]
     refine ⟨Z,z1,z2,?_⟩
     rw [← z3]
     simp
    ·rw [if_neg (by simp; omega)]
     obtain ⟨e,a8⟩:∃ e,e = (A.length + (A.length + X.length + Y.length)) / 2:=⟨_,rfl⟩
     have hh:Ag (Br .u64 (Bh (Ag ((A.length:Int) + ((A.length + X.length + Y.length:Nat):Int)))) 1) = (e:Int):=by rw [a8]; exact R2 (by omega)
     unfold Gn
     dsimp only
     rw [hh,A6 (x:=(e:Int) + _) (by omega) (by omega),A6 (x:=(e:Int) + _ - _) (by omega) (by omega)]
     -- where the search starts
     have a0:∀ lo v:Nat,A.length ≤ lo → lo ≤ v → v ≤ A.length + X.length → A.length + X.length ≤ e + (A.length + X.length) - v → e + (A.length + X.length) - lo ≤ A.length + X.length + Y.length →
       (lo = A.length ∨ e + (A.length + X.length) - lo = A.length + X.length + Y.length) → (v = A.length + X.length ∨ e + (A.length + X.length) - v = A.length + X.length) →
       ∃ Z,Z.Perm (X ++ Y) ∧ FZ Z ∧ AG (A ++ X ++ Y ++ B) (A.length:Int) ((A.length + X.length + Y.length:Nat):Int) ((A.length + X.length:Nat):Int) (AO m) FU (lo:Int) (v:Int) = some (A ++ Z ++ B):=by
      intro lo v b3 bn bw ce cf bl bd
      obtain ⟨s,h1,h2,h3,h4,h5⟩:=Ut (AG (A ++ X ++ Y ++ B) (A.length:Int) ((A.length + X.length + Y.length:Nat):Int) ((A.length + X.length:Nat):Int) (AO m))
       (fun c=>!decide (FR (CL Y (e - 1 - c)) (CL X (c - A.length)))) (fun i=>AG (A ++ X ++ Y ++ B) (A.length:Int) ((A.length + X.length + Y.length:Nat):Int) ((A.length + X.length:Nat):Int) (AO m) 1 (i:Int) (i:Int)) lo v
       (fun m' i j b6 hj cb=>by
        have bx:A.length ≤ (i + j) / 2:=by omega
        have bz:(i + j) / 2 < v:=by omega
        have bq:=Jb (Y:=X) (k:=(i + j) / 2 - A.length) (by omega)
        have bh:=Jb (Y:=Y) (k:=e - 1 - (i + j) / 2) (by omega)
        obtain ⟨u,hu,bi,_⟩:=QY (ho _ (Bi _ bh)) (ho _ (At _ bq))
        have eX:=Tj (A:=A) (Y:=X) (B:=Y ++ B) (k:=(i + j) / 2) (by omega) (by omega)
        have eY:=Tj (A:=A ++ X) (Y:=Y) (B:=B) (k:=e + (A.length + X.length) - 1 - (i + j) / 2) (by simp; omega) (by simp; omega)
        rw [CM,show e + (A.length + X.length) - 1 - (i + j) / 2 - (A.length + X.length) = e - 1 - (i + j) / 2 by omega] at eY
        rw [show A ++ X ++ (Y ++ B) = A ++ X ++ Y ++ B by simp] at eX
        rw [AG,if_pos (by simp; omega),hh,R2 (by omega),A6 (x:=(e:Int) + _) (by omega) (by omega),A6 (x:=(e:Int) + _ - 1) (by omega) (by omega),A6 (x:=(e:Int) + _ - 1 - _) (by omega) (by omega),
         show (e:Int) + ((A.length + X.length:Nat):Int) - 1 - (((i + j) / 2:Nat):Int) = ((e + (A.length + X.length) - 1 - (i + j) / 2:Nat):Int) by omega,eY,Aa,eX,Aa,hu,Aa,bi,AD (by omega)])
       (fun m' i=>by
        rw [AG,if_neg (by simp),AG,if_neg (by simp)])
       (fun c c' hc b5 b9 hq=>by
        have ao:=Mj sX (i:=c - A.length) (j:=c' - A.length) (by omega) (by omega)
        have an:=Mj sY (i:=e - 1 - c') (j:=e - 1 - c) (by omega) (by omega)
        simp only [Bool.not_eq_true',decide_eq_false_iff_not] at hq ⊢
        unfold Kj FR at *
        omega) X.length FU lo v (by omega) (D4 (by omega)) (by omega) bn (by omega) (fun c h1 h2=>by omega) (fun c h1 h2=>by omega)
      rw [h5]
      obtain ⟨X1,U,rfl,bv⟩:=MC (l:=X) (k:=s - A.length) (by omega)
      obtain ⟨V,Y2,rfl,hV⟩:=MC (l:=Y) (k:=e - s) (by omega)
      simp only [CM] at *
      -- what stands left goes ahead of what stands right
      have c1:∀ x ∈ X1,∀ y ∈ Y2,Kj x y:=fun x f y g=>by
       obtain ⟨i,bs,rfl⟩:=Md f
       obtain ⟨j,bp,rfl⟩:=Md g
       have a6:lo < s:=by
        rcases bl with h | h
        ·omega
        ·rcases Nat.lt_or_ge lo s with h' | h'
         ·exact h'
         ·exfalso
          have:s = lo:=by omega
          omega
       have hq:=h3 (s - 1) (by omega) (by omega)
       simp only [Bool.not_eq_true',decide_eq_false_iff_not] at hq
       rw [show e - 1 - (s - 1) = V.length + 0 by omega,OE,PZ (by omega)] at hq
       have ao:=Mj (M4 sX) (i:=i) (j:=s - 1 - A.length) (by omega) (by omega)
       have an:=Mj (LL sY) (i:=0) (j:=j) (by omega) (by omega)
       exact LR ao (LR hq an)
      have c2:∀ x ∈ V,∀ y ∈ U,Kj x y:=fun x f y g=>by
       obtain ⟨i,bs,rfl⟩:=Md f
       obtain ⟨j,bp,rfl⟩:=Md g
       have a6:s < v:=by
        rcases bd with h | h
        ·omega
        ·rcases Nat.lt_or_ge s v with h' | h'
         ·exact h'
         ·exfalso
          have:s = v:=by omega
          omega
       have hq:=h4 s (by omega) (by omega)
       simp only [Bool.not_eq_false',C9] at hq
       rw [PZ (by omega),show s - A.length = X1.length + 0 by omega,OE] at hq
       have ao:=Mj (LL sX) (i:=0) (j:=j) (by omega) (by omega)
       have an:=Mj (M4 sY) (i:=i) (j:=e - 1 - s) (by omega) (by omega)
       exact LR an (LR (LS hq) ao)
      have a5:∀ x ∈ X1 ++ V,∀ y ∈ U ++ Y2,Kj x y:=fun x f y g=>by
       rcases AX.1 f with f | f <;> rcases AX.1 g with g | g
       ·exact UO sX x f y g
       ·exact c1 x f y g
       ·exact c2 x f y g
       ·exact UO sY x f y g
      rw [AG,if_neg (by simp)]
      unfold Bk
      dsimp only
      rw [hh,A6 (x:=(e:Int) + _) (by omega) (by omega),A6 (x:=(e:Int) + _ - _) (by omega) (by omega),show (e:Int) + ((A.length + (X1.length + U.length):Nat):Int) - (s:Int) = ((A.length + X1.length + V.length + U.length:Nat):Int) by omega]
      simp only [Ab6]
      have b0:e = A.length + X1.length + V.length:=by omega
      have bg:∀ (K:List BP → Ae (List BP)),(if (decide ((s:Int) < ((A.length + (X1.length + U.length):Nat):Int)) && decide (((A.length + (X1.length + U.length):Nat):Int) < ((A.length + X1.length + V.length + U.length:Nat):Int))) = true then
        Option.bind (BK (A ++ (X1 ++ U) ++ (V ++ Y2) ++ B) (s:Int) ((A.length + (X1.length + U.length):Nat):Int) ((A.length + X1.length + V.length + U.length:Nat):Int)) K else K (A ++ (X1 ++ U) ++ (V ++ Y2) ++ B)) = K (A ++ (X1 ++ V) ++ (U ++ Y2) ++ B):=by
       intro K
       by_cases hU:U = []
       ·subst hU
        rw [if_neg (by simp; omega)]
        simp
       ·by_cases ak:V = []
        ·subst ak
         rw [if_neg (by simp; omega)]
         simp
        ·have u0:=List.length_pos_iff.2 hU
         have v0:=List.length_pos_iff.2 ak
         have:=YO (A:=A ++ X1) (U:=U) (V:=V) (B:=Y2 ++ B) (x1:=s) (x2:=A.length + (X1.length + U.length)) (x3:=A.length + X1.length + V.length + U.length) hU ak (by simp; omega) (by simp; omega) (by simp; omega) (by omega)
         rw [if_pos (by simp; omega),show A ++ (X1 ++ U) ++ (V ++ Y2) ++ B = A ++ X1 ++ U ++ V ++ (Y2 ++ B) by simp,this,Aa]
         simp
      have bt:∃ Z1:List BP,Z1.Perm (X1 ++ V) ∧ FZ Z1 ∧ ∀ (K:List BP → Ae (List BP)),(if (decide ((A.length:Int) < (s:Int)) && decide ((s:Int) < (e:Int))) = true then
        Option.bind (AO m (A ++ (X1 ++ V) ++ (U ++ Y2) ++ B) (A.length:Int) (s:Int) (e:Int)) K else K (A ++ (X1 ++ V) ++ (U ++ Y2) ++ B)) = K (A ++ Z1 ++ (U ++ Y2) ++ B):=by
       by_cases ar:X1 = []
       ·subst ar
        exact ⟨[] ++ V,List.Perm.refl _,M4 sY,fun K=>by rw [if_neg (by simp at bv ⊢; omega)]⟩
       ·by_cases ak:V = []
        ·subst ak
         exact ⟨X1 ++ [],List.Perm.refl _,by simpa using M4 sX,fun K=>by rw [if_neg (by simp at hV ⊢; omega)]⟩
        ·have x0:=List.length_pos_iff.2 ar
         have v0:=List.length_pos_iff.2 ak
         obtain ⟨Z1,z1,z2,z3⟩:=ih m A X1 V (U ++ Y2 ++ B) (by omega) (by omega) ar ak (M4 sX) (M4 sY) (fun x f=>ho x (by
          rcases AX.1 f with h | h
          ·simp [h]
          ·simp [h])) (by omega)
         refine ⟨Z1,z1,z2,fun K=>?_⟩
         rw [show A.length + X1.length = s by omega,show s + V.length = e by omega] at z3
         rw [if_pos (by simp; omega),show A ++ (X1 ++ V) ++ (U ++ Y2) ++ B = A ++ X1 ++ V ++ (U ++ Y2 ++ B) by simp,z3,Aa]
         simp
      obtain ⟨Z1,z1,z2,z3⟩:=bt
      have zl:Z1.length = X1.length + V.length:=by have:=z1.length_eq; simpa using this
      have bf:∃ Z2:List BP,Z2.Perm (U ++ Y2) ∧ FZ Z2 ∧ (if (decide ((e:Int) < ((A.length + X1.length + V.length + U.length:Nat):Int)) && decide (((A.length + X1.length + V.length + U.length:Nat):Int) < ((A.length + (X1.length + U.length) + (V.length + Y2.length):Nat):Int))) = true then
        Option.bind (AO m (A ++ Z1 ++ (U ++ Y2) ++ B) (e:Int) ((A.length + X1.length + V.length + U.length:Nat):Int) ((A.length + (X1.length + U.length) + (V.length + Y2.length):Nat):Int)) (fun u=>some u) else some (A ++ Z1 ++ (U ++ Y2) ++ B)) = some (A ++ Z1 ++ Z2 ++ B):=by
       by_cases hU:U = []
       ·subst hU
        exact ⟨[] ++ Y2,List.Perm.refl _,LL sY,by rw [if_neg (by simp; omega)]⟩
       ·by_cases au:Y2 = []
        ·subst au
         exact ⟨U ++ [],List.Perm.refl _,by simpa using LL sX,by rw [if_neg (by simp; omega)]⟩
        ·have u0:=List.length_pos_iff.2 hU
         have y0:=List.length_pos_iff.2 au
         obtain ⟨Z2,w1,w2,w3⟩:=ih m (A ++ Z1) U Y2 B (by omega) (by omega) hU au (LL sX) (LL sY) (fun x f=>ho x (by
          rcases AX.1 f with h | h
          ·simp [h]
          ·simp [h])) (by simp; omega)
         refine ⟨Z2,w1,w2,?_⟩
         simp only [CM] at w3
         rw [show A.length + Z1.length = e by omega,show e + U.length = A.length + X1.length + V.length + U.length by omega,show A.length + X1.length + V.length + U.length + Y2.length = A.length + (X1.length + U.length) + (V.length + Y2.length) by omega] at w3
         rw [if_pos (by simp; omega),show A ++ Z1 ++ (U ++ Y2) ++ B = A ++ Z1 ++ U ++ Y2 ++ B by simp,w3,Aa]
      obtain ⟨Z2,w1,w2,w3⟩:=bf
      refine ⟨Z1 ++ Z2,?_,Abe z2 w2 (fun x f y g=>a5 x (z1.mem_iff.1 f) y (w1.mem_iff.1 g)),?_⟩
      ·have h1:=z1.append w1
       have h2:(X1 ++ V ++ (U ++ Y2)).Perm (X1 ++ U ++ (V ++ Y2)):=by
        have h3:=((List.perm_append_comm (l₁:=V) (l₂:=U)).append_left X1).append_right Y2
        simpa using h3
       exact h1.trans h2
      ·rw [bg,z3,w3]
       simp
     by_cases ca:e < A.length + X.length
     ·rw [if_pos (by simp; omega),show (e:Int) + ((A.length + X.length:Nat):Int) - ((A.length + X.length + Y.length:Nat):Int) = ((e + (A.length + X.length) - (A.length + X.length + Y.length):Nat):Int) by omega]
      exact a0 _ _ (by omega) (by omega) (by omega) (by omega) (by omega) (by omega) (by omega)
     ·rw [if_neg (by simp; omega)]
      exact a0 _ _ (by omega) (by omega) (by omega) (by omega) (by omega) (by omega) (by omega)
theorem Xd {X Y:List BP} (h:X ≠ []) (s:Y ≠ []) (l:FZ X) (f:FZ Y) (u:∀ x ∈ X ++ Y,Ly x) (m:X.length + Y.length < 10000) :
  ∃ Z,Z.Perm (X ++ Y) ∧ FZ Z ∧ Cb (X ++ Y) 0 (X.length:Int) ((X.length + Y.length:Nat):Int) = some Z:=by
 obtain ⟨Z,g,v,e⟩:=ZC (X.length + Y.length) FU [] X Y [] (Nat.le_refl _) (D4 (by omega)) h s l f u (by simpa using m)
 exact ⟨Z,g,v,by simpa [Cb] using e⟩
theorem Y9 {l:List BP} (hl:l.length ≤ 40) (v:∀ x ∈ l,Ly x):∃ Z,Z.Perm l ∧ FZ Z ∧ B7 l = some Z:=by
 have f1 (g:Nat):g + 1 = g.succ:=rfl
 unfold B7 C6
 by_cases a3:l.length < 20
 ·obtain ⟨Z,z1,z2,u⟩:=Mf (A:=[]) (X:=l) (B:=[]) (a:=0) (b:=l.length) rfl (by simp) (by omega) v
  simp only [List.nil_append,List.append_nil] at u
  refine ⟨Z,z1,z2,?_⟩
  have e2:AE (l.length:Int) FU Z 20 = some Z:=by
   have:∀ g,AE (l.length:Int) (g + 1) Z 20 = some Z:=fun g=>by
    rw [AE,if_neg (by simp; omega)]
   exact this (FU - 1)
  have e1:AM (l.length:Int) FU l 0 20 = some Z:=by
   have:∀ g,AM (l.length:Int) (g + 1) l 0 20 = some Z:=fun g=>by
    rw [AM,if_neg (by simp; omega),show (0:Int) = ((0:Nat):Int) from rfl,u,Aa,e2]
   exact this (FU - 1)
  rw [e1,Aa]
 ·obtain ⟨X,Y,rfl,hX⟩:=MC (l:=l) (k:=20) (by omega)
  simp only [CM] at hl a3
  obtain ⟨Z1,z1,z2,u⟩:=Mf (A:=[]) (X:=X) (B:=Y) (a:=0) (b:=20) rfl (by simp [hX]) (by omega) (fun s h=>v s (by simp [h]))
  have zl:Z1.length = 20:=by rw [z1.length_eq,hX]
  obtain ⟨Z2,w1,w2,w3⟩:=Mf (A:=Z1) (X:=Y) (B:=[]) (a:=20) (b:=20 + Y.length) (by omega) (by omega) (by omega) (fun s h=>v s (by simp [h]))
  have wl:Z2.length = Y.length:=w1.length_eq
  simp only [List.nil_append,List.append_nil] at u w3
  have ak:(Z1 ++ Z2).Perm (X ++ Y):=z1.append w1
  have ax:∀ x ∈ Z1 ++ Z2,Ly x:=fun x hx=>v x (ak.mem_iff.1 hx)
  have hn:(((X ++ Y).length:Nat):Int) = ((20 + Y.length:Nat):Int):=by simp [hX]
  have ap:Ag ((0:Int) + 20) = ((20:Nat):Int):=by decide
  have ar:Ag (2 * 20) = ((40:Nat):Int):=by decide
  have an:Ag ((20:Int) * 2) = ((40:Nat):Int):=by decide
  -- the merge
  have a4:∃ Z,Z.Perm (X ++ Y) ∧ FZ Z ∧ AE ((20 + Y.length:Nat):Int) FU (Z1 ++ Z2) 20 = some Z:=by
   by_cases hY:Y = []
   ·subst hY
    have:Z2 = []:=List.Perm.eq_nil w1
    subst this
    refine ⟨Z1 ++ [],ak,by simpa using z2,?_⟩
    have:∀ g,AE ((20 + 0:Nat):Int) (g + 1) (Z1 ++ []) 20 = some (Z1 ++ []):=fun g=>by
     rw [AE,if_neg (by simp)]
    exact this (FU - 1)
   ·have y0:=List.length_pos_iff.2 hY
    obtain ⟨Z,v1,v2,f⟩:=Xd (X:=Z1) (Y:=Z2) (fun h=>by subst h; simp at zl) (fun h=>by subst h; simp at wl; exact hY (List.length_eq_zero_iff.1 wl.symm)) z2 w2 ax (by omega)
    rw [zl,wl] at f
    refine ⟨Z,v1.trans ak,v2,?_⟩
    have l3:∀ (m:List BP → Int → Ae (List BP)),Bo ((20 + Y.length:Nat):Int) 20 m FU (Z1 ++ Z2) 0 ((40:Nat):Int) = m Z ((40:Nat):Int):=by
     intro m
     have:∀ g,Bo ((20 + Y.length:Nat):Int) 20 m (g + 2) (Z1 ++ Z2) 0 ((40:Nat):Int) = m Z ((40:Nat):Int):=fun g=>by
      rw [Bo]
      unfold Bk
      dsimp only
      by_cases aq:Y.length = 20
      ·have e:((40:Nat):Int) = ((20 + Y.length:Nat):Int):=by omega
       have a9:Ag (((20 + Y.length:Nat):Int) + 20) = ((60:Nat):Int):=by rw [aq]; decide
       rw [if_pos (by simp; omega),ap,e,f,Aa,Bo]
       unfold Bk
       dsimp only
       rw [ar,if_neg (by rw [A6 (by omega) (by omega)]; simp; omega),a9,if_neg (by simp; omega),an,e]
      ·rw [if_neg (by simp; omega),ap,if_pos (by simp; omega),f,Aa,an]
     exact this (FU - 2)
    have:∀ g,AE ((20 + Y.length:Nat):Int) (g + 2) (Z1 ++ Z2) 20 = some Z:=fun g=>by
     rw [AE,if_pos (by simp; omega),ar,l3,AE,if_neg (by simp; omega)]
    exact this (FU - 2)
  obtain ⟨Z,v1,v2,f⟩:=a4
  refine ⟨Z,v1,v2,?_⟩
  have l1:AM ((20 + Y.length:Nat):Int) FU (X ++ Y) 0 20 = some Z:=by
   have:∀ g,AM ((20 + Y.length:Nat):Int) (g + 3) (X ++ Y) 0 20 = some Z:=fun g=>by
    have a1:Ag ((20:Int) + 20) = ((40:Nat):Int):=by decide
    have a2:Ag (((40:Nat):Int) + 20) = ((60:Nat):Int):=by decide
    have az:Bj (X ++ Y) 0 20 = some (Z1 ++ Y):=u
    rw [AM,if_pos (by simp; omega),az,Aa,a1,AM]
    by_cases aq:Y.length = 20
    ·have e:((40:Nat):Int) = ((20 + Y.length:Nat):Int):=by omega
     have ah:Bj (Z1 ++ Y) 20 ((40:Nat):Int) = some (Z1 ++ Z2):=by rw [e]; exact w3
     obtain ⟨Z3,y1,_,y3⟩:=Mf (A:=Z1 ++ Z2) (X:=[]) (B:=[]) (a:=40) (b:=20 + Y.length) (by simp; omega) (by simp; omega) (by omega) (fun s h=>by cases h)
     have:Z3 = []:=List.Perm.eq_nil y1
     subst this
     simp only [List.append_nil] at y3
     rw [if_pos (by simp; omega),ah,Aa,a2,AM,if_neg (by simp; omega),y3,Aa,f]
    ·have ah:Bj (Z1 ++ Y) 20 ((20 + Y.length:Nat):Int) = some (Z1 ++ Z2):=w3
     rw [if_neg (by simp; omega),ah,Aa,f]
   exact this (FU - 3)
  rw [hn,l1,Aa]
def IP (x:BP):Bool:=BN x.1 1 12 && (BN x.2.1 1 9 && (BN x.2.2.1 0 999 && BN x.2.2.2 (x.2.2.1 + 1) 1000))
theorem MZ {x:BP}:IP x = true ↔ (1 ≤ x.1 ∧ x.1 ≤ 12) ∧ (1 ≤ x.2.1 ∧ x.2.1 ≤ 9) ∧ (0 ≤ x.2.2.1 ∧ x.2.2.1 ≤ 999) ∧ x.2.2.1 + 1 ≤ x.2.2.2 ∧ x.2.2.2 ≤ 1000:=by
 unfold IP
 simp only [Cf,DB]
theorem W2 (x:BP):JV x = some (IP x):=by
 unfold JV Bk
 dsimp only
 rw [CT,Aa,CT,Aa]
 cases h1:BN x.1 1 12 with
 | false=>simp [IP,h1]
 | true =>
  cases f:BN x.2.1 1 9 with
  | false=>simp [IP,h1,f]
  | true =>
   rw [if_pos rfl,if_pos rfl]
   have e:IP x = (decide (0 ≤ x.2.2.1) && (decide (x.2.2.1 < x.2.2.2) && decide (x.2.2.2 ≤ 1000))):=by
    unfold IP BN at *
    rw [h1,f,Bool.eq_iff_iff]
    simp
    omega
   rw [e]
   by_cases h:0 ≤ x.2.2.1 <;> by_cases g:x.2.2.1 < x.2.2.2 <;> simp [h,g]
theorem Sb (a b:BP):HV a b = some (decide (FR a b)):=by
 unfold HV Bk FR
 dsimp only
 by_cases h1:a.2.2.1 < b.2.2.1
 ·simp [h1]
 ·by_cases e:a.2.2.1 = b.2.2.1 <;> simp [h1,e]
def Oj (x y:BP):Bool:=!((decide (y.2.1 = x.2.1) || decide (y.1 = x.1)) && decide (x.2.2.1 < y.2.2.2))
def Kk (l:List BP) (k:Nat):Bool:=decide (k = 0) || decide (FR (CL l (k - 1)) (CL l k))
def WF (l:List BP) (k:Nat):Bool:=IP (CL l k) && (Kk l k && (l.take k).all (Oj (CL l k)))
def Fw (l:List BP):Bool:=(List.range l.length).all (WF l) && decide (l.length ≤ 40)
theorem RT {l:List BP} (hl:l.length < 4611686018427387904) (ho:∀ x ∈ l,Ly x):Jl l = some (Fw l):=by
 unfold Jl Fw
 rw [O7 (Du l) l.length (WF l) (some (decide (l.length ≤ 40))) (some false) hl (fun m k v=>?_) (fun m=>?_)]
 ·cases (List.range l.length).all (WF l) <;> simp
 ·have h:l[k]? = some (CL l k):=by rw [Cp v,FSx v]
  have ab:=ho _ (Jb v)
  rw [Du,if_pos (by simp; omega),AY,h,Aa]
  unfold Bk Jz Jk WF
  dsimp only
  rw [CU,Aa,Aa,CU,Aa,Aa,CU,Aa,A6 (x:=(CL l k).2.2.1 + 1) (by have:=ab.2; omega) (by have:=ab.2; omega),CU,Aa]
  by_cases s:IP (CL l k) = true
  ·have e:=s
   unfold IP at e
   simp only [Cf] at e
   rw [e.1,if_neg (by simp),e.2.1,if_neg (by simp),e.2.2.1,if_neg (by simp),e.2.2.2,if_neg (by simp),s,Bool.true_and]
   have al:(Option.bind (sl l 0 (k:Int)) fun ak=>EH ak (CL l k) (Du l m) (k:Int) FU 0) = if (l.take k).all (Oj (CL l k)) = true then Du l m ((k + 1:Nat):Int) else some false:=by
    rw [LN l (by omega),Aa]
    rw [N1 (EH (l.take k) (CL l k) (Du l m) (k:Int)) (l.take k) (Oj (CL l k)) (Du l m ((k + 1:Nat):Int)) (some false) (by simp; omega) (fun m' j x hj h=>?_) (fun m'=>?_)]
    ·rw [EH,if_pos (by simp at hj ⊢; omega),AY,h,Aa,AD (by simp at hj; omega)]
     unfold Bk Oj
     dsimp only
     by_cases f:x.2.1 = (CL l k).2.1
     ·rw [if_pos (by simpa using f)]
      by_cases u:(CL l k).2.2.1 < x.2.2.2 <;> simp [f,u]
     ·rw [if_neg (by simpa using f)]
      by_cases g:x.1 = (CL l k).1
      ·rw [if_pos (by simpa using g)]
       by_cases u:(CL l k).2.2.1 < x.2.2.2 <;> simp [f,g,u]
      ·rw [if_neg (by simpa using g)]
       simp [f,g]
    ·rw [EH,if_neg (by simp),AD (by omega)]
   rw [al]
   by_cases h0:k = 0
   ·subst h0
    rw [if_neg (by simp)]
    simp [Kk]
   ·have ae:l[k - 1]? = some (CL l (k - 1)):=by rw [Cp (by omega),FSx (by omega)]
    rw [if_pos (by simp; omega),A6 (by omega) (by omega),show (k:Int) - 1 = ((k - 1:Nat):Int) by omega,AY,ae,Aa,Sb,Aa]
    unfold Kk
    by_cases hb:FR (CL l (k - 1)) (CL l k)
    ·rw [decide_eq_true hb,Bool.or_true,Bool.true_and,if_neg (by simp)]
    ·rw [decide_eq_false hb,decide_eq_false h0]
     simp
  ·have e:IP (CL l k) = false:=by simpa using s
   rw [e,Bool.false_and,if_neg (c:=false = true) (by simp)]
   unfold IP at e
   cases b1:BN (CL l k).1 1 12 with
   | false=>simp
   | true =>
    cases b2:BN (CL l k).2.1 1 9 with
    | false=>simp
    | true =>
     cases b3:BN (CL l k).2.2.1 0 999 with
     | false=>simp
     | true =>
      rw [b1,b2,b3] at e
      simp only [Bool.true_and] at e
      rw [e]
      simp
 ·rw [Du,if_neg (by simp),show decide ((l.length:Int) ≤ 40) = decide (l.length ≤ 40) by rw [decide_eq_decide]; omega]
theorem Hm {l:List BP}:Fw l = true ↔ l.length ≤ 40 ∧ (∀ x ∈ l,IP x = true) ∧ l.Pairwise FR ∧ ∀ k,k < l.length → (l.take k).all (Oj (CL l k)) = true:=by
 unfold Fw WF
 simp only [Cf,List.all_eq_true,List.mem_range,C9]
 constructor
 ·rintro ⟨h1,h⟩
  refine ⟨h,fun x hx=>?_,?_,fun k e=>?_⟩
  ·obtain ⟨k,e,rfl⟩:=Md hx
   exact (h1 k e).1
  ·have m:∀ k,k + 1 < l.length → FR (CL l k) (CL l (k + 1)):=fun k e=>by
    have:=(h1 (k + 1) e).2.1
    unfold Kk at this
    simpa using this
   have ac:∀ d i,i + d + 1 < l.length → FR (CL l i) (CL l (i + d + 1)):=by
    intro d
    induction d with
    | zero=>intro i f; exact m i f
    | succ d ih =>
     intro i f
     have u:=ih i (by omega)
     have s:=m (i + d + 1) (by omega)
     rw [show i + (d + 1) + 1 = i + d + 1 + 1 by omega]
     unfold FR at *
     omega
   rw [List.pairwise_iff_getElem]
   intro i j f v ae
   have:=ac (j - i - 1) i (by omega)
   rw [show i + (j - i - 1) + 1 = j by omega,FSx f,FSx v] at this
   exact this
  ·exact fun y g=>(h1 k e).2.2 y g
 ·rintro ⟨h1,h,u,s⟩
  refine ⟨fun k e=>⟨h _ (Jb e),?_,fun y g=>s k e y g⟩,h1⟩
  unfold Kk
  by_cases h0:k = 0
  ·simp [h0]
  ·have:=(List.pairwise_iff_getElem.1 u) (k - 1) k (by omega) e (by omega)
   rw [← FSx (by omega:k - 1 < l.length),← FSx e] at this
   simp [this]
def Oi (x y:BP):Bool:=!((decide (x.2.1 = y.2.1) || decide (x.1 = y.1)) && decide (Fy x.2.2.1 y.2.2.1 < Fn x.2.2.2 y.2.2.2))
theorem T3 {x y:BP} (f:IP x = true) (g:IP y = true) (h:FR y x):Oi x y = Oj x y:=by
 have m:=MZ.1 f
 have l:=MZ.1 g
 have e:decide (Fy x.2.2.1 y.2.2.1 < Fn x.2.2.2 y.2.2.2) = decide (x.2.2.1 < y.2.2.2):=by
  rw [decide_eq_decide]
  unfold Fy Fn
  unfold FR at h
  split <;> split <;> omega
 unfold Oi Oj
 rw [e,show decide (x.2.1 = y.2.1) = decide (y.2.1 = x.2.1) by rw [decide_eq_decide]; exact eq_comm,show decide (x.1 = y.1) = decide (y.1 = x.1) by rw [decide_eq_decide]; exact eq_comm]
theorem Aat {l:List BP} (h:∀ k,k < l.length → Kk l k = true):l.Pairwise FR:=by
 have f:∀ k,k + 1 < l.length → FR (CL l k) (CL l (k + 1)):=fun k u=>by
  have:=h (k + 1) u
  unfold Kk at this
  simpa using this
 have m:∀ d i,i + d + 1 < l.length → FR (CL l i) (CL l (i + d + 1)):=by
  intro d
  induction d with
  | zero=>intro i e; exact f i e
  | succ d s =>
   intro i e
   have h3:=s i (by omega)
   have h4:=f (i + d + 1) (by omega)
   rw [show i + (d + 1) + 1 = i + d + 1 + 1 by omega]
   unfold FR at *
   omega
 rw [List.pairwise_iff_getElem]
 intro i j e g v
 have:=m (j - i - 1) i (by omega)
 rw [show i + (j - i - 1) + 1 = j by omega,FSx e,FSx g] at this
 exact this
theorem X7 {l:List BP} (h:l.Pairwise FR) {k:Nat} (e:k < l.length) {y:BP} (f:y ∈ l.take k):FR y (CL l k):=by
 obtain ⟨i,g,rfl⟩:=List.mem_take_iff_getElem.1 f
 rw [FSx e]
 exact (List.pairwise_iff_getElem.1 h) i k (by omega) e (by omega)
theorem O8 {l:List BP} (hl:l.length < 4611686018427387904) (ho:∀ x ∈ l,Ly x):FW l = some (Fw l):=by
 unfold FW
 by_cases aj:l.length ≤ 40
 ·rw [if_neg (by simp; omega)]
  rw [N1 (Ei l) l IP (CE l FU 0) (some false) hl (fun m k x hx e=>?_) (fun m=>?_)]
  ·cases ha:l.all IP with
   | false =>
    rw [if_neg (by simp)]
    have:Fw l = false:=by
     rw [← Bool.not_eq_true]
     intro h
     rw [List.all_eq_true.2 (Hm.1 h).2.1] at ha
     cases ha
    rw [this]
   | true =>
    have v:=List.all_eq_true.1 ha
    rw [if_pos rfl]
    rw [O7 (CE l) l.length (fun k=>Kk l k && (l.take k).all (Oi (CL l k))) (some true) (some false) hl (fun m k e=>?_) (fun m=>?_)]
    ·have:(List.range l.length).all (fun k=>Kk l k && (l.take k).all (Oi (CL l k))) = Fw l:=by
      rw [Bool.eq_iff_iff,Hm]
      simp only [List.all_eq_true,List.mem_range,Cf]
      constructor
      ·intro h
       have s:=Aat fun k e=>(h k e).1
       refine ⟨aj,v,s,fun k e y f=>?_⟩
       rw [← T3 (v _ (Jb e)) (v y (List.mem_of_mem_take f)) (X7 s e f)]
       exact (h k e).2 y f
      ·rintro ⟨_,_,s,h⟩ k e
       refine ⟨?_,fun y f=>?_⟩
       ·unfold Kk
        by_cases h0:k = 0
        ·simp [h0]
        ·have:=(List.pairwise_iff_getElem.1 s) (k - 1) k (by omega) e (by omega)
         rw [← FSx (by omega:k - 1 < l.length),← FSx e] at this
         simp [this]
       ·rw [T3 (v _ (Jb e)) (v y (List.mem_of_mem_take f)) (X7 s e f)]
        exact h k e y f
     rw [this]
     cases Fw l <;> rfl
    ·have hx:l[k]? = some (CL l k):=by rw [Cp e,FSx e]
     rw [CE,if_pos (by simp; omega),AY,hx,Aa]
     unfold Bk
     dsimp only
     have an:(Option.bind (sl l 0 (k:Int)) fun am=>D3 am (CL l k) (CE l m) (k:Int) FU 0) = if (l.take k).all (Oi (CL l k)) = true then CE l m ((k + 1:Nat):Int) else some false:=by
      rw [LN l (by omega),Aa]
      rw [N1 (D3 (l.take k) (CL l k) (CE l m) (k:Int)) (l.take k) (Oi (CL l k)) (CE l m ((k + 1:Nat):Int)) (some false) (by simp; omega) (fun m' j x hj hx=>?_) (fun m'=>?_)]
      ·rw [D3,if_pos (by simp at hj ⊢; omega),AY,hx,Aa,AD (by simp at hj; omega)]
       unfold Bk Oi
       dsimp only
       by_cases g:(CL l k).2.1 = x.2.1
       ·rw [if_pos (by simpa using g)]
        by_cases a3:Fy (CL l k).2.2.1 x.2.2.1 < Fn (CL l k).2.2.2 x.2.2.2 <;> simp [g,a3]
       ·rw [if_neg (by simpa using g)]
        by_cases a2:(CL l k).1 = x.1
        ·rw [if_pos (by simpa using a2)]
         by_cases a3:Fy (CL l k).2.2.1 x.2.2.1 < Fn (CL l k).2.2.2 x.2.2.2 <;> simp [g,a2,a3]
        ·rw [if_neg (by simpa using a2)]
         simp [g,a2]
      ·rw [D3,if_neg (by simp),AD (by omega)]
     rw [an]
     by_cases h0:k = 0
     ·subst h0
      rw [if_neg (by simp)]
      simp [Kk]
     ·have al:l[k - 1]? = some (CL l (k - 1)):=by rw [Cp (by omega),FSx (by omega)]
      obtain ⟨u,hu,_,aq⟩:=QY (ho _ (Jb (Y:=l) (k:=k - 1) (by omega))) (ho _ (Jb e))
      rw [if_pos (by simp; omega),A6 (by omega) (by omega),show (k:Int) - 1 = ((k - 1:Nat):Int) by omega,AY,al,Aa,hu,Aa,aq]
      unfold Kk
      by_cases hb:FR (CL l (k - 1)) (CL l k)
      ·rw [decide_eq_true hb,Bool.or_true,Bool.true_and,if_neg (by simp)]
      ·rw [decide_eq_false hb,decide_eq_false h0]
       simp
    ·rw [CE,if_neg (by simp)]
  ·rw [Ei,if_pos (by simp; have:=(List.getElem?_eq_some_iff.1 e).1; omega),AY,e,Aa,W2,Aa,AD (by have:=(List.getElem?_eq_some_iff.1 e).1; omega)]
   cases IP x <;> simp
  ·rw [Ei,if_neg (by simp)]
 ·rw [if_pos (by simp; omega)]
  have:Fw l = false:=by
   rw [← Bool.not_eq_true]
   intro h
   exact aj (Hm.1 h).1
  rw [this]
theorem Adu {l:List BP} {x:BP} {K:List BP → Ae (List BP × Bool)} (hl:l.length < 100000) (hs:FZ l):∀ (k m:Nat),k ≤ l.length → k < m → (∀ s ∈ l.drop k,FR x s) →
  ∃ Z,Z.Perm (x :: l) ∧ FZ Z ∧ FG l x K m (k:Int) = K Z:=by
 intro k
 have ac:∀ (k:Nat),k ≤ l.length → (∀ s ∈ l.drop k,FR x s) → (k = 0 ∨ ¬ FR x (CL l (k - 1))) → (Option.bind (sl l 0 (k:Int)) fun ak=>Option.bind (sl l (k:Int) (List.length l:Int)) fun am=>Option.bind (Cl [] ak) fun aj=>Option.bind (Cl aj [x]) fun ae=>Option.bind (Cl ae am) fun ao=>K ao) = K (l.take k ++ x :: l.drop k) ∧ FZ (l.take k ++ x :: l.drop k) ∧ (l.take k ++ x :: l.drop k).Perm (x :: l):=by
  intro k e h1 h2
  refine ⟨?_,?_,?_⟩
  ·rw [LN l e,Aa,Tb l e,Aa,Bt (by simp; omega),Aa,Bt (by simp; omega),Aa,Bt (by simp; omega),Aa]
   simp
  ·refine Pm (by rw [List.take_append_drop]; exact hs) (fun s h=>LS (h1 s h)) ?_
   rcases h2 with h | h
   ·left; rw [h,List.take_zero]
   ·refine TW fun y hy=>?_
    obtain ⟨i,hi,rfl⟩:=List.mem_take_iff_getElem.1 hy
    have h3:=Mj hs (i:=i) (j:=k - 1) (by omega) (by omega)
    rw [FSx (by omega)] at h3
    exact LR h3 h
  ·have:(l.take k ++ x :: l.drop k).Perm (x :: (l.take k ++ l.drop k)):=List.perm_middle
   rwa [List.take_append_drop] at this
 induction k with
 | zero =>
  intro m e hm h1
  cases m with
  | zero=>omega
  | succ m =>
   obtain ⟨f1,u,v⟩:=ac 0 e h1 (.inl rfl)
   refine ⟨_,v,u,?_⟩
   rw [FG]
   unfold Bk
   dsimp only
   rw [if_neg (by simp),if_neg (by simp)]
   exact f1
 | succ k ih =>
  intro m e hm h1
  cases m with
  | zero=>omega
  | succ m =>
   have g:k < l.length:=by omega
   have hx:l[k]? = some (CL l k):=by rw [Cp g,FSx g]
   have ek:Ag (((k + 1:Nat):Int) - 1) = (k:Int):=by rw [A6 (by omega) (by omega)]; omega
   rw [FG]
   unfold Bk
   dsimp only
   rw [if_pos (by simp <;> omega),ek,AY,hx,Aa,Sb,Aa]
   by_cases f:FR x (CL l k)
   ·rw [if_pos (by simpa using f)]
    refine ih m (by omega) (by omega) (fun s h=>?_)
    rw [List.drop_eq_getElem_cons g] at h
    rcases List.mem_cons.1 h with rfl | h
    ·rw [← FSx g]; exact f
    ·exact h1 s h
   ·obtain ⟨f1,u,v⟩:=ac (k + 1) e h1 (.inr (by simpa using f))
    refine ⟨_,v,u,?_⟩
    rw [if_neg (by simpa using f)]
    exact f1
theorem Zx {l:List BP} (hl:l.length < 50000) (ho:∀ x ∈ l,Ly x):∃ Z,Z.Perm l ∧ FZ Z ∧ Jj l = some (if Fw Z = true then (Z,true) else ([],false)):=by
 unfold Jj
 have ag:∀ (d k m:Nat) (S:List BP),l.length - k = d → k ≤ l.length → d < m → S.Perm (l.take k) → FZ S → ∃ Z,Z.Perm l ∧ FZ Z ∧ EG l m S (k:Int) = some (if Fw Z = true then (Z,true) else ([],false)):=by
  intro d
  induction d with
  | zero =>
   intro k m S hd hk hm e f
   have:k = l.length:=by omega
   subst this
   rw [List.take_length] at e
   cases m with
   | zero=>omega
   | succ m =>
    refine ⟨S,e,f,?_⟩
    rw [EG,if_neg (by simp),RT (by have:=e.length_eq; omega) (fun x v=>ho x (e.mem_iff.1 v)),Aa]
    cases Fw S <;> rfl
  | succ d ih =>
   intro k m S hd hk hm e f
   have g:k < l.length:=by omega
   have ao:S.length = k:=by rw [e.length_eq]; simp; omega
   cases m with
   | zero=>omega
   | succ m =>
    obtain ⟨Z,z1,z2,z3⟩:=Adu (l:=S) (x:=l[k]) (K:=fun ad=>EG l m ad (Ag ((k:Int) + 1))) (by omega) f S.length FU (Nat.le_refl _) (D4 (by omega)) (fun s h=>by rw [List.drop_length] at h; cases h)
    rw [EG,if_pos (by simp; omega)]
    unfold Bk
    dsimp only
    rw [Js g,Aa]
    obtain ⟨W,u,w2,w3⟩:=ih (k + 1) m Z (by omega) (by omega) (by omega) (by
     rw [List.take_succ_eq_append_getElem g]
     exact z1.trans ((List.Perm.cons _ e).trans (List.perm_append_singleton _ _).symm)) z2
    refine ⟨W,u,w2,?_⟩
    rw [z3,AD (by omega)]
    exact w3
 exact ag l.length 0 FU [] rfl (by omega) (D4 (by omega)) (by simp) List.Pairwise.nil
theorem Sk:∀ {Z W:List BP},Z.Perm W → Z.Pairwise FR → FZ W → Z = W
 | [],W,h,_,_=>(List.Perm.nil_eq h)
 | a :: Z,[],h,_,_=>by have:=h.length_eq; simp at this
 | a :: Z,b :: W,h,h1,h2=>by
  have e:a = b:=by
   have f:a ∈ b :: W:=h.mem_iff.1 (List.mem_cons_self ..)
   have g:b ∈ a :: Z:=h.mem_iff.2 (List.mem_cons_self ..)
   rcases List.mem_cons.1 f with e | f
   ·exact e
   ·rcases List.mem_cons.1 g with e | g
    ·exact e.symm
    ·have m:=(List.pairwise_cons.1 h1).1 b g
     have l:=(List.pairwise_cons.1 h2).1 a f
     exact absurd m l
  subst e
  rw [Sk (List.Perm.cons_inv h) (List.pairwise_cons.1 h1).2 (List.pairwise_cons.1 h2).2]
theorem Aam {Z W:List BP} (h:Z.Perm W) (h1:FZ Z) (g:FZ W):(if Fw Z = true then (Z,true) else ([],false)) = (if Fw W = true then (W,true) else (([]:List BP),false)):=by
 by_cases f:Fw Z = true
 ·rw [Sk h (Hm.1 f).2.2.1 g]
 ·by_cases e:Fw W = true
  ·exact absurd (by rw [← Sk h.symm (Hm.1 e).2.2.1 h1]; exact e) f
  ·rw [if_neg f,if_neg e]
theorem Yw {l:List BP} (u:l.length ≤ 40) (f:∀ x ∈ l,Ly x):∃ Z,Z.Perm l ∧ B7 l = some Z ∧ FW Z = some (Fw Z) ∧ Jj l = some (if Fw Z = true then (Z,true) else ([],false)):=by
 obtain ⟨Z,e,v,g⟩:=Y9 u f
 obtain ⟨W,m,w2,h⟩:=Zx (by omega) f
 refine ⟨Z,e,g,O8 (by rw [e.length_eq]; omega) (fun x s=>f x (e.mem_iff.1 s)),?_⟩
 rw [h,Aam (m.trans e.symm) w2 v]
def PD:Int:=4611686018427387904
theorem Aco (c d:Nat):(c:Int) * ((d + 1:Nat):Int) = (c:Int) * (d:Int) + (c:Int):=by
 rw [Int.natCast_add,Int.mul_add]
 simp
theorem Adr {α:Type} {S:α → Prop} (f:Nat → List α → Int → Int → Ae (Int × List α)) (h:List α → Nat → Int → Int → Ae Int) (c:Nat) (l:List α)
  (hs:∀ (m j:Nat) (s:List α) (k:Int) (u:α),s.length = l.length → j < l.length → s[j]? = some u → S u → 0 ≤ k → k + c ≤ PD → ∃ (k1:Int) (u':α),k ≤ k1 ∧ k1 ≤ k + c ∧ f (m + 1) s k (j:Int) = f m (s.set j u') k1 ((j + 1:Nat):Int) ∧
   ∀ (v:Nat) (g:List α),g.length = l.length → g[j]? = some u' → h g (v + 1) k (j:Int) = h g v k1 ((j + 1:Nat):Int))
  (he:∀ m s k,s.length = l.length → f (m + 1) s k (l.length:Int) = some (k,s)) (hh:∀ g m k,g.length = l.length → h g (m + 1) k (l.length:Int) = some k)
  (hl:l.length < 4611686018427387904) (hS:∀ u ∈ l,S u) (k:Int) (h0:0 ≤ k) (hb:k + c * l.length ≤ PD) :
  ∃ k' g,f FU l k 0 = some (k',g) ∧ k ≤ k' ∧ k' ≤ k + c * l.length ∧ g.length = l.length ∧ h g FU k 0 = some k':=by
 have ay:∀ (d j m:Nat) (s:List α) (k:Int),l.length - j = d → j ≤ l.length → d < m → s.length = l.length → (∀ i,j ≤ i → s[i]? = l[i]?) → 0 ≤ k → k + (c:Int) * (d:Int) ≤ PD →
   ∃ k' g,f m s k (j:Int) = some (k',g) ∧ k ≤ k' ∧ k' ≤ k + (c:Int) * (d:Int) ∧ g.length = l.length ∧ (∀ i,i < j → g[i]? = s[i]?) ∧ ∀ v,d < v → h g v k (j:Int) = some k':=by
  intro d
  induction d with
  | zero =>
   intro j m s k hd hj hm hc hr h0 hb
   have:j = l.length:=by omega
   subst this
   cases m with
   | zero=>omega
   | succ m =>
    refine ⟨k,s,he m s k hc,by omega,by simp,hc,fun i _=>rfl,fun v ap=>?_⟩
    cases v with
    | zero=>omega
    | succ v=>exact hh s v k hc
  | succ d ih =>
   intro j m s k hd hj hm hc hr h0 hb
   rw [Aco] at hb
   have a9:0 ≤ (c:Int) * (d:Int):=Int.mul_nonneg (by omega) (by omega)
   cases m with
   | zero=>omega
   | succ m =>
    have aj:j < l.length:=by omega
    have hu:s[j]? = some l[j]:=by rw [hr j (Nat.le_refl _)]; exact Cp aj
    obtain ⟨k1,u',a1,a2,a3,a4⟩:=hs m j s k l[j] hc aj hu (hS _ (List.getElem_mem aj)) h0 (by omega)
    obtain ⟨k',g,b1,b2,b3,b4,b5,b6⟩:=ih (j + 1) m (s.set j u') k1 (by omega) (by omega) (by omega) (by simpa using hc) (fun i hi=>by rw [List.getElem?_set_ne (by omega)]; exact hr i (by omega)) (by omega) (by omega)
    refine ⟨k',g,a3.trans b1,by omega,by rw [Aco]; omega,b4,fun i hi=>?_,fun v ap=>?_⟩
    ·rw [b5 i (by omega),List.getElem?_set_ne (by omega)]
    ·cases v with
     | zero=>omega
     | succ v =>
      have e:g[j]? = some u':=by rw [b5 j (by omega),List.getElem?_set_self (by omega)]
      rw [a4 v g b4 e]
      exact b6 v (by omega)
 obtain ⟨k',g,b1,b2,b3,b4,_,b6⟩:=ay l.length 0 FU l k (by omega) (by omega) (D4 (by omega)) rfl (fun _ _=>rfl) h0 hb
 exact ⟨k',g,b1,b2,b3,b4,b6 FU (D4 (by omega))⟩
end Go.Proofs.YtellehgihceicaaGreatDoor
