/-
 REPAIRS, PLAIN: both sides tell the same kind.
-/
import Derived.Test.YtellehgihceicaaGreatDoorCore20
import Derived.Test.YtellehgihceicaaGreatDoorF
import Derived.Test.YtellehgihceicaaGreatDoorLibF
import Derived.Lib.Mul64
set_option linter.unusedVariables false
set_option linter.unusedSimpArgs false
set_option maxHeartbeats 1600000
namespace Go.Proofs.YtellehgihceicaaGreatDoor
open Go
theorem A6 {x:Int} (h1:-9223372036854775808 ≤ x) (e:x ≤ 9223372036854775807):Ag x = x:=by
 unfold Ag IntKind.wrap
 simp only [IntKind.bits,IntKind.signed]
 simp only [ge_iff_le,Bool.true_and,CC]
 split <;> omega
theorem AD {k:Nat} (h:k < 4611686018427387904):Ag ((k:Int) + 1) = ((k + 1:Nat):Int):=by
 rw [A6 (by omega) (by omega)]; omega
theorem AY {α:Type} (l:List α) (k:Nat):AL l (k:Int) = l[k]?:=by unfold AL; simp
theorem Ss {α:Type} (l:List α):AL l 0 = l[0]?:=by unfold AL; simp
theorem Iv {α:Type} {l:List α} {i:Int} (e:0 ≤ i):AL l i = l[i.toNat]?:=by unfold AL; rw [if_pos e]
theorem D4 {n:Nat} (h:n < 4611686018427387904):n < FU:=h
theorem LM {α:Type} (l:List α) {k:Nat} (h:k ≤ l.length):sl l 0 (k:Int) = some (l.take k):=by
 unfold sl
 rw [if_pos (by omega)]
 simp
theorem O5 {R:Type} (f:Nat → Int → Ae R) (n:Nat) (p:Nat → Bool) (rest e:Ae R) (hn:n < 4611686018427387904)
  (s:∀ m k,k < n → f (m + 1) (k:Int) = if p k = true then f m ((k + 1:Nat):Int) else e) (l:∀ m,f (m + 1) (n:Int) = rest):f FU 0 = if (List.range n).all p = true then rest else e:=by
 have h:∀ d k m,n - k = d → k ≤ n → n - k < m → f m (k:Int) = if (List.range' k (n - k)).all p = true then rest else e:=by
  intro d
  induction d with
  | zero =>
   intro k m g hk v
   have:k = n:=by omega
   subst this
   cases m with
   | zero=>omega
   | succ m=>simp [l]
  | succ d u =>
   intro k m g hk v
   cases m with
   | zero=>omega
   | succ m =>
    rw [s m k (by omega),g,List.range'_succ,List.all_cons]
    cases hp:p k with
    | false=>simp
    | true =>
     simp only [if_true,Bool.true_and]
     rw [u (k + 1) m (by omega) (by omega) (by omega),show n - (k + 1) = d by omega]
 have:=h n 0 FU (by omega) (by omega) (D4 (by omega))
 simpa [List.range_eq_range'] using this
theorem YO {α:Type} (l:List α) (p:Nat → Bool) (q:α → Bool) (h:∀ k x,l[k]? = some x → p k = q x):(List.range l.length).all p = l.all q:=by
 rw [Bool.eq_iff_iff,List.all_eq_true,List.all_eq_true]
 constructor
 ·intro h1 x g
  obtain ⟨k,e⟩:=List.getElem?_of_mem g
  rw [← h k x e]
  exact h1 k (List.mem_range.2 (List.getElem?_eq_some_iff.1 e).1)
 ·intro h1 k e
  have f:=List.mem_range.1 e
  rw [h k l[k] (by simp [f])]
  exact h1 _ (List.getElem_mem f)
theorem Ny {α R:Type} (f:Nat → Int → Ae R) (l:List α) (q:α → Bool) (rest g:Ae R) (v:l.length < 4611686018427387904)
  (u:∀ m k x,k < l.length → l[k]? = some x → f (m + 1) (k:Int) = if q x = true then f m ((k + 1:Nat):Int) else g) (s:∀ m,f (m + 1) (l.length:Int) = rest):f FU 0 = if l.all q = true then rest else g:=by
 rw [O5 f l.length (fun k=>match l[k]? with | some x=>q x | none=>true) rest g v (fun m k h=>?_) s,YO l _ q (fun k x e=>by simp [e])]
 have e:l[k]? = some l[k]:=by simp [h]
 rw [u m k l[k] h e]
 simp [e]
def Szd (o:Ae Int) (n:Int) (Q:Prop):Prop:=∃ r,o = some r ∧ (r < 0 ∨ (0 ≤ r ∧ r ≤ n ∧ Q))
def Add {α:Type} (S:α → Prop) (l:List α):Prop:=l.length ≤ 1048576 ∧ ∀ x ∈ l,S x
theorem Jo {α:Type} {l:List α} {k:Nat} (h:k < l.length):AL l (k:Int) = some l[k]:=by rw [AY]; simp [h]
theorem J2 {α:Type} (l:List α) (k:Nat) (x:α):BD l (k:Int) x = l.set k x:=by unfold BD; simp
theorem Szd.imp {o:Ae Int} {n:Int} {Q R:Prop} (h:Szd o n Q) (e:Q → R):Szd o n R:=by
 obtain ⟨r,h1,f⟩:=h
 exact ⟨r,h1,f.imp id fun h=>⟨h.1,h.2.1,e h.2.2⟩⟩
theorem N8 {α:Type} {n:Nat} (h:n ≤ 1073741824) (z:α):RS (n:Int) z = some (List.replicate n z):=by
 unfold RS
 rw [if_pos (by omega)]
 simp
theorem eqL {α:Type} {S:α → Prop} (f:Nat → Int → Ae Bool) (l:List α) (g:α → α → Ae Bool)
  (h:∀ m k,f (m + 1) k = if (decide (k < (List.length l:Int))) = true then Option.bind (AL l k) fun u=>Option.bind (AL l k) fun v=>Option.bind (g u v) fun b=>(if (!b) = true then some false else f m (Ag (k + 1))) else some true)
  (hg:∀ x,S x → g x x = some true) (s:Add S l):(if ((List.length l:Int) != (List.length l:Int)) = true then some false else f FU 0) = some true:=by
 have ab:=s.1
 rw [if_neg (by simp)]
 have:=Ny f l (fun _=>true) (some true) (some false) (by omega) (fun m k x hk e=>?_) (fun m=>by rw [h,if_neg (by simp)])
 ·simpa using this
 ·rw [h,if_pos (by simp; omega),AY,e,Aa,Aa,hg x (s.2 _ (List.mem_of_getElem? e)),Aa,AD (by omega)]
  rfl
theorem eqI {b:Bool} {f:Ae Bool} (h:b = false) (e:f = some true):(if b = true then some false else f) = some true:=by rw [h]; exact e
theorem neI (x:Int):(x != x) = false:=by simp
theorem Wv {α S R:Type} (f:Nat → S → Int → Ae R) (l:List α) (e:S → α → S) (rest:S → Ae R) (hn:l.length < 4611686018427387904)
  (hs:∀ m s k x,k < l.length → l[k]? = some x → f (m + 1) s (k:Int) = f m (e s x) ((k + 1:Nat):Int)) (v:∀ m s,f (m + 1) s (l.length:Int) = rest s) (h:S):f FU h 0 = rest (l.foldl e h):=by
 have u:∀ d k m s,l.length - k = d → k ≤ l.length → l.length - k < m → f m s (k:Int) = rest ((l.drop k).foldl e s):=by
  intro d
  induction d with
  | zero =>
   intro k m s hd hk hm
   have:k = l.length:=by omega
   subst this
   cases m with
   | zero=>omega
   | succ m=>rw [v]; simp
  | succ d ih =>
   intro k m s hd hk hm
   cases m with
   | zero=>omega
   | succ m =>
    have g:k < l.length:=by omega
    rw [hs m s k l[k] g (by simp [g]),ih (k + 1) m _ (by omega) (by omega) (by omega),List.drop_eq_getElem_cons g,List.foldl_cons]
 have:=u _ 0 FU h rfl (by omega) (D4 (by omega))
 simpa using this
theorem Tn {α:Type} (l:List α) {k:Nat} (h:k ≤ l.length):sl l 0 (k:Int) = some (l.take k):=LM l h
theorem Bt {α:Type} {l m:List α} (h:l.length + m.length ≤ 1073741824):Cm l m = some (l ++ m):=by
 unfold Cm
 rw [if_pos h]
def PQ (l:List Aj):Nat:=l.count 10
theorem ten:(10:Int).toNat.toUInt8 = 10:=by decide
def GP (l:List Aj):Bool:=decide (l.length ≤ 2000) && (decide (l = []) || decide (l.getLast? = some 10)) && decide (PQ l ≤ 40)
theorem TS {l:List Aj} (h:l ≠ []):∃ b,AL l ((l.length:Int) - 1) = some b ∧ l.getLast? = some b ∧ l = l.take (l.length - 1) ++ [b]:=by
 have f:0 < l.length:=List.length_pos_iff.2 h
 have e:l.length - 1 < l.length:=by omega
 refine ⟨l[l.length - 1],?_,?_,?_⟩
 ·rw [show (l.length:Int) - 1 = ((l.length - 1:Nat):Int) by omega,Jo e]
 ·rw [List.getLast?_eq_getElem?,Cp e]
 ·conv=>lhs; rw [← List.take_append_drop (l.length - 1) l]
  rw [List.drop_eq_getElem_cons e,List.drop_eq_nil_of_le (by omega)]
def Hv (b:Aj):Bool:=decide (48 ≤ b.toNat) && decide (b.toNat ≤ 57)
def OS (l:List Aj):Int:=l.foldl (fun a b=>10 * a + ((b.toNat:Int) - 48)) 0
theorem RX {d:Nat} (h:d < 10):(UInt8.ofNat (48 + d)).toNat = 48 + d:=by
 rw [UInt8.toNat_ofNat']
 omega
theorem QV {u:Nat} (h:u < 10):Lib.decDigits u = [UInt8.ofNat (48 + u)]:=Lib.decDigits_one h
theorem XJ {u:Nat} (h:¬ u < 10):Lib.decDigits u = Lib.decDigits (u / 10) ++ [UInt8.ofNat (48 + u % 10)]:=by
 rw [Lib.decDigits,dif_neg h]
theorem Ve:∀ (k u:Nat),u < 10 ^ (k + 1) → (∀ b ∈ Lib.decDigits u,Hv b = true) ∧ OS (Lib.decDigits u) = u ∧ 1 ≤ (Lib.decDigits u).length ∧ (Lib.decDigits u).length ≤ k + 1 ∧
  (0 < u → ∀ b,(Lib.decDigits u)[0]? = some b → b.toNat ≠ 48):=by
 intro k
 induction k with
 | zero =>
  intro u l
  have h:u < 10:=by simpa using l
  rw [QV h]
  have:=RX h
  refine ⟨fun b e=>?_,?_,by simp,by simp,fun h0 b e=>?_⟩
  ·rw [List.mem_singleton.1 e]
   unfold Hv
   rw [this]
   simp
   omega
  ·unfold OS
   simp only [List.foldl_cons,List.foldl_nil,this]
   omega
  ·rw [List.getElem?_cons_zero,Option.some.injEq] at e
   rw [← e,this]
   omega
 | succ k s =>
  intro u l
  by_cases h:u < 10
  ·obtain ⟨m,f,v,a4,g⟩:=s u (Nat.lt_of_lt_of_le h (by rw [Nat.pow_succ]; have:=Nat.pow_pos (n:=k) (show 0 < 10 by omega); omega))
   exact ⟨m,f,v,by omega,g⟩
  ·have hd:u / 10 < 10 ^ (k + 1):=by rw [Nat.pow_succ] at l; omega
   obtain ⟨m,f,v,a4,g⟩:=s (u / 10) hd
   have hm:u % 10 < 10:=by omega
   have:=RX hm
   rw [XJ h]
   refine ⟨fun b e=>?_,?_,by simp,by simp; omega,fun h0 b e=>?_⟩
   ·rcases AX.1 e with e | e
    ·exact m b e
    ·rw [List.mem_singleton.1 e]
     unfold Hv
     rw [this]
     simp
     omega
   ·unfold OS at f ⊢
    rw [List.foldl_append,List.foldl_cons,List.foldl_nil,f,this]
    omega
   ·rw [List.getElem?_append_left (by omega)] at e
    exact g (by omega) b e
theorem Zc:∀ (l:List Aj) (a:Int),(∀ b ∈ l,Hv b = true) → 0 ≤ a → 0 ≤ l.foldl (fun a b=>10 * a + ((b.toNat:Int) - 48)) a ∧ l.foldl (fun a b=>10 * a + ((b.toNat:Int) - 48)) a < (a + 1) * 10 ^ l.length
 | [],a,_,h=>by simp; omega
 | b :: l,a,hd,h=>by
  have e:=hd b (by simp)
  unfold Hv at e
  simp only [Cg,CC] at e
  obtain ⟨h1,g⟩:=Zc l (10 * a + ((b.toNat:Int) - 48)) (fun c f=>hd c (by simp [f])) (by omega)
  rw [List.foldl_cons,List.length_cons,Int.pow_succ]
  refine ⟨h1,Int.lt_of_lt_of_le g ?_⟩
  have m:(0:Int) ≤ 10 ^ l.length:=Int.le_of_lt (Int.pow_pos (by omega))
  have u:(10 * a + ((b.toNat:Int) - 48) + 1) * 10 ^ l.length ≤ ((a + 1) * 10) * 10 ^ l.length:=Int.mul_le_mul_of_nonneg_right (by omega) m
  have s:(a + 1) * (10 ^ l.length * 10) = ((a + 1) * 10) * 10 ^ l.length:=by rw [Int.mul_comm (10 ^ l.length) 10,Int.mul_assoc]
  omega
def Da (c:Aj):List Aj → List (List Aj)
 | []=>[[]]
 | b :: l=>if b = c then [] :: Da c l else match Da c l with
  | []=>[[b]]
  | h :: t=>(b :: h) :: t
theorem OJ {c:Aj}:∀ {l:List Aj},c ∉ l → Da c l = [l]
 | [],_=>rfl
 | b :: l,h=>by
  rw [List.mem_cons,not_or] at h
  rw [Da,if_neg (fun e=>h.1 e.symm),OJ h.2]
theorem OK {c:Aj}:∀ {A B:List Aj},c ∉ A → Da c (A ++ c :: B) = A :: Da c B
 | [],B,_=>by rw [List.nil_append,Da,if_pos rfl]
 | b :: A,B,h=>by
  rw [List.mem_cons,not_or] at h
  rw [List.cons_append,Da,if_neg (fun e=>h.1 e.symm),OK h.2]
theorem Jk (c:Aj):∀ l:List Aj,(Da c l).length = l.count c + 1
 | []=>rfl
 | b :: l=>by
  have e:=Jk c l
  rw [Da]
  by_cases h:b = c
  ·rw [if_pos h,List.length_cons,e,List.count_cons,if_pos (by simp [h])]
  ·rw [if_neg h,List.count_cons,if_neg (by simpa using h)]
   cases f:Da c l with
   | nil=>rw [f] at e; simp at e
   | cons a t=>rw [f] at e; simpa using e
theorem YI {α:Type} (l:List α) {k:Nat} (h:k ≤ l.length):sl l 0 (k:Int) = some (l.take k):=LM l h
theorem SY {α:Type} (l:List α) {k:Nat} (h:k ≤ l.length):sl l (k:Int) (List.length l:Int) = some (l.drop k):=by
 unfold sl
 rw [if_pos (by omega)]
 simp
theorem YJ (c:Aj):(UInt8.toNat c:Int).toNat.toUInt8 = c:=by
 rw [Int.toNat_natCast]
 exact UInt8.ofNat_toNat
theorem MP {b c:Aj} (h:b ≠ c):((b.toNat:Nat):Int) ≠ (c.toNat:Int):=fun e=>h (UInt8.toNat_inj.1 (by omega))
theorem Aaz (l:List Aj) (c:Aj):(PU l (c.toNat:Int) = -1 ∧ c ∉ l) ∨ ∃ A B,l = A ++ c :: B ∧ c ∉ A ∧ PU l (c.toNat:Int) = (A.length:Int):=by
 unfold PU
 rw [YJ]
 cases h:(List.range l.length).find? (fun i=>l[i]? == some c) with
 | none =>
  left
  refine ⟨rfl,fun g=>?_⟩
  obtain ⟨k,f,e⟩:=List.getElem_of_mem g
  have:=List.find?_eq_none.1 h k (List.mem_range.2 f)
  rw [Cp f,e] at this
  simp at this
 | some i =>
  right
  have m:=List.find?_some h
  have hi:i < l.length:=List.mem_range.1 (List.mem_of_find?_eq_some h)
  have u:l[i] = c:=by
   rw [Cp hi] at m
   simpa using m
  have ad:c ∉ l.take i:=by
   intro g
   obtain ⟨k,f,e⟩:=List.getElem_of_mem g
   rw [List.getElem_take] at e
   have v:k < i:=by simp at f; omega
   have ab:k < l.length:=by omega
   have s:=(List.find?_range_eq_some.1 h).2.2 k v
   rw [Cp ab,e] at s
   simp at s
  have hl:l = l.take i ++ c :: l.drop (i + 1):=by
   conv=>rhs; rw [← u]
   rw [List.getElem_cons_drop,List.take_append_drop]
  exact ⟨l.take i,l.drop (i + 1),hl,ad,by simp; omega⟩
theorem WC {c:Aj}:∀ {A A' B B':List Aj},c ∉ A → c ∉ A' → A ++ c :: B = A' ++ c :: B' → A = A' ∧ B = B'
 | [],[],B,B',_,_,e=>by simpa using e
 | [],a :: A',B,B',_,h,e=>by
  rw [List.nil_append,List.cons_append,List.cons.injEq] at e
  exact absurd (by rw [e.1]; simp) h
 | a :: A,[],B,B',h,_,e=>by
  rw [List.nil_append,List.cons_append,List.cons.injEq] at e
  exact absurd (by rw [e.1]; simp) h
 | a :: A,a' :: A',B,B',h,h',e=>by
  rw [List.cons_append,List.cons_append,List.cons.injEq] at e
  rw [List.mem_cons,not_or] at h h'
  obtain ⟨f,g⟩:=WC h.2 h'.2 e.2
  exact ⟨by rw [e.1,f],g⟩
theorem ZF {A B:List Aj} {c:Aj} (h:c ∉ A):PU (A ++ c :: B) (c.toNat:Int) = (A.length:Int):=by
 rcases Aaz (A ++ c :: B) c with ⟨_,l⟩ | ⟨A',B',e,g,f⟩
 ·exact absurd (by simp) l
 ·rw [f,(WC h g e).1]
theorem Abf (l:List Aj) (c:Aj):HR l [c] = some (PU l (c.toNat:Int)):=by
 unfold HR IP Hr Bk
 dsimp only
 by_cases h:l = [c]
 ·subst h
  have:=ZF (A:=[]) (B:=[]) (c:=c) (by simp)
  rw [List.nil_append] at this
  rw [this]
  simp
 ·have f:([c] == l) = false:=by
   rw [beq_eq_false_iff_ne]
   exact fun e=>h e.symm
  rw [if_neg (by simp),f,if_neg (by simp),if_pos (by simp)]
  rfl
theorem Abg (l:List Aj) (c:Aj):Jr l [c] = some ((l.count c:Nat):Int):=by
 unfold Jr
 rw [if_neg (by simp),if_pos (by simp)]
 show some (Ym l (UInt8.toNat c:Int)) = _
 unfold Ym
 rw [YJ]
theorem Aay {α:Type} (L:List α) (i:Nat) (x:α) (h:i < L.length):(BD L (i:Int) x).take (i + 1) = L.take i ++ [x]:=by
 unfold BD
 rw [Int.toNat_natCast,List.take_add_one,List.getElem?_set_self h,List.take_set_of_le (Nat.le_refl _)]
 rfl
theorem X2 (l:List Aj) (c:Aj) (hl:l.length ≤ 4194304):FZ l [c] = some (Da c l):=by
 have hc:l.count c ≤ l.length:=List.count_le_length
 unfold FZ Jq Bk W0
 dsimp only
 have h:Fn ((l.count c:Int) + 1) ((l.length:Int) + 1) = ((l.count c + 1:Nat):Int):=by
  unfold Fn
  split <;> omega
 rw [if_neg (by simp),if_neg (by simp),if_pos (by simp),Abg,Aa,A6 (x:=((l.count c:Nat):Int) + 1) (by omega) (by omega),A6 (x:=(List.length l:Int) + 1) (by omega) (by omega),h,N8 (by omega),Aa]
 have ab:∀ (d i m:Nat) (y:List Aj) (L:List (List Aj)),l.count c - i = d → i ≤ l.count c → d < m → y.count c = d → L.length = l.count c + 1 → y.length ≤ 4194304 →
   DJ ((l.count c:Int) + 1) l [c] (fun ai aa g=>Option.bind (AL aa g) fun ar=>Option.bind (sl (BD aa g ai) 0 (Ag (g + 1))) fun aj=>some aj) 0 m y L (i:Int) = some (L.take i ++ Da c y):=by
  intro d
  induction d with
  | zero =>
   intro i m y L hd hi hm f u an
   have:i = l.count c:=by omega
   subst this
   cases m with
   | zero=>omega
   | succ m =>
    rw [DJ,A6 (x:=(List.length l:Int) + 1) (by omega) (by omega),h,A6 (x:=((l.count c + 1:Nat):Int) - 1) (by omega) (by omega),if_neg (by simp <;> omega),Jo (by omega),Aa,AD (by omega),YI _ (by simp [BD]; omega),Aa,Aay _ _ _ (by omega),OJ (List.count_eq_zero.1 f)]
  | succ d ih =>
   intro i m y L hd hi hm f u an
   cases m with
   | zero=>omega
   | succ m =>
    rcases Aaz y c with ⟨_,h0⟩ | ⟨A,B,e,v,hx⟩
    ·rw [List.count_eq_zero.2 h0] at f; omega
    ·have au:y.length = A.length + (B.length + 1):=by rw [e]; simp
     have hB:y.drop (A.length + 1) = B:=by rw [e,show A ++ c :: B = (A ++ [c]) ++ B by simp]; exact List.drop_left' (by simp)
     have ad:y.take A.length = A:=by rw [e]; exact List.take_left' rfl
     have ap:B.count c = d:=by
      rw [e,List.count_append,List.count_eq_zero.2 v,List.count_cons_self] at f
      omega
     rw [DJ,A6 (x:=(List.length l:Int) + 1) (by omega) (by omega),h,A6 (x:=((l.count c + 1:Nat):Int) - 1) (by omega) (by omega),if_pos (by simp <;> omega),Abf,Aa,hx,if_neg (by simp),A6 (x:=(A.length:Int) + 0) (by omega) (by omega),Int.add_zero,YI _ (by omega),Aa,Jo (by omega),Aa]
     rw [show (List.length ([c]:List Aj):Int) = 1 by rfl,AD (by omega),SY _ (by omega),Aa,AD (by omega),hB,ad]
     rw [ih (i + 1) m B _ (by omega) (by omega) (by omega) ap (by simp [BD]; exact u) (by omega),Aay _ _ _ (by omega)]
     conv=>rhs; rw [e]
     rw [OK v,List.append_assoc]
     rfl
 have s:=ab (l.count c) 0 FU l (List.replicate (l.count c + 1) []) (by omega) (by omega) (D4 (by omega)) rfl (by simp) hl
 rw [show ((0:Nat):Int) = 0 by rfl] at s
 rw [s]
 rfl
def BM (a lo hi:Int):Bool:=decide (lo ≤ a) && decide (a ≤ hi)
theorem CU (a e f:Int):BQ a e f = some (BM a e f):=by
 unfold BQ Bk BM
 by_cases h:e ≤ a <;> simp [h]
theorem CT (a e f:Int):BX a e f = some (BM a e f):=by
 unfold BX Bk BM
 by_cases h:e ≤ a <;> simp [h]
def CX (s:Int × Int):Bool:=BM s.1 0 1280 && BM s.2 0 672
theorem OM (s:Int × Int):HY s = some (CX s):=by
 unfold HY Bk CX
 dsimp only
 rw [CU,Aa,CU]
 cases BM s.1 0 1280 <;> simp
theorem Ly (s:Int × Int):Gt s = some (CX s):=by
 unfold Gt Bk CX
 dsimp only
 rw [CT,Aa,CT]
 cases BM s.1 0 1280 <;> simp
theorem RW (x y:Int × Int):M8 x y = decide (x = y):=by
 obtain ⟨a,b⟩:=x
 obtain ⟨c,d⟩:=y
 simp [M8]
 by_cases h1:a = c <;> by_cases e:b = d <;> simp [h1,e]
def PN (l:List (Int × Int)) (k:Nat):Bool:=match l[k]? with
 | some s=>CX s && (l.take k).all (fun u=>!decide (s = u))
 | none=>true
theorem NZ {l:List (Int × Int)} {k:Nat} {s:Int × Int} (h:l[k]? = some s):PN l k = (CX s && (l.take k).all (fun u=>!decide (s = u))):=by
 unfold PN
 rw [h]
def Cv (l:List (Int × Int)):Bool:=BM (l.length:Int) 1 12 && (List.range l.length).all (PN l)
theorem J1 (l:List (Int × Int)) (h:l.length < 4611686018427387904):FK l = some (Cv l):=by
 unfold FK
 rw [O5 (Ei l) l.length (PN l) (some (BM (l.length:Int) 1 12)) (some false) h (fun m k hk=>?_) (fun m=>?_)]
 ·unfold Cv
  cases (List.range l.length).all (PN l) <;> simp
 ·obtain ⟨s,e⟩:∃ s,l[k]? = some s:=⟨_,Cp hk⟩
  rw [Ei,if_pos (by simp; omega),AY,e,Aa,OM,Aa,NZ e]
  cases CX s with
  | false=>simp
  | true =>
   rw [if_neg (by simp),LM l (by omega),Aa,Bool.true_and]
   have ac:(l.take k).length = k:=by simp; omega
   rw [Ny (FF (l.take k) s (Ei l m) (k:Int)) (l.take k) (fun u=>!decide (s = u)) (Ei l m ((k + 1:Nat):Int)) (some false) (by omega) (fun g j x hj f=>?_) (fun g=>?_)]
   ·rw [FF,if_pos (by simp; omega),AY,f,Aa,RW,AD (by omega)]
    by_cases v:s = x <;> simp [v]
   ·rw [FF,if_neg (by simp),AD (by omega)]
 ·rw [Ei,if_neg (by simp),CU]
  rfl
theorem Vq (l:List (Int × Int)) (s:Int × Int) (hl:l.length < 4611686018427387904):Dk l s = some (!l.all (fun u=>!decide (s = u))):=by
 unfold Dk Ez
 have h:∀ d k m,l.length - k = d → k ≤ l.length → l.length - k < m → ∃ i,Cn l s m (k:Int) = some i ∧ decide (0 ≤ i) = !(l.drop k).all (fun u=>!decide (s = u)):=by
  intro d
  induction d with
  | zero =>
   intro k m v hk hm
   cases m with
   | zero=>omega
   | succ m =>
    rw [Cn,if_neg (by simp; omega)]
    exact ⟨-1,rfl,by rw [List.drop_eq_nil_of_le (by omega)]; simp⟩
  | succ d ih =>
   intro k m v hk hm
   cases m with
   | zero=>omega
   | succ m =>
    have g:k < l.length:=by omega
    rw [Cn,if_pos (by simp; omega),Jo g,Aa,RW,AD (by omega),List.drop_eq_getElem_cons g,List.all_cons]
    by_cases e:s = l[k]
    ·exact ⟨k,by simp [e],by simp [e]⟩
    ·rw [if_neg (by simp [e])]
     obtain ⟨i,h1,f⟩:=ih (k + 1) m (by omega) (by omega) (by omega)
     exact ⟨i,h1,by simp [e,f]⟩
 obtain ⟨i,h1,f⟩:=h _ 0 FU rfl (by omega) (D4 (by omega))
 rw [show ((0:Nat):Int) = 0 from rfl] at h1
 rw [h1,Aa,f]
 simp
theorem GQ (l:List (Int × Int)) (f:l.length < 4611686018427387904):DZ l = some (Cv l):=by
 unfold DZ Cv
 rw [CT,Aa]
 cases h:BM (l.length:Int) 1 12 with
 | false=>simp
 | true =>
  rw [if_neg (by simp),O5 (Fm l) l.length (PN l) (some true) (some false) f (fun m k g=>?_) (fun m=>?_)]
  ·cases (List.range l.length).all (PN l) <;> simp
  ·obtain ⟨s,e⟩:∃ s,l[k]? = some s:=⟨_,Cp g⟩
   rw [Fm,if_pos (by simp; omega),AY,e,Aa]
   unfold Bk
   dsimp only
   rw [NZ e,Ly,Aa]
   rw [LM l (by omega),Aa,Vq _ _ (by simp; omega),Aa,AD (by omega)]
   cases CX s with
   | false=>simp
   | true=>simp only [Bool.not_true,Bool.false_eq_true,if_false,Bool.true_and]; cases (List.take k l).all (fun u=>!decide (s = u)) <;> simp
  ·rw [Fm,if_neg (by simp)]
def Wm (l:List Int):Bool:=l.all fun u=>BM u 1 64
theorem Oz (x:Int):Hg x = some (BM x 0 80):=by
 unfold Hg
 rw [CU]; rfl
theorem QP (x:Int):I3 x = some (BM x 0 80):=by
 unfold I3
 rw [CT]; rfl
def Wa (cs:List Aev):Bool:=cs.all fun c=>Cv c && (match cs[0]? with | some d=>decide (c.length = d.length) | none=>true)
abbrev T2:=(List Aev) × (List Int) × Int × Int
def Zb (x:T2):Bool:=BM (x.1.length:Int) 2 8 && decide (x.2.1.length + 1 = x.1.length) && Wa x.1 && Wm x.2.1 && BM x.2.2.1 0 80 && BM x.2.2.2 1 24
theorem Kb {b:Aj}:Hv b = true ↔ 48 ≤ b.toNat ∧ b.toNat ≤ 57:=by
 unfold Hv
 simp
theorem UL {b:Aj} (h:Hv b = true):Ag (Mt ((b.toNat:Int) - 48)) = (b.toNat:Int) - 48:=by
 have:=Kb.1 h
 have e:Mt ((b.toNat:Int) - 48) = (b.toNat:Int) - 48:=by
  unfold Mt
  show ((b.toNat:Int) - 48) % 256 = _
  omega
 rw [e,A6 (by omega) (by omega)]
def LZ (l:List Aj):Int × Bool:=if l = [] ∨ 9 < l.length ∨ (1 < l.length ∧ l[0]? = some 48) then (0,false) else if l.all Hv then (OS l,true) else (0,false)
theorem W5 (l:List Aj) (n:Int) (i:Nat) (m:0 ≤ n) (h:n < 10 ^ i) (g:i + l.length ≤ 9):n ≤ 1000000000:=by
 have:(10:Nat) ^ i ≤ 10 ^ 9:=Nat.pow_le_pow_right (by omega) (by omega)
 have f:((10 ^ i:Nat):Int) ≤ ((10 ^ 9:Nat):Int):=Int.ofNat_le.2 this
 rw [Int.natCast_pow] at f
 have e:((10 ^ 9:Nat):Int) = 1000000000:=by decide
 rw [e] at f
 exact Int.le_of_lt (Int.lt_of_lt_of_le h f)
theorem ZT (l:List Aj) (h9:l.length ≤ 9):∀ (d i m:Nat) (n:Int),l.length - i = d → i ≤ l.length → d < m → 0 ≤ n → n < 10 ^ i →
  Fj l m n (i:Int) = some (if (l.drop i).all Hv then ((l.drop i).foldl (fun a b=>10 * a + ((b.toNat:Int) - 48)) n,true) else (0,false)):=by
 intro d
 induction d with
 | zero =>
  intro i m n h hi u f h1
  have:i = l.length:=by omega
  subst this
  cases m with
  | zero=>omega
  | succ m =>
   rw [Fj,if_neg (by simp),List.drop_length]
   rfl
 | succ d ih =>
  intro i m n h hi u f h1
  cases m with
  | zero=>omega
  | succ m =>
   have g:i < l.length:=by omega
   have hb:=W5 (l.drop i) n i f h1 (by simp; omega)
   rw [Fj,if_pos (by simp; omega)]
   unfold Bk
   dsimp only
   rw [Jo g,Aa,Aa]
   rw [List.drop_eq_getElem_cons g,List.all_cons,List.foldl_cons]
   by_cases e:Hv l[i] = true
   ·have s:=Kb.1 e
    rw [if_neg (by simp; omega),Aa,if_neg (by simp; omega),e,Bool.true_and,UL e,A6 (x:=10 * n) (by omega) (by omega),A6 (x:=10 * n + _) (by omega) (by omega),AD (by omega)]
    refine ih (i + 1) m _ (by omega) (by omega) (by omega) (by omega) ?_
    rw [Int.pow_succ]
    omega
   ·have s:¬ (48 ≤ l[i].toNat ∧ l[i].toNat ≤ 57):=fun x=>e (Kb.2 x)
    have v:Hv l[i] = false:=by simpa using e
    rw [v,Bool.false_and,if_neg (c:=false = true) (by simp)]
    by_cases ac:l[i].toNat < 48
    ·rw [if_pos (by simp; omega),if_pos rfl]
    ·rw [if_neg (by simp; omega),Aa,if_pos (by simp; omega)]
theorem W1 (l:List Aj) (h:l.length < 4611686018427387904):JQ l = some (LZ l):=by
 unfold JQ LZ Bk
 dsimp only
 by_cases f:l = []
 ·rw [if_pos (by simp [f]),if_pos rfl,if_pos (Or.inl f)]
 ·rw [if_neg (by simpa using f)]
  by_cases u:9 < l.length
  ·rw [if_pos (by simp; omega),if_pos rfl,if_pos (Or.inr (Or.inl u))]
  ·rw [if_neg (by simp; omega)]
   have v:0 < l.length:=List.length_pos_iff.2 f
   have s:=ZT l (by omega) l.length 0 FU 0 rfl (by omega) (D4 (by omega)) (by omega) (by simp)
   rw [show ((0:Nat):Int) = 0 by rfl] at s
   by_cases h1:1 < l.length
   ·rw [if_pos (by simp; omega),Ss,Cp v,Aa]
    by_cases m:l[0] = 48
    ·rw [m,if_pos (by decide),if_pos (Or.inr (Or.inr ⟨h1,rfl⟩))]
    ·have:((l[0].toNat:Int) == 48) = false:=by
      rw [beq_eq_false_iff_ne]
      exact MP (c:=48) m
     have g:¬ (l = [] ∨ 9 < l.length ∨ (1 < l.length ∧ some l[0] = some 48)):=by
      rintro (e | e | ⟨_,e⟩)
      ·exact f e
      ·exact u e
      ·exact m (Option.some.inj e)
     rw [this,if_neg (by simp),s,if_neg g]
     rfl
   ·have g:¬ (l = [] ∨ 9 < l.length ∨ (1 < l.length ∧ l[0]? = some 48)):=by
     rintro (e | e | ⟨e,_⟩)
     ·exact f e
     ·exact u e
     ·exact h1 e
    rw [if_neg (by simp; omega),if_neg (by simp),s,if_neg g]
    rfl
theorem D9 {a f e:Int}:BM a f e = true ↔ f ≤ a ∧ a ≤ e:=by simp [BM]
theorem FM {s:Int × Int}:CX s = true ↔ (0 ≤ s.1 ∧ s.1 ≤ 1280) ∧ 0 ≤ s.2 ∧ s.2 ≤ 672:=by
 unfold CX
 rw [Cg,D9,D9]
theorem O4 {α:Type} {l m:List α} (h:l.length + m.length ≤ 1073741824):Cm l m = some (l ++ m):=by
 unfold Cm
 rw [if_pos h]
def MN (n:Int):List Aj:=Lib.decDigits (n.toNat / 8) ++ if 0 < n.toNat % 8 then 43 :: Lib.decDigits (n.toNat % 8) else []
def PG (s:Int × Int):List Aj:=MN s.1 ++ 44 :: MN s.2
theorem Hy {k u:Nat} (h:u < 10 ^ (k + 1)):(Lib.decDigits u).length ≤ k + 1:=(Ve k u h).2.2.2.1
theorem LA {n:Int} (h:0 ≤ n) (e:n ≤ 9223372036854775807):CZ n = some (Lib.decDigits n.toNat):=by
 unfold CZ Lib.itoa
 rw [if_pos (by omega),if_neg (by omega)]
theorem LJ {n:Int} (h:0 ≤ n ∧ n ≤ 1280):(MN n).length ≤ 5:=by
 unfold MN
 have h1:=Hy (k:=2) (u:=n.toNat / 8) (by omega)
 have e:=Hy (k:=0) (u:=n.toNat % 8) (by omega)
 rw [CM]
 split
 ·rw [List.length_cons]; omega
 ·simp; omega
theorem Pt {n:Int} (h:0 ≤ n ∧ n ≤ 1280):H4 n = some (MN n):=by
 have h1:=Hy (k:=2) (u:=n.toNat / 8) (by omega)
 have f:=Hy (k:=0) (u:=n.toNat % 8) (by omega)
 unfold H4 MN Bk
 dsimp only
 rw [Int.tdiv_eq_ediv_of_nonneg h.1,Int.tmod_eq_emod_of_nonneg h.1,A6 (by omega) (by omega),LA (by omega) (by omega),Aa,show (n / 8).toNat = n.toNat / 8 by omega]
 by_cases e:0 < n.toNat % 8
 ·rw [if_pos (by simp; omega),LA (by omega) (by omega),Aa,show (n % 8).toNat = n.toNat % 8 by omega,O4 (by simp; omega),Aa,O4 (by simp; omega),Aa,if_pos e]
  rfl
 ·rw [if_neg (by simp; omega),if_neg e,List.append_nil]
theorem Vp {s:Int × Int} (h:CX s = true):Jy s = some (PG s,true):=by
 unfold Jy
 rw [Ly,Aa,h,if_neg (by simp)]
 have f:=FM.1 h
 have g:=LJ (n:=s.1) (by omega)
 have e:=LJ (n:=s.2) (by omega)
 rw [Pt (by omega),Aa,O4 (by simp; omega),Aa,Pt (by omega),Aa,O4 (by simp; omega),Aa]
 unfold PG
 rw [List.append_assoc]
 rfl
theorem Y7 {s:Int × Int} (h:CX s = true):(PG s).length ≤ 11:=by
 have f:=FM.1 h
 have g:=LJ (n:=s.1) (by omega)
 have e:=LJ (n:=s.2) (by omega)
 unfold PG
 rw [CM,List.length_cons]
 omega
theorem PM {a f e:Int}:BM a f e = true ↔ f ≤ a ∧ a ≤ e:=by simp [BM]
structure Z0 (x:T2):Prop where
 n0:2 ≤ x.1.length
 n1:x.1.length ≤ 8
 nc:x.2.1.length + 1 = x.1.length
 ch:∀ c ∈ x.1,Cv c = true
 cl:∀ c ∈ x.1,1 ≤ c.length ∧ c.length ≤ 12
 ce:∀ c ∈ x.1,∀ d,x.1[0]? = some d → c.length = d.length
 cn:∀ u ∈ x.2.1,1 ≤ u ∧ u ≤ 64
 le:0 ≤ x.2.2.1 ∧ x.2.2.1 ≤ 80
 st:1 ≤ x.2.2.2 ∧ x.2.2.2 ≤ 24
theorem Xm {c:List (Int × Int)} (h:Cv c = true):1 ≤ c.length ∧ c.length ≤ 12:=by
 unfold Cv at h
 rw [Cg,PM] at h
 omega
theorem Aes {x:T2} (h:Zb x = true):Z0 x:=by
 unfold Zb Wa Wm at h
 simp only [Cg,PM,CC,List.all_eq_true] at h
 obtain ⟨⟨⟨⟨⟨h1,l⟩,f⟩,g⟩,s⟩,m⟩:=h
 refine ⟨by omega,by omega,l,fun c e=>(f c e).1,fun c e=>Xm (f c e).1,fun c e d u=>?_,g,s,m⟩
 have:=(f c e).2
 rw [u] at this
 simpa using this
theorem WQ {α:Type} {l m:List α} (h:l.length + m.length ≤ 1073741824):Cm l m = some (l ++ m):=by
 unfold Cm
 rw [if_pos h]
abbrev FY:=(Int × Int) × (Int × Int) × Int
def GK (a b:Int × Int):Int:=Ag ((Ag ((Ag (a.1 - b.1)) * (Ag (a.1 - b.1)))) + (Ag ((Ag (a.2 - b.2)) * (Ag (a.2 - b.2)))))
theorem L5 (a b:Int × Int):GS a b = some (GK a b):=rfl
theorem Ho (a b:Int × Int):Ed a b = some (GK a b):=rfl
def SQ (m:FY):Int:=GK m.1 m.2.1
theorem Ma {x y A B:Int} (h1:-A ≤ x) (g:x ≤ A) (l:-B ≤ y) (f:y ≤ B):-(A * B) ≤ x * y ∧ x * y ≤ A * B:=by
 have h:(x * y).natAbs ≤ A.toNat * B.toNat:=by rw [Int.natAbs_mul]; exact Nat.mul_le_mul (by omega) (by omega)
 have e:((A.toNat * B.toNat:Nat):Int) = A * B:=by
  rw [Int.natCast_mul,Int.toNat_of_nonneg (by omega),Int.toNat_of_nonneg (by omega)]
 omega
def Ip (a b:Int):Int × Int:=(Ag (Int.tdiv a (Nat.gcd a.toNat b.toNat:Int)),Ag (Int.tdiv b (Nat.gcd a.toNat b.toNat:Int)))
theorem Aaa:∀ (y x m:Nat),y < m → GW m (x:Int) (y:Int) = some ((Nat.gcd x y:Nat):Int):=by
 intro y
 induction y using Nat.strongRecOn with
 | _ y ih =>
  intro x m g
  cases m with
  | zero=>omega
  | succ m =>
   rw [GW]
   by_cases h:y = 0
   ·subst h
    simp
   ·have f:((y:Int) != 0) = true:=by simp; omega
    have e:¬ (y:Int) = 0:=by omega
    rw [if_pos f,if_neg e,← Int.ofNat_tmod,ih (x % y) (Nat.mod_lt _ (by omega)) y m (by have:=Nat.mod_lt x (show 0 < y by omega); omega)]
    congr 2
    rw [Nat.gcd_comm x y,Nat.gcd_rec y x]
    exact Nat.gcd_comm _ _
theorem YX (a b:Int):∀ (y x m:Nat),y < m → 0 < Nat.gcd x y → Gx a b m (x:Int) (y:Int) = some (Ag (Int.tdiv a (Nat.gcd x y:Int)),Ag (Int.tdiv b (Nat.gcd x y:Int))):=by
 intro y
 induction y using Nat.strongRecOn with
 | _ y ih =>
  intro x m u f
  cases m with
  | zero=>omega
  | succ m =>
   rw [Gx]
   by_cases h:y = 0
   ·subst h
    have g:¬ x = 0:=by simp at f; omega
    simp [g]
   ·have s:decide (0 < (y:Int)) = true:=by simp; omega
    have l:¬ (y:Int) = 0:=by omega
    have e:Nat.gcd x y = Nat.gcd y (x % y):=by rw [Nat.gcd_comm x y,Nat.gcd_rec y x]; exact Nat.gcd_comm _ _
    rw [if_pos s,if_neg l,← Int.ofNat_tmod,ih (x % y) (Nat.mod_lt _ (by omega)) y m (by have:=Nat.mod_lt x (show 0 < y by omega); omega) (by rw [← e]; exact f),e]
theorem LB (a b:Int) (h:0 ≤ a) (m:a ≤ 4000000000000000000) (s:0 < b) (u:b ≤ 1000000000000000):FH a b = some (Ip a b):=by
 unfold FH Mo Ip
 have f:Fy a (Ag (0 - a)) = ((a.toNat:Nat):Int):=by unfold Fy; rw [A6 (by omega) (by omega)]; split <;> omega
 have g:Fy b (Ag (0 - b)) = ((b.toNat:Nat):Int):=by unfold Fy; rw [A6 (by omega) (by omega)]; split <;> omega
 rw [f,g,Aaa b.toNat a.toNat FU (D4 (by omega)),Aa]
 have l:0 < Nat.gcd a.toNat b.toNat:=Nat.gcd_pos_of_pos_right _ (by omega)
 have e:¬ ((Nat.gcd a.toNat b.toNat:Nat):Int) = 0:=by omega
 rw [if_neg e,if_neg e]
theorem RM (a b:Int) (l:0 ≤ a) (m:a ≤ 4000000000000000000) (s:0 < b) (u:b ≤ 1000000000000000):Jb a b = some (Ip a b):=by
 unfold Jb Mm Hp Ip
 have e:(if decide (Ag (0 - a) < a) = true then some a else some (Ag (0 - a))) = some ((a.toNat:Nat):Int):=by
  rw [A6 (by omega) (by omega)]
  by_cases h:0 - a < a
  ·rw [if_pos (by simp; omega)]; congr 1; omega
  ·rw [if_neg (by simp; omega)]; congr 1; omega
 have g:b = ((b.toNat:Nat):Int):=by omega
 rw [e,Aa,Aa]
 have f:0 < Nat.gcd a.toNat b.toNat:=Nat.gcd_pos_of_pos_right _ (by omega)
 have:=YX a b b.toNat a.toNat FU (D4 (by omega)) f
 rw [← g] at this
 exact this
def Ya (px py qx qy:Int):Int × Int :=
 if 0 ≤ px * (qx - px) + py * (qy - py) then (px * px + py * py,1)
 else if (qx - px) * (qx - px) + (qy - py) * (qy - py) ≤ 0 - (px * (qx - px) + py * (qy - py)) then (qx * qx + qy * qy,1)
 else Ip ((px * qy - py * qx) * (px * qy - py * qx)) ((qx - px) * (qx - px) + (qy - py) * (qy - py))
def TR (a b:FY):Int × Int:=Ya (a.1.1 - b.1.1) (a.1.2 - b.1.2) (a.2.1.1 - b.2.1.1) (a.2.1.2 - b.2.1.2)
structure InB (px py qx qy:Int):Prop where
 a1:-1280 ≤ px
 a2:px ≤ 1280
 b1:-672 ≤ py
 b2:py ≤ 672
 c1:-1280 ≤ qx
 c2:qx ≤ 1280
 d1:-672 ≤ qy
 d2:qy ≤ 672
theorem Mv {x A:Int} (h1:-A ≤ x) (e:x ≤ A):0 ≤ x * x ∧ x * x ≤ A * A:=by
 have:=Ma h1 e h1 e
 refine ⟨?_,this.2⟩
 have:(0:Int) ≤ ((x.natAbs * x.natAbs:Nat):Int):=Int.natCast_nonneg _
 rwa [Int.natAbs_mul_self] at this
structure Adx (px py qx qy:Int):Prop where
 m1:-3276800 ≤ px * (qx - px) ∧ px * (qx - px) ≤ 3276800
 m2:-903168 ≤ py * (qy - py) ∧ py * (qy - py) ≤ 903168
 m3:0 ≤ (qx - px) * (qx - px) ∧ (qx - px) * (qx - px) ≤ 6553600
 m4:0 ≤ (qy - py) * (qy - py) ∧ (qy - py) * (qy - py) ≤ 1806336
 m5:0 ≤ px * px ∧ px * px ≤ 1638400
 m6:0 ≤ py * py ∧ py * py ≤ 451584
 m7:0 ≤ qx * qx ∧ qx * qx ≤ 1638400
 m8:0 ≤ qy * qy ∧ qy * qy ≤ 451584
 m9:-860160 ≤ px * qy ∧ px * qy ≤ 860160
 m10:-860160 ≤ py * qx ∧ py * qx ≤ 860160
 m11:0 ≤ (px * qy - py * qx) * (px * qy - py * qx) ∧ (px * qy - py * qx) * (px * qy - py * qx) ≤ 2959500902400
theorem Aa3 {m s f g:Int} (h:InB m s f g):Adx m s f g:=by
 obtain ⟨v,l,u,e,c1,c2,d1,d2⟩:=h
 have m9:=Ma v l d1 d2
 have ah:=Ma u e c1 c2
 have ae:=Mv (x:=m * g - s * f) (A:=1720320) (by omega) (by omega)
 exact ⟨Ma (A:=1280) (B:=2560) v l (by omega) (by omega),Ma (A:=672) (B:=1344) u e (by omega) (by omega),Mv (A:=2560) (by omega) (by omega),Mv (A:=1344) (by omega) (by omega),Mv v l,Mv u e,Mv c1 c2,Mv d1 d2,by omega,by omega,by omega⟩
theorem inB {a b:FY} (f:CX a.1 = true) (g:CX a.2.1 = true) (h:CX b.1 = true) (e:CX b.2.1 = true):InB (a.1.1 - b.1.1) (a.1.2 - b.1.2) (a.2.1.1 - b.2.1.1) (a.2.1.2 - b.2.1.2):=by
 unfold CX at f g h e
 rw [Cg,PM,PM] at f g h e
 refine ⟨by omega,by omega,by omega,by omega,by omega,by omega,by omega,by omega⟩
theorem Tq (a b:FY) (u:CX a.1 = true) (v:CX a.2.1 = true) (m:CX b.1 = true) (l:CX b.2.1 = true):Ij a b = some (TR a b):=by
 have f:=inB u v m l
 unfold Ij Ll Ed TR
 generalize a.1.1 - b.1.1 = px at *
 generalize a.1.2 - b.1.2 = py at *
 generalize a.2.1.1 - b.2.1.1 = qx at *
 generalize a.2.1.2 - b.2.1.2 = qy at *
 obtain ⟨m1,m2,m3,m4,m5,m6,m7,m8,m9,au,ag⟩:=Aa3 f
 obtain ⟨a1,g,h,s,c1,c2,d1,d2⟩:=f
 have k:(px * (qy - py) - py * (qx - px)) = px * qy - py * qx:=by
  rw [Int.mul_sub,Int.mul_sub,Int.mul_comm px py]; omega
 have ak:=Ma (x:=px) (y:=qy - py) (A:=1280) (B:=1344) a1 g (by omega) (by omega)
 have ad:=Ma (x:=py) (y:=qx - px) (A:=672) (B:=2560) h s (by omega) (by omega)
 simp only [Aa,A6 (x:=px) (by omega) (by omega),A6 (x:=py) (by omega) (by omega),A6 (x:=qx) (by omega) (by omega),A6 (x:=qy) (by omega) (by omega),
  A6 (x:=qx - px) (by omega) (by omega),A6 (x:=qy - py) (by omega) (by omega),A6 (x:=px * (qx - px)) (by omega) (by omega),A6 (x:=py * (qy - py)) (by omega) (by omega),
  A6 (x:=px * (qx - px) + py * (qy - py)) (by omega) (by omega),A6 (x:=0 - (px * (qx - px) + py * (qy - py))) (by omega) (by omega),
  A6 (x:=(qx - px) * (qx - px)) (by omega) (by omega),A6 (x:=(qy - py) * (qy - py)) (by omega) (by omega),A6 (x:=(qx - px) * (qx - px) + (qy - py) * (qy - py)) (by omega) (by omega),
  A6 (x:=px * px) (by omega) (by omega),A6 (x:=py * py) (by omega) (by omega),A6 (x:=px * px + py * py) (by omega) (by omega),
  A6 (x:=qx * qx) (by omega) (by omega),A6 (x:=qy * qy) (by omega) (by omega),A6 (x:=qx * qx + qy * qy) (by omega) (by omega),
  A6 (x:=px * (qy - py)) (by omega) (by omega),A6 (x:=py * (qx - px)) (by omega) (by omega),k,A6 (x:=px * qy - py * qx) (by omega) (by omega),A6 (x:=(px * qy - py * qx) * (px * qy - py * qx)) (by omega) (by omega)]
 unfold Ya
 by_cases h1:0 ≤ px * (qx - px) + py * (qy - py)
 ·rw [if_pos (by simpa using h1),if_pos h1]
 ·rw [if_neg (by simpa using h1),if_neg h1]
  by_cases e:(qx - px) * (qx - px) + (qy - py) * (qy - py) ≤ 0 - (px * (qx - px) + py * (qy - py))
  ·rw [if_pos (by simpa using e),if_pos e]
  ·rw [if_neg (by simpa using e),if_neg e,LB _ _ (by omega) (by omega) (by omega) (by omega)]
   rfl
theorem VU (a b:FY) (s:CX a.1 = true) (u:CX a.2.1 = true) (m:CX b.1 = true) (l:CX b.2.1 = true):JM a b = some (TR a b):=by
 have h:=inB s u m l
 unfold JM Lk Kr TR Bk
 generalize a.1.1 - b.1.1 = px at *
 generalize a.1.2 - b.1.2 = py at *
 generalize a.2.1.1 - b.2.1.1 = qx at *
 generalize a.2.1.2 - b.2.1.2 = qy at *
 obtain ⟨m1,m2,m3,m4,m5,m6,m7,m8,m9,ax,ae⟩:=Aa3 h
 obtain ⟨a1,a2,b1,b2,v,c2,d1,d2⟩:=h
 simp only [Aa,A6 (x:=px) (by omega) (by omega),A6 (x:=py) (by omega) (by omega),A6 (x:=qx) (by omega) (by omega),A6 (x:=qy) (by omega) (by omega),
  A6 (x:=qx - px) (by omega) (by omega),A6 (x:=qy - py) (by omega) (by omega),A6 (x:=px * (qx - px)) (by omega) (by omega),A6 (x:=py * (qy - py)) (by omega) (by omega),
  A6 (x:=px * (qx - px) + py * (qy - py)) (by omega) (by omega),A6 (x:=0 - (px * (qx - px) + py * (qy - py))) (by omega) (by omega),
  A6 (x:=(qx - px) * (qx - px)) (by omega) (by omega),A6 (x:=(qy - py) * (qy - py)) (by omega) (by omega),A6 (x:=(qx - px) * (qx - px) + (qy - py) * (qy - py)) (by omega) (by omega),
  A6 (x:=px * px) (by omega) (by omega),A6 (x:=py * py) (by omega) (by omega),A6 (x:=px * px + py * py) (by omega) (by omega),
  A6 (x:=qx * qx) (by omega) (by omega),A6 (x:=qy * qy) (by omega) (by omega),A6 (x:=qx * qx + qy * qy) (by omega) (by omega),
  A6 (x:=px * qy) (by omega) (by omega),A6 (x:=py * qx) (by omega) (by omega),A6 (x:=px * qy - py * qx) (by omega) (by omega),A6 (x:=(px * qy - py * qx) * (px * qy - py * qx)) (by omega) (by omega)]
 have q1:qx * qx = px * px + 2 * (px * (qx - px)) + (qx - px) * (qx - px):=by
  have:qx * qx = (px + (qx - px)) * (px + (qx - px)):=by rw [show px + (qx - px) = qx by omega]
  rw [this,Int.add_mul,Int.mul_add,Int.mul_add,Int.mul_comm (qx - px) px]; omega
 have q2:qy * qy = py * py + 2 * (py * (qy - py)) + (qy - py) * (qy - py):=by
  have:qy * qy = (py + (qy - py)) * (py + (qy - py)):=by rw [show py + (qy - py) = qy by omega]
  rw [this,Int.add_mul,Int.mul_add,Int.mul_add,Int.mul_comm (qy - py) py]; omega
 unfold Ya EQ
 generalize hd:px * (qx - px) + py * (qy - py) = dot at *
 generalize hz:(qx - px) * (qx - px) + (qy - py) * (qy - py) = size at *
 by_cases h1:0 ≤ dot
 ·have f:0 - dot ≤ 0:=by omega
  rw [if_pos h1]
  simp only [f,decide_true,if_true,Aa]
  rw [if_neg (by simp)]
  by_cases g:px * px + py * py < qx * qx + qy * qy
  ·rw [if_pos (by simpa using g)]; rfl
  ·rw [if_neg (by simpa using g),Aa]
   have:qx * qx + qy * qy = px * px + py * py:=by omega
   rw [this]
 ·have f:¬ 0 - dot ≤ 0:=by omega
  rw [if_neg h1]
  by_cases e:size ≤ 0 - dot
  ·rw [if_pos e]
   simp only [f,e,decide_true,decide_false,Bool.false_eq_true,if_false,if_true,Aa]
   rw [if_neg (by simp),if_neg (by simp; omega)]
   rfl
  ·rw [if_neg e]
   simp only [f,e,decide_true,decide_false,Bool.false_eq_true,if_false,if_true,Aa]
   rw [if_pos (by simp; omega),RM _ _ (by omega) (by omega) (by omega) (by omega)]
   rfl
theorem ZV {β R:Type} (f:Nat → List β → Int → Ae R) (n B:Nat) (p:Nat → Bool) (g:Nat → β) (rest:List β → Ae R) (hn:n < 4611686018427387904)
  (hs:∀ m s k,k < n → s.length < B → f (m + 1) s (k:Int) = f m (if p k then s ++ [g k] else s) ((k + 1:Nat):Int)) (he:∀ m s,f (m + 1) s (n:Int) = rest s) :
  ∀ (k:Nat) (s:List β),k ≤ n → s.length + (n - k) ≤ B → f FU s (k:Int) = rest (s ++ ((List.range' k (n - k)).filter p).map g):=by
 have v:∀ d k m s,n - k = d → k ≤ n → n - k < m → s.length + (n - k) ≤ B → f m s (k:Int) = rest (s ++ ((List.range' k (n - k)).filter p).map g):=by
  intro d
  induction d with
  | zero =>
   intro k m s l h hm e
   have:k = n:=by omega
   subst this
   cases m with
   | zero=>omega
   | succ m=>rw [he]; simp
  | succ d u =>
   intro k m s l h hm e
   cases m with
   | zero=>omega
   | succ m =>
    rw [hs m s k (by omega) (by omega),l,List.range'_succ,List.filter_cons]
    cases hp:p k with
    | false =>
     simp only [Bool.false_eq_true,if_false]
     rw [u (k + 1) m s (by omega) (by omega) (by omega) (by omega),show n - (k + 1) = d by omega]
    | true =>
     simp only [if_true,List.map_cons]
     rw [u (k + 1) m (s ++ [g k]) (by omega) (by omega) (by omega) (by simp; omega),show n - (k + 1) = d by omega]
     simp
 exact fun k s h e=>v _ k FU s rfl h (D4 (by omega)) e
def Sf (u v:FY) (least:Int):Bool:=decide (Ag (Ag (least * least) * (TR u v).2) ≤ (TR u v).1)
def I8 (u:FY):Prop:=CX u.1 = true ∧ CX u.2.1 = true
theorem TV (u v:FY) (e:Int) (g:I8 u) (f:I8 v):IE u v e = some (Sf u v e):=by
 unfold IE Sf
 rw [Tq u v g.1 g.2 f.1 f.2]
 rfl
theorem Xj (u v:FY) (e:Int) (g:I8 u) (f:I8 v):Kp u v e = some (Sf u v e):=by
 unfold Kp Sf
 rw [VU u v g.1 g.2 f.1 f.2]
 rfl
theorem LO {a f e:Int}:BM a f e = true ↔ f ≤ a ∧ a ≤ e:=by simp [BM]
abbrev G7:=List (Int × Int)
abbrev Adj:=Int × (List Aj)
def G3 (u:Int × Int):Bool:=BM u.1 1 12 && BM u.2 40 220
def Gd (x:G7):Bool:=BM (x.length:Int) 1 40 && x.all G3
theorem TJ (u:Int × Int):IB u = some (G3 u):=by
 unfold IB Bk G3
 dsimp only
 rw [CU,Aa,CU,Aa]
 cases BM u.1 1 12 <;> simp
theorem RN (x:G7) (h:x.length < 4611686018427387904):Jc x = some (Gd x):=by
 unfold Jc Gd
 rw [Ny (FD x) x G3 (some (BM (x.length:Int) 1 40)) (some false) h (fun m k u f e=>?_) (fun m=>?_)]
 ·cases x.all G3 <;> simp
 ·rw [FD,if_pos (by simp; omega),AY,e,Aa,TJ,Aa,AD (by omega)]
  cases G3 u <;> simp
 ·rw [FD,if_neg (by simp),CU]
  rfl
theorem QQ (x:G7) (h:x.length < 4611686018427387904):I4 x = some (Gd x):=by
 unfold I4 Gd
 rw [Ny (Fl x) x G3 (some (BM (x.length:Int) 1 40)) (some false) h (fun m k u f e=>?_) (fun m=>?_)]
 ·cases x.all G3 <;> simp
 ·rw [Fl,if_pos (by simp; omega),AY,e,Aa]
  unfold Bk G3
  dsimp only
  rw [CT,Aa,CT,Aa,AD (by omega)]
  cases BM u.1 1 12 <;> cases BM u.2 40 220 <;> simp
 ·rw [Fl,if_neg (by simp),CT]
  rfl
def Se (x:G7):Int:=x.foldl (fun a u=>Ag (a + u.1)) 0
theorem Vm (x:G7) (h:x.length < 4611686018427387904):Jt x = some (Se x):=by
 unfold Jt Se
 rw [Wv (E9 x) x (fun a u=>Ag (a + u.1)) some h (fun m s k u f e=>?_) (fun m s=>?_)]
 ·rw [E9,if_pos (by simp; omega),AY,e,Aa,AD (by omega)]
 ·rw [E9,if_neg (by simp)]
theorem Vo (x:G7) (h:x.length < 4611686018427387904):Jx x = some (Se x):=by
 unfold Jx Se
 rw [Wv (EB x) x (fun a u=>Ag (a + u.1)) some h (fun m s k u f e=>?_) (fun m s=>?_)]
 ·rw [EB,if_pos (by simp; omega),AY,e,Aa,AD (by omega)]
 ·rw [EB,if_neg (by simp)]
theorem MS {x:G7} (h:Gd x = true):1 ≤ x.length ∧ x.length ≤ 40 ∧ x.all G3 = true:=by
 unfold Gd at h
 rw [Cg,LO] at h
 exact ⟨by omega,by omega,h.2⟩
structure CueLens (x:G7) (l:List Adj):Prop where
 hx:x.length < 4611686018427387904
 hl:l.length < 1073741824
 hn:∀ c ∈ l,c.2.length < 4611686018427387904
theorem CueLens.hl' {x:G7} {l:List Adj} (h:CueLens x l):l.length < 4611686018427387904:=by have:=h.hl; omega
theorem Y4 (x:G7):∀ (m:Nat) (a b c:Int),Gy x m a b c = Di x m a b c:=by
 intro m
 induction m with
 | zero=>intro a b c; rfl
 | succ m e =>
  intro a b c
  rw [Gy,Di]
  split
  ·cases AL x c with
   | none=>rfl
   | some u =>
    simp only [Aa,H1,e]
    by_cases h:u.2 = 0 <;> simp [h]
  ·rfl
theorem TU (x:G7) (c:Int):Ji x c = FJ x c:=by
 unfold Ji FJ
 exact Y4 x FU c 0 0
theorem Y3 (x:G7) (h:x.all G3 = true) (hl:x.length < 4611686018427387904) (c:Int):∃ t,FJ x c = some t:=by
 unfold FJ
 have g:∀ d k m (a b:Int),x.length - k = d → k ≤ x.length → x.length - k < m → ∃ t,Di x m a b (k:Int) = some t:=by
  intro d
  induction d with
  | zero =>
   intro k m a b l hk u
   cases m with
   | zero=>omega
   | succ m =>
    rw [Di,if_neg (by simp; omega)]
    exact ⟨_,rfl⟩
  | succ d v =>
   intro k m a b l hk u
   cases m with
   | zero=>omega
   | succ m =>
    have e:k < x.length:=by omega
    have f:=List.all_eq_true.1 h x[k] (List.getElem_mem e)
    unfold G3 at f
    rw [Cg,LO,LO] at f
    have s:¬ x[k].2 = 0:=by omega
    rw [Di,if_pos (by simp; omega),Jo e,Aa]
    simp only [H1,if_neg s,Aa,AD (k:=k) (by omega)]
    split
    ·exact ⟨_,rfl⟩
    ·exact v (k + 1) m _ _ (by omega) (by omega) (by omega)
 exact g _ 0 FU c 0 rfl (by omega) (D4 (by omega))
def Rq (x:G7) (c:Int):Int:=(FJ x c).getD 0
theorem OO (x:G7) (h:Gd x = true) (c:Int):FJ x c = some (Rq x c):=by
 obtain ⟨h1,g,f⟩:=MS h
 obtain ⟨t,e⟩:=Y3 x f (by omega) c
 unfold Rq
 rw [e]
 rfl
theorem Xo (x:G7) (h:Gd x = true) (c:Int):Ji x c = some (Rq x c):=by
 rw [TU,OO x h]
def rd (x c:Int):Int:=Int.tdiv (2 * x + c) (2 * c)
def KF (L:List (List Aj)):List Aj:=(L.map (· ++ [10])).flatten
theorem Ye (a:List Aj) (L:List (List Aj)):KF (a :: L) = a ++ 10 :: KF L:=by
 unfold KF
 rw [List.map_cons,List.flatten_cons,List.append_assoc]
 rfl
theorem Wy (L M:List (List Aj)):KF (L ++ M) = KF L ++ KF M:=by
 unfold KF
 rw [List.map_append,List.flatten_append]
theorem Va (B:Nat):∀ (L:List (List Aj)),(∀ a ∈ L,a.length ≤ B) → (KF L).length ≤ (B + 1) * L.length
 | [],_=>by simp [KF]
 | a :: L,h=>by
  have f:=Va B L fun b e=>h b (List.mem_cons_of_mem _ e)
  have g:=h a (by simp)
  rw [Ye,CM,List.length_cons,List.length_cons,Nat.mul_add]
  omega
theorem Acs {α:Type} (l:List α) {j k:Nat} (h:j ≤ k) (e:k ≤ l.length):sl l (j:Int) (k:Int) = some ((l.take k).drop j):=by
 unfold sl
 rw [if_pos (by omega)]
 simp
theorem Ads {α:Type} {l:List α} {k:Nat} (h:k < l.length) {e:Nat} (f:e ≤ k):l.drop e = (l.take k).drop e ++ l[k] :: l.drop (k + 1):=by
 conv=>lhs; rw [← List.take_append_drop k l]
 rw [List.drop_append_of_le_length (by simp; omega),List.drop_eq_getElem_cons h]
theorem SS (l:List Aj) (c:Aj) (hl:l.length ≤ 4194304):FN l (c.toNat:Int) = some (Da c l):=by
 unfold FN
 have ag:∀ (d k m f:Nat) (s:List (List Aj)),l.length - k = d → k ≤ l.length → d < m → f ≤ k → c ∉ (l.take k).drop f → s ++ Da c (l.drop f) = Da c l →
   Fc l (c.toNat:Int) m s (f:Int) (k:Int) = some (Da c l):=by
  have hn:(Da c l).length ≤ l.length + 1:=by
   have:=List.count_le_length (a:=c) (l:=l)
   rw [Jk]; omega
  intro d
  induction d with
  | zero =>
   intro k m f s hd hk hm v u g
   have:k = l.length:=by omega
   subst this
   have ah:s.length ≤ l.length + 1:=by rw [← g,CM] at hn; omega
   rw [List.take_length] at u
   cases m with
   | zero=>omega
   | succ m=>rw [Fc,if_neg (by simp),SY _ v,Aa,Bt (by simp; omega),Aa,← g,OJ u]
  | succ d ih =>
   intro k m f s hd hk hm v u g
   have aa:k < l.length:=by omega
   have ah:s.length ≤ l.length + 1:=by rw [← g,CM] at hn; omega
   have ab:=Ads aa v
   cases m with
   | zero=>omega
   | succ m =>
    rw [Fc,if_pos (by simp; omega)]
    unfold Gl
    dsimp only
    rw [Jo aa,Aa]
    by_cases h:l[k] = c
    ·rw [h,if_pos (by simp),Acs _ v hk,Aa,Bt (by simp; omega),Aa,AD (by omega)]
     refine ih (k + 1) m (k + 1) _ (by omega) (by omega) (by omega) (by omega) ?_ ?_
     ·rw [List.drop_eq_nil_of_le (by simp; omega)]; simp
     ·rw [h] at ab
      rw [← g,ab,OK u,List.append_assoc]
      rfl
    ·rw [if_neg (by simpa using MP h),AD (by omega)]
     refine ih (k + 1) m f s (by omega) (by omega) (by omega) (by omega) ?_ g
     rw [List.take_succ_eq_append_getElem aa,List.drop_append_of_le_length (by simp; omega),AX,not_or]
     exact ⟨u,by simpa using fun e=>h e.symm⟩
 exact ag l.length 0 FU 0 [] rfl (by omega) (D4 (by omega)) (by omega) (by simp) (by simp)
def D5 (l:List Aj):List (List Aj):=if l = [] then [] else Da 10 (l.take (l.length - 1))
theorem SR (c:Aj):∀ A:List Aj,Da c (A ++ [c]) = Da c A ++ [[]]
 | []=>by simp [Da]
 | b :: A=>by
  rw [List.cons_append,Da,Da,SR c A]
  by_cases h:b = c
  ·rw [if_pos h,if_pos h]; rfl
  ·rw [if_neg h,if_neg h]
   cases e:Da c A with
   | nil=>have:=Jk c A; rw [e] at this; simp at this
   | cons a t=>rfl
theorem RT {l:List Aj} (h:l = [] ∨ l.getLast? = some 10):Da 10 l = D5 l ++ [[]]:=by
 unfold D5
 by_cases e:l = []
 ·rw [if_pos e,e]; rfl
 ·rw [if_neg e]
  obtain ⟨b,_,m,g⟩:=TS e
  have f:b = 10:=by
   rcases h with h | h
   ·exact absurd h e
   ·rw [m] at h; exact Option.some.inj h
  subst f
  conv=>lhs; rw [g]
  exact SR 10 _
theorem PP {l:List Aj} (h:l = [] ∨ l.getLast? = some 10):(D5 l).length = PQ l:=by
 have h1:=congrArg List.length (RT h)
 rw [Jk,CM] at h1
 unfold PQ
 simpa using h1.symm
theorem Yc {l a:List Aj} (h:a ∈ D5 l):a.length ≤ l.length:=by
 have s:∀ (m:List Aj),∀ b ∈ Da 10 m,b.length ≤ m.length:=by
  intro m
  induction m with
  | nil=>intro b e; simp [Da] at e; simp [e]
  | cons x m f =>
   intro b e
   rw [Da] at e
   split at e
   ·rcases List.mem_cons.1 e with rfl | e
    ·simp
    ·have:=f b e; simp; omega
   ·cases g:Da 10 m with
    | nil=>have:=Jk 10 m; rw [g] at this; simp at this
    | cons a t =>
     rw [g] at e f
     rcases List.mem_cons.1 e with rfl | e
     ·have:=f a (List.mem_cons_self ..); simp; omega
     ·have:=f b (List.mem_cons_of_mem _ e); simp; omega
 unfold D5 at h
 split at h
 ·cases h
 ·have:=s _ a h
  simp at this
  omega
def N6 (l:List Aj):List (List Aj) × Bool:=if GP l = true then (D5 l,true) else ([],false)
theorem GO {l:List Aj}:GP l = true ↔ l.length ≤ 2000 ∧ (l = [] ∨ l.getLast? = some 10) ∧ PQ l ≤ 40:=by
 unfold GP
 simp [and_assoc]
theorem Yk (l:List Aj) (hl:l.length ≤ 4194304):JI l = some (N6 l):=by
 unfold JI Bk N6
 dsimp only
 by_cases h1:l.length ≤ 2000
 ·rw [if_neg (by simp; omega)]
  have v (e:l = [] ∨ l.getLast? = some 10):(Option.bind (FN l 10) fun s=>Option.bind (sl s 0 (Ag ((List.length s:Int) - 1))) fun m=>(if (decide (40 < (List.length m:Int))) = true then some (([]:List (List Aj)),false) else some (m,true))) = some (if GP l = true then (D5 l,true) else ([],false)):=by
   have hs:FN l 10 = some (Da 10 l):=SS l 10 hl
   have hc:PQ l ≤ l.length:=List.count_le_length
   have hL:=PP e
   rw [hs,Aa,RT e,CM,List.length_singleton,A6 (by omega) (by omega),show (((D5 l).length + 1:Nat):Int) - 1 = ((D5 l).length:Int) by omega,Tn _ (by simp),Aa,List.take_left']
   ·by_cases u:PQ l ≤ 40
    ·rw [if_neg (by simp; omega),if_pos (GO.2 ⟨h1,e,u⟩)]
    ·rw [if_pos (by simp; omega),if_neg (fun h=>u (GO.1 h).2.2)]
   ·rfl
  by_cases e:l = []
  ·rw [if_neg (by simp [e]),if_neg (by simp)]
   exact v (.inl e)
  ·obtain ⟨b,hb,g,_⟩:=TS e
   rw [if_pos (by simp [e]),A6 (by omega) (by omega),hb,Aa]
   by_cases f:b = 10
   ·subst f
    rw [if_neg (by decide)]
    exact v (.inr g)
   ·have ac:((b.toNat:Nat):Int) ≠ 10:=MP (c:=10) f
    rw [if_pos (by simpa using ac),if_neg (fun h=>?_)]
    rcases (GO.1 h).2.1 with h | h
    ·exact e h
    ·rw [g] at h; exact f (Option.some.inj h)
 ·rw [if_pos (by simp; omega),if_pos rfl,if_neg (fun h=>h1 (GO.1 h).1)]
theorem Yb (l:List Aj) (v:l.length ≤ 4194304):JR l = some (if l = [] ∨ l.getLast? = some 10 then (D5 l,true) else ([],false)):=by
 unfold JR D5
 by_cases e:l = []
 ·rw [if_pos (by simp [e]),if_pos (.inl e),if_pos e]
 ·obtain ⟨b,u,g,hd⟩:=TS e
  have ab:0 < l.length:=List.length_pos_iff.2 e
  rw [if_neg (by simpa using e),A6 (by omega) (by omega),u,Aa,if_neg e]
  by_cases f:b = 10
  ·subst f
   have m:FZ (l.take (l.length - 1)) [10] = some (Da 10 (l.take (l.length - 1))):=X2 _ 10 (by simp; omega)
   rw [if_neg (by decide),show (l.length:Int) - 1 = ((l.length - 1:Nat):Int) by omega,Tn _ (by omega),Aa,m,Aa,if_pos (.inr g)]
  ·have s:((b.toNat:Nat):Int) ≠ 10:=MP (c:=10) f
   rw [if_pos (by simpa using s),if_neg]
   rintro (h | h)
   ·exact e h
   ·rw [g] at h; exact f (Option.some.inj h)
theorem TN (l:List Aj) (g:l.length ≤ 4194304):HH l = some (N6 l):=by
 unfold HH Bk N6
 rw [Yb l g,Aa]
 by_cases e:l = [] ∨ l.getLast? = some 10
 ·rw [if_pos e]
  dsimp only
  rw [if_neg (by simp)]
  have m:=PP e
  by_cases h1:l.length ≤ 2000
  ·rw [if_neg (by simp; omega)]
   by_cases f:PQ l ≤ 40
   ·rw [if_neg (by simp; omega),if_pos (GO.2 ⟨h1,e,f⟩)]
   ·rw [if_pos (by simp; omega),if_neg (fun h=>f (GO.1 h).2.2)]
  ·rw [if_pos (by simp; omega),if_pos rfl,if_neg (fun h=>h1 (GO.1 h).1)]
 ·rw [if_neg e]
  dsimp only
  rw [if_pos (by simp),if_pos rfl,if_neg (fun h=>e (GO.1 h).2.1)]
def Le (l:List Aj):Int:=if l = [] ∨ 6 < l.length ∨ (1 < l.length ∧ l[0]? = some 48) then -1 else if l.all Hv then OS l else -1
theorem YN (l:List Aj) (h9:l.length ≤ 6):∀ (d i m:Nat) (n:Int),l.length - i = d → i ≤ l.length → d < m → 0 ≤ n → n < 10 ^ i →
  FE l m n (i:Int) = some (if (l.drop i).all Hv then (l.drop i).foldl (fun a b=>10 * a + ((b.toNat:Int) - 48)) n else -1):=by
 intro d
 induction d with
 | zero =>
  intro i m n h hi u f h1
  have:i = l.length:=by omega
  subst this
  cases m with
  | zero=>omega
  | succ m =>
   rw [FE,if_neg (by simp),List.drop_length]
   rfl
 | succ d ih =>
  intro i m n h hi u f h1
  cases m with
  | zero=>omega
  | succ m =>
   have g:i < l.length:=by omega
   have hb:=W5 (l.drop i) n i f h1 (by simp; omega)
   rw [FE,if_pos (by simp; omega)]
   unfold Bk
   dsimp only
   rw [Jo g,Aa,Aa]
   rw [List.drop_eq_getElem_cons g,List.all_cons,List.foldl_cons]
   by_cases e:Hv l[i] = true
   ·have s:=Kb.1 e
    rw [if_neg (by simp; omega),Aa,if_neg (by simp; omega),e,Bool.true_and,UL e,A6 (x:=10 * n) (by omega) (by omega),A6 (x:=10 * n + _) (by omega) (by omega),AD (by omega)]
    refine ih (i + 1) m _ (by omega) (by omega) (by omega) (by omega) ?_
    rw [Int.pow_succ]
    omega
   ·have s:¬ (48 ≤ l[i].toNat ∧ l[i].toNat ≤ 57):=fun x=>e (Kb.2 x)
    have v:Hv l[i] = false:=by simpa using e
    rw [v,Bool.false_and,if_neg (c:=false = true) (by simp)]
    by_cases ac:l[i].toNat < 48
    ·rw [if_pos (by simp; omega),if_pos rfl]
    ·rw [if_neg (by simp; omega),Aa,if_pos (by simp; omega)]
theorem Zj (l:List Aj) (h:l.length < 4611686018427387904):Kn l = some (Le l):=by
 unfold Kn Le Bk
 dsimp only
 rw [CU,Aa]
 by_cases f:l = []
 ·rw [if_pos (by simp [f,BM]),if_pos rfl,if_pos (Or.inl f)]
 ·have v:0 < l.length:=List.length_pos_iff.2 f
  by_cases u:6 < l.length
  ·have e:BM (l.length:Int) 1 6 = false:=by rw [← Bool.not_eq_true,D9]; omega
   rw [e,if_pos (c:=(!false) = true) rfl,if_pos rfl,if_pos (Or.inr (Or.inl u))]
  ·have e:BM (l.length:Int) 1 6 = true:=by rw [D9]; omega
   rw [e,if_neg (by simp),Ss,Cp v,Aa]
   have s:=YN l (by omega) l.length 0 FU 0 rfl (by omega) (D4 (by omega)) (by omega) (by simp)
   rw [show ((0:Nat):Int) = 0 by rfl] at s
   by_cases m:l[0] = 48
   ·rw [m,if_pos (by decide)]
    by_cases h1:1 < l.length
    ·rw [if_pos (by simp; omega),if_pos (Or.inr (Or.inr ⟨h1,rfl⟩))]
    ·have g:¬ (l = [] ∨ 6 < l.length ∨ (1 < l.length ∧ some (48:Aj) = some 48)):=by
      rintro (e | e | ⟨e,_⟩)
      ·exact f e
      ·exact u e
      ·exact h1 e
     rw [if_neg (by simp; omega),s,if_neg g]
     rfl
   ·have:((l[0].toNat:Int) == 48) = false:=by
     rw [beq_eq_false_iff_ne]
     exact MP (c:=48) m
    have g:¬ (l = [] ∨ 6 < l.length ∨ (1 < l.length ∧ some l[0] = some 48)):=by
     rintro (e | e | ⟨_,e⟩)
     ·exact f e
     ·exact u e
     ·exact m (Option.some.inj e)
    rw [this,if_neg (by simp),if_neg (by simp),s,if_neg g]
    rfl
theorem X9:∀ (l:List Aj) (a:Int),(∀ b ∈ l,Hv b = true) → 0 ≤ a → a * (10:Int) ^ l.length ≤ l.foldl (fun a b=>10 * a + ((b.toNat:Int) - 48)) a
 | [],a,_,_=>by simp
 | b :: l,a,h,h0=>by
  have g:=Kb.1 (h b (List.mem_cons_self ..))
  have f:=X9 l (10 * a + ((b.toNat:Int) - 48)) (fun x e=>h x (List.mem_cons_of_mem _ e)) (by omega)
  rw [List.foldl_cons,List.length_cons]
  refine Int.le_trans ?_ f
  rw [Int.pow_succ,Int.mul_comm ((10:Int) ^ l.length) 10,← Int.mul_assoc,Int.mul_comm a 10]
  exact Int.mul_le_mul_of_nonneg_right (by omega) (Int.pow_nonneg (by omega))
def Pn (l:List Aj):Ae Int:=if BM (Le l) 0 99999 = true then some (Le l) else none
theorem Xn {l:List Aj} (h:BM (Le l) 0 99999 = true):LZ l = (Le l,true) ∧ Le l ≤ 99999:=by
 have f:=D9.1 h
 refine ⟨?_,f.2⟩
 unfold LZ
 unfold Le at f ⊢
 split at f
 ·omega
 ·rename_i e
  rw [not_or,not_or] at e
  split at f
  ·rename_i g
   rw [if_neg (by rw [not_or,not_or]; exact ⟨e.1,by omega,e.2.2⟩),if_pos g,if_neg (by rw [not_or,not_or]; exact e),if_pos g]
  ·omega
theorem Wn {l:List Aj} (h:BM (Le l) 0 99999 = false):(LZ l).2 = false ∨ 99999 < (LZ l).1:=by
 unfold LZ
 split
 ·exact .inl rfl
 ·rename_i g
  rw [not_or,not_or] at g
  split
  ·rename_i v
   right
   show 99999 < OS l
   have m:∀ b ∈ l,Hv b = true:=List.all_eq_true.1 v
   by_cases s:6 < l.length
   ·cases l with
    | nil=>exact absurd rfl g.1
    | cons b t =>
     have hb:=Kb.1 (m b (List.mem_cons_self ..))
     have ab:b ≠ 48:=fun e=>g.2.2 ⟨by omega,by rw [e]; rfl⟩
     have ah:49 ≤ b.toNat:=by
      rcases Nat.lt_or_ge b.toNat 49 with f | f
      ·exact absurd (UInt8.toNat_inj.1 (show b.toNat = (48:Aj).toNat by show b.toNat = 48; omega)) ab
      ·exact f
     have hl:=X9 t (10 * 0 + ((b.toNat:Int) - 48)) (fun x hx=>m x (List.mem_cons_of_mem _ hx)) (by omega)
     unfold OS
     rw [List.foldl_cons]
     refine Int.lt_of_lt_of_le ?_ hl
     have hp:(10:Int) ^ 6 ≤ (10:Int) ^ t.length:=by
      have h2:(10:Nat) ^ 6 ≤ 10 ^ t.length:=Nat.pow_le_pow_right (by omega) (by simp at s; omega)
      have u:=Int.ofNat_le.2 h2
      rw [Int.natCast_pow,Int.natCast_pow] at u
      exact u
     have e6:(10:Int) ^ 6 = 1000000:=by decide
     have hm:1 * (10:Int) ^ t.length ≤ (10 * 0 + ((b.toNat:Int) - 48)) * (10:Int) ^ t.length:=Int.mul_le_mul_of_nonneg_right (by omega) (by omega)
     omega
   ·have e:Le l = OS l:=by
     unfold Le
     rw [if_neg (by rw [not_or,not_or]; exact ⟨g.1,s,g.2.2⟩),if_pos v]
    have h0:=(Zc l 0 m (by omega)).1
    rw [e] at h
    rcases Int.lt_or_le 99999 (OS l) with f | f
    ·exact f
    ·rw [show BM (OS l) 0 99999 = true from D9.2 ⟨h0,f⟩] at h; cases h
  ·exact .inl rfl
def IU {α β:Type} (g:α → Ae β):List α → Ae (List β)
 | []=>some []
 | x :: t=>(g x).bind fun y=>(IU g t).map (y :: ·)
theorem Wu {α β:Type} {g:α → Ae β}:∀ {l:List α} {m:List β},IU g l = some m → m.length = l.length
 | [],m,h=>by cases h; rfl
 | x :: t,m,h=>by
  rw [IU,Option.bind_eq_some_iff] at h
  obtain ⟨y,_,h⟩:=h
  rw [Option.map_eq_some_iff] at h
  obtain ⟨f,e,rfl⟩:=h
  simp [Wu e]
theorem Wt {α β:Type} {g:α → Ae β} {p:β → Prop} (f:∀ x y,g x = some y → p y):∀ {l:List α} {m:List β},IU g l = some m → ∀ y ∈ m,p y
 | [],m,h,y,e=>by cases h; cases e
 | x :: t,m,h,y,e=>by
  rw [IU,Option.bind_eq_some_iff] at h
  obtain ⟨z,u,h⟩:=h
  rw [Option.map_eq_some_iff] at h
  obtain ⟨v,s,rfl⟩:=h
  rcases List.mem_cons.1 e with rfl | e
  ·exact f _ _ u
  ·exact Wt f s y e
theorem VB {α β R:Type} (f:Nat → List β → Int → Ae R) (l:List α) (g:α → Ae β) (rest:List β → Ae R) (u:Ae R) (hn:l.length < 4611686018427387904)
  (hs:∀ (m k:Nat) e x,l[k]? = some x → e.length = k → f (m + 1) e (k:Int) = match g x with
   | none=>u
   | some y=>f m (e ++ [y]) ((k + 1:Nat):Int))
  (he:∀ m e,e.length = l.length → f (m + 1) e (l.length:Int) = rest e):f FU [] 0 = match IU g l with
   | none=>u
   | some s=>rest s:=by
 have aa:∀ d k m e,l.length - k = d → k ≤ l.length → d < m → e.length = k → f m e (k:Int) = match IU g (l.drop k) with
   | none=>u
   | some s=>rest (e ++ s):=by
  intro d
  induction d with
  | zero =>
   intro k m e hd hk hm h
   have:k = l.length:=by omega
   subst this
   cases m with
   | zero=>omega
   | succ m=>rw [he m e h,List.drop_length,IU]; simp
  | succ d ih =>
   intro k m e hd hk hm h
   have v:k < l.length:=by omega
   cases m with
   | zero=>omega
   | succ m =>
    rw [hs m k e l[k] (Cp v) h,List.drop_eq_getElem_cons v,IU]
    cases hg:g l[k] with
    | none=>rfl
    | some y =>
     dsimp only
     rw [ih (k + 1) m _ (by omega) (by omega) (by omega) (by simp [h]),Aa]
     cases IU g (l.drop (k + 1)) with
     | none=>rfl
     | some s=>simp
 have:=aa l.length 0 FU [] rfl (by omega) (D4 hn) rfl
 simpa using this
def Pa (w:List Aj):Int:=(G9 w).getD 0
theorem Ac5 {R:Type} {c:Prop} [Decidable c] {a b:Ae R} (e:∃ n,a = some n) (f:∃ n,b = some n):∃ n,(if c then a else b) = some n:=by
 split
 ·exact e
 ·exact f
theorem Ac4 {A R:Type} {rest:A → Ae R} {e:(A → Ae R) → Ae R} (h:∀ y,∃ n,rest y = some n) (f:∀ k,(∀ y,∃ n,k y = some n) → ∃ n,e k = some n):∃ n,Bk rest e = some n:=f rest h
theorem Tv (w:List Aj):G9 w = some (Pa w):=by
 have:∃ n,G9 w = some n:=by
  unfold G9
  repeat' first
   | refine Ac5 ?_ ?_
   | exact e _
   | refine Ac4 (fun y=>?_) (fun k e=>?_)
   | exact ⟨_,rfl⟩
 obtain ⟨n,h⟩:=this
 unfold Pa
 rw [h]
 rfl
theorem TG (w:List Aj):Jw w = some (Pa w):=Tv w
def SK:List Aj:=[115,112,111,116]
def Q5:List Aj:=[112,108,97,99,101]
def Pi:List Aj:=[109,105,114,114,111,114]
def SM:List Aj:=[107,101,101,112]
def Pj:List Aj:=[99,111,117,110,116,115]
def NH:List Aj:=[109,101,97,115,117,114,101]
def Q8:List Aj:=[99,97,114,114,121]
def NF:List Aj:=[118,101,114,115,105,111,110]
def VK:List Aj:=[115,117,109]
def Q7:List Aj:=[99,108,111,115,101]
def SL:List Aj:=[107,105,110,100]
def Q6:List Aj:=[108,101,97,115,116]
def SI:List Aj:=[116,105,109,101]
def VJ:List Aj:=[119,104,111]
def Q4:List Aj:=[115,116,97,116,101]
def SJ:List Aj:=[116,101,120,116]
def NG:List Aj:=[115,111,117,110,100]
def IW:List (List Aj):=[SK,Q5,Pi,SM,Pj]
def Pb:List (List Aj):=[NH,Q8,NF]
def LI:List (List Aj):=[VK,Q7,SL,Q6,SI,VJ,Q4,SJ,NG]
theorem ZX {w:List Aj} (h:Pa w ≠ -1):w ∈ IW ++ Pb ++ LI:=by
 refine Classical.byContradiction fun f=>h ?_
 simp only [IW,Pb,LI,SK,Q5,Pi,SM,Pj,NH,Q8,NF,VK,Q7,SL,Q6,SI,VJ,Q4,SJ,NG,List.cons_append,List.nil_append,List.mem_cons,List.not_mem_nil,or_false,not_or] at f
 obtain ⟨h1,m,h3,g,h5,u,h7,h8,h9,l,s,ag,aa,aj,v,ac,ah⟩:=f
 have e {a:List Aj} (h:¬ w = a):(w == a) = false:=beq_eq_false_iff_ne.2 h
 unfold Pa G9 Bk
 rw [e h1,e m,e h3,e g,e h5,e u,e h7,e h8,e h9,e l,e s,e ag,e aa,e aj,e v,e ac,e ah]
 rfl
theorem I7 {l:List (Int × Int)}:Cv l = true ↔ (1 ≤ l.length ∧ l.length ≤ 12) ∧ (∀ s ∈ l,CX s = true) ∧ l.Nodup:=by
 unfold Cv
 rw [Cg,D9,List.all_eq_true]
 constructor
 ·rintro ⟨h1,f⟩
  refine ⟨by omega,fun s hs=>?_,?_⟩
  ·obtain ⟨k,h⟩:=List.getElem?_of_mem hs
   have:=f k (List.mem_range.2 (List.getElem?_eq_some_iff.1 h).1)
   rw [NZ h,Cg] at this
   exact this.1
  ·rw [List.nodup_iff_pairwise_ne,List.pairwise_iff_getElem]
   intro i j hi v ad e
   have:=f j (List.mem_range.2 v)
   rw [NZ (Cp v),Cg,List.all_eq_true] at this
   have g:=this.2 l[i] (List.mem_take_iff_getElem.2 ⟨i,by omega,rfl⟩)
   simp [e] at g
 ·rintro ⟨h1,f,g⟩
  refine ⟨by omega,fun k h=>?_⟩
  have m:=List.mem_range.1 h
  rw [NZ (Cp m),Cg,List.all_eq_true]
  refine ⟨f _ (List.getElem_mem m),fun u hu=>?_⟩
  obtain ⟨i,hi,rfl⟩:=List.mem_take_iff_getElem.1 hu
  rw [List.nodup_iff_pairwise_ne,List.pairwise_iff_getElem] at g
  have:=g i k (by omega) m (by omega)
  simpa using fun e=>this e.symm
theorem CY {l:List (Int × Int)} (h:Cv l = true):1 ≤ l.length ∧ l.length ≤ 12:=(I7.1 h).1
def Pw (l:List (Int × Int)):List (Int × Int) × Bool:=if Cv l = true then (l,true) else ([],false)
theorem UO (l:List (Int × Int)) (e:l.length < 4611686018427387904):Hf l = some (Pw l):=by
 unfold Hf Pw
 rw [J1 l e,Aa]
 cases Cv l <;> rfl
theorem RU (l:List (Int × Int)) (e:l.length < 4611686018427387904):Gi l = some (Pw l):=by
 unfold Gi Pw
 rw [GQ l e,Aa]
 cases Cv l <;> rfl
def MZ (s:Int × Int):Int × Int:=(1280 - s.1,s.2)
theorem Acp {l:List (Int × Int)} (h:Cv l = true):Cv (l.map MZ) = true:=by
 obtain ⟨h1,g,f⟩:=I7.1 h
 refine I7.2 ⟨by simpa using h1,fun s m=>?_,?_⟩
 ·obtain ⟨u,v,rfl⟩:=List.mem_map.1 m
  have:=FM.1 (g u v)
  exact FM.2 ⟨by unfold MZ; dsimp only; omega,this.2⟩
 ·rw [List.nodup_iff_pairwise_ne,List.pairwise_map]
  rw [List.nodup_iff_pairwise_ne] at f
  refine f.imp fun {a b} hab e=>hab ?_
  obtain ⟨a1,a2⟩:=a
  obtain ⟨b1,b2⟩:=b
  simp only [MZ,Prod.mk.injEq] at e ⊢
  omega
theorem Si {l:List (Int × Int)} (h:Cv l = true):HG l = some (l.map MZ,true):=by
 obtain ⟨h1,f,v⟩:=I7.1 h
 unfold HG
 rw [J1 l (by omega),Aa,h,if_neg (by simp)]
 rw [VB (DK l) l (fun s=>if CX s = true then some (MZ s) else none) (fun m=>some (m,true)) none (by omega) (fun m k aa x g u=>?_) (fun m aa u=>?_)]
 ·have:IU (fun s=>if CX s = true then some (MZ s) else none) l = some (l.map MZ):=by
   clear h h1 v
   induction l with
   | nil=>rfl
   | cons a t ih=>rw [IU,if_pos (f a (List.mem_cons_self ..)),Aa,ih (fun s e=>f s (List.mem_cons_of_mem _ e))]; rfl
  rw [this]
 ·have hk:=(List.getElem?_eq_some_iff.1 g).1
  have e:=f x (List.mem_of_getElem? g)
  have ad:=FM.1 e
  rw [DK,if_pos (by simp; omega),AY,g,Aa,if_pos e]
  unfold KG
  rw [Aa,Bt (by simp; omega),Aa,AD (by omega),A6 (by omega) (by omega)]
  rfl
 ·rw [DK,if_neg (by simp)]
theorem Sr {l:List (Int × Int)} (h:Cv l = true):HL l = some (l.map MZ,true):=by
 obtain ⟨h1,f,v⟩:=I7.1 h
 unfold HL
 rw [GQ l (by omega),Aa,h,if_neg (by simp)]
 rw [VB (DR l) l (fun s=>if CX s = true then some (MZ s) else none) (fun m=>some (m,true)) none (by omega) (fun m k aa x g u=>?_) (fun m aa u=>?_)]
 ·have:IU (fun s=>if CX s = true then some (MZ s) else none) l = some (l.map MZ):=by
   clear h h1 v
   induction l with
   | nil=>rfl
   | cons a t ih=>rw [IU,if_pos (f a (List.mem_cons_self ..)),Aa,ih (fun s e=>f s (List.mem_cons_of_mem _ e))]; rfl
  rw [this]
 ·have hk:=(List.getElem?_eq_some_iff.1 g).1
  have e:=f x (List.mem_of_getElem? g)
  have ad:=FM.1 e
  rw [DR,if_pos (by simp; omega),AY,g,Aa,if_pos e]
  rw [Bt (by simp; omega),Aa,AD (by omega),A6 (by omega) (by omega)]
  rfl
 ·rw [DR,if_neg (by simp)]
def Lw (l:List (Int × Int)) (p:Int) (s:Int × Int):List (Int × Int) × Bool:=if BM p 0 ((l.length:Int) - 1) = true then Pw (BD l p s) else ([],false)
theorem Qt {l:List (Int × Int)} (h:Cv l = true) (p:Int) (s:Int × Int):GC l p s = some (Lw l p s):=by
 have m:=CY h
 unfold GC Mn Bk Gm Lw
 dsimp only
 rw [J1 l (by omega),h,Aa,if_pos rfl,CU,A6 (by omega) (by omega),Aa,Aa]
 cases f:BM p 0 ((l.length:Int) - 1) with
 | false=>rfl
 | true =>
  have e:=D9.1 f
  have g:p.toNat < l.length:=by omega
  rw [if_neg (by simp),Bt (by simp; omega),Aa,Aa,List.nil_append,Iv e.1,Cp g,Aa,UO _ (by unfold BD; simp; omega),Aa,if_pos rfl]
theorem Abw {l:List (Int × Int)} {p:Int} {s:Int × Int} (f:p.toNat < l.length) (e:CX s = false):Pw (BD l p s) = ([],false):=by
 unfold Pw BD
 rw [if_neg]
 intro h
 have:=(I7.1 h).2.1 s (List.mem_iff_getElem.2 ⟨p.toNat,by simpa using f,by simp⟩)
 rw [e] at this
 cases this
theorem Qu {l:List (Int × Int)} (h:Cv l = true) (p:Int) (s:Int × Int):GD l p s = some (Lw l p s):=by
 have u:=CY h
 unfold GD Bk Lw
 dsimp only
 rw [GQ l (by omega),h,Aa,if_neg (by simp),CT,A6 (by omega) (by omega),Aa,Ly]
 cases m:BM p 0 ((l.length:Int) - 1) with
 | false=>rfl
 | true =>
  have f:=D9.1 m
  have e:p.toNat < l.length:=by omega
  rw [if_neg (by simp),Aa,if_pos rfl]
  cases g:CX s with
  | false=>rw [Abw e g]; rfl
  | true=>rw [if_neg (by simp),Bt (by simp; omega),Aa,List.nil_append,Iv f.1,Cp e,Aa,RU _ (by unfold BD; simp; omega),Aa]
theorem EN {x:Int} (h1:0 ≤ x) (e:x < 18446744073709551616):Bh x = x:=by
 unfold Bh IntKind.wrap
 simp only [IntKind.bits,IntKind.signed]
 simp only [ge_iff_le,Bool.false_and,Bool.false_eq_true,if_false]
 omega
theorem Z4 (x:Int):Bh x = x % 18446744073709551616:=by
 unfold Bh IntKind.wrap
 simp only [IntKind.bits,IntKind.signed]
 simp only [ge_iff_le,Bool.false_and,Bool.false_eq_true,if_false]
 omega
theorem SX (n:Nat):Bs .u64 (n:Int) 32 = ((n / 4294967296:Nat):Int):=by
 unfold Bs
 have e:(2:Int) ^ (min (32:Int).toNat IntKind.u64.bits) = 4294967296:=by decide
 rw [e,Int.fdiv_eq_ediv_of_nonneg _ (by decide)]
 omega
theorem Yx (n:Nat) (h:n < 18446744073709551616):B3 .u64 (n:Int) 4294967295 = ((n % 4294967296:Nat):Int):=by
 have e:BitVec.ofInt 64 (n:Int) = BitVec.ofNat 64 n:=BitVec.ofInt_natCast ..
 have g:BitVec.ofInt 64 4294967295 = BitVec.ofNat 64 4294967295:=rfl
 have f:(BitVec.ofNat 64 n &&& BitVec.ofNat 64 4294967295).toNat = n % 4294967296:=by
  rw [BitVec.toNat_and,BitVec.toNat_ofNat,BitVec.toNat_ofNat,Nat.mod_eq_of_lt (show n < 2 ^ 64 by omega),Nat.mod_eq_of_lt (show 4294967295 < 2 ^ 64 by omega)]
  exact Nat.and_two_pow_sub_one_eq_mod n 32
 show Bh ((BitVec.ofInt 64 (n:Int) &&& BitVec.ofInt 64 4294967295).toNat:Int) = _
 rw [e,g,f,EN (by omega) (by omega)]
theorem Tz (x y:Nat) (e:x < 18446744073709551616) (f:y < 18446744073709551616):JU (x:Int) (y:Int) = some (((x * y / 18446744073709551616:Nat):Int),((x * y % 18446744073709551616:Nat):Int)):=by
 obtain ⟨h1,g,s,h⟩:=Go.Lib.mul64_hi x y e f
 have v:x * y / 18446744073709551616 < 18446744073709551616:=by
  have:x * y < 18446744073709551616 * 18446744073709551616:=Nat.mul_lt_mul'' e f
  omega
 unfold JU
 rw [SX,SX,Yx x e,Yx y f]
 simp only [← Int.natCast_mul,EN (x:=((x % 4294967296 * (y % 4294967296):Nat):Int)) (by omega) (by omega),SX]
 have m:=Go.Lib.half_mul_le (a:=x / 4294967296) (b:=y / 4294967296) (by omega) (by omega)
 have u:=Go.Lib.half_mul_le (a:=x / 4294967296) (b:=y % 4294967296) (by omega) (by omega)
 have l:=Go.Lib.half_mul_le (a:=x % 4294967296) (b:=y / 4294967296) (by omega) (by omega)
 rw [Z4 ((x * y:Nat):Int)]
 generalize (x / 4294967296) * (y / 4294967296) = A at *
 generalize (x / 4294967296) * (y % 4294967296) = B at *
 generalize (x % 4294967296) * (y / 4294967296) = C at *
 generalize (x % 4294967296) * (y % 4294967296) = D at *
 rw [EN (x:=(A:Int)) (by omega) (by omega),EN (x:=(B:Int)) (by omega) (by omega),EN (x:=(C:Int)) (by omega) (by omega)]
 simp only [← Int.natCast_add]
 rw [EN (x:=((B + D / 4294967296:Nat):Int)) (by omega) (by omega),SX,Yx _ g]
 simp only [← Int.natCast_add]
 rw [EN (x:=(((B + D / 4294967296) % 4294967296 + C:Nat):Int)) (by omega) (by omega),SX,EN (x:=((A + (B + D / 4294967296) / 4294967296:Nat):Int)) (by omega) (by omega)]
 simp only [← Int.natCast_add]
 rw [EN (by omega) (by omega)]
 congr 2
 omega
theorem Ac8 (P Q:Nat):(if decide (((P / 18446744073709551616:Nat):Int) < ((Q / 18446744073709551616:Nat):Int)) = true then some true
  else if (((P / 18446744073709551616:Nat):Int) == ((Q / 18446744073709551616:Nat):Int)) = true then some (decide (((P % 18446744073709551616:Nat):Int) < ((Q % 18446744073709551616:Nat):Int))) else some false) = some (decide ((P:Int) < (Q:Int))):=by
 by_cases h1:P / 18446744073709551616 < Q / 18446744073709551616
 ·rw [if_pos (by simp; omega)]
  congr 1
  symm
  simp
  omega
 ·rw [if_neg (by simp; omega)]
  by_cases e:P / 18446744073709551616 = Q / 18446744073709551616
  ·rw [if_pos (by simp; omega)]
   congr 1
   rw [Bool.eq_iff_iff]
   simp
   omega
  ·rw [if_neg (by simp; omega)]
   congr 1
   symm
   simp
   omega
def R0 (a b c d:Int):Bool:=decide (a * d < c * b)
theorem R6 (a b c d:Int) (f:0 ≤ a) (m:a < 18446744073709551616) (h:0 ≤ b) (l:b < 18446744073709551616) (e:0 ≤ c) (s:c < 18446744073709551616) (g:0 ≤ d) (u:d < 18446744073709551616) :
  Fo a b c d = some (R0 a b c d):=by
 obtain ⟨a,rfl⟩:=Int.eq_ofNat_of_zero_le f
 obtain ⟨b,rfl⟩:=Int.eq_ofNat_of_zero_le h
 obtain ⟨c,rfl⟩:=Int.eq_ofNat_of_zero_le e
 obtain ⟨d,rfl⟩:=Int.eq_ofNat_of_zero_le g
 unfold Fo Bk R0
 rw [EN f m,EN g u,EN e s,EN h l,Tz a d (by omega) (by omega),Aa,Tz c b (by omega) (by omega),Aa]
 simp only [← Int.natCast_mul]
 exact Ac8 _ _
theorem Xk (a b c d:Int) (m:0 ≤ a) (aw:a ≤ 4000000000000000000) (g:0 < b) (ah:b ≤ 3000000000) (l:0 ≤ c) (aq:c ≤ 4000000000000000000) (e:0 < d) (ai:d ≤ 3000000000) :
  Kq a b c d = some (R0 a b c d):=by
 have u:¬ b = 0:=by omega
 have f:¬ d = 0:=by omega
 unfold Kq R0
 rw [if_neg u,if_neg f,if_neg u,if_neg f,if_neg u,if_neg f,Int.tdiv_eq_ediv_of_nonneg m,Int.tdiv_eq_ediv_of_nonneg l,Int.tmod_eq_emod_of_nonneg m,Int.tmod_eq_emod_of_nonneg l]
 have e1:=Int.emod_add_mul_ediv a b
 have e2:=Int.emod_add_mul_ediv c d
 have r1:=Int.emod_nonneg a u
 have r2:=Int.emod_lt_of_pos a g
 have r3:=Int.emod_nonneg c f
 have r4:=Int.emod_lt_of_pos c e
 have q1:=Int.ediv_nonneg m (Int.le_of_lt g)
 have q2:=Int.ediv_nonneg l (Int.le_of_lt e)
 have q3:a / b ≤ a:=Int.ediv_le_self _ m
 have q4:c / d ≤ c:=Int.ediv_le_self _ l
 generalize a / b = p at *
 generalize c / d = q at *
 generalize a % b = r at *
 generalize c % d = s at *
 have hP:0 < b * d:=Int.mul_pos g e
 have ax:b * d ≤ 3000000000 * 3000000000:=Int.mul_le_mul ah ai (by omega) (by omega)
 have f1:a * d = r * d + b * d * p:=by rw [← e1,Int.add_mul,Int.mul_assoc,Int.mul_assoc,Int.mul_comm p d]
 have f2:c * b = s * b + b * d * q:=by rw [← e2,Int.add_mul,Int.mul_comm b d,Int.mul_assoc,Int.mul_assoc,Int.mul_comm q b]
 have g1:0 ≤ r * d:=Int.mul_nonneg r1 (by omega)
 have g2:r * d < b * d:=Int.mul_lt_mul_of_pos_right r2 e
 have g3:0 ≤ s * b:=Int.mul_nonneg r3 (by omega)
 have g4:s * b < d * b:=Int.mul_lt_mul_of_pos_right r4 g
 rw [Int.mul_comm d b] at g4
 have v:∀ x y:Int,x + 1 ≤ y → b * d * x + b * d ≤ b * d * y:=fun x y h=>by
  have:=Int.mul_le_mul_of_nonneg_left h (Int.le_of_lt hP)
  rwa [Int.mul_add,Int.mul_one] at this
 rw [A6 (x:=p) (by omega) (by omega),A6 (x:=q) (by omega) (by omega),A6 (x:=r * d) (by omega) (by omega),A6 (x:=s * b) (by omega) (by omega)]
 by_cases h1:p = q
 ·subst h1
  rw [if_neg (by simp)]
  congr 1
  rw [Bool.eq_iff_iff]
  simp
  omega
 ·rw [if_pos (by simpa using h1)]
  congr 1
  rw [Bool.eq_iff_iff]
  simp
  rcases Int.lt_or_gt_of_ne h1 with h2 | h2
  ·have:=v p q (by omega)
   omega
  ·have:=v q p (by omega)
   omega
def Dh (n s:Nat):Nat:=(List.range n).foldl (fun a k=>a + (s.testBit k).toNat) 0
theorem Io (n s:Nat):Dh (n + 1) s = Dh n s + (s.testBit n).toNat:=by
 unfold Dh
 rw [List.range_succ,List.foldl_append]
 rfl
theorem UU (n:Nat):Dh n 0 = 0:=by
 induction n with
 | zero=>rfl
 | succ n e=>rw [Io,e]; simp
theorem LN (n s:Nat):Dh n s ≤ n:=by
 induction n with
 | zero=>exact Nat.le_refl _
 | succ n e =>
  rw [Io]
  have:(s.testBit n).toNat ≤ 1:=by cases s.testBit n <;> simp
  omega
theorem VO (s k i:Nat):(s ^^^ 2 ^ k).testBit i = (s.testBit i ^^ decide (k = i)):=by
 rw [Nat.testBit_xor,Nat.testBit_two_pow]
theorem YR {n s t:Nat} (h:∀ i,i < n → s.testBit i = t.testBit i):Dh n s = Dh n t:=by
 induction n with
 | zero=>rfl
 | succ n e=>rw [Io,Io,e (fun i f=>h i (by omega)),h n (by omega)]
theorem NP {n s k:Nat} (l:k < n) (h:s.testBit k = true):Dh n (s ^^^ 2 ^ k) + 1 = Dh n s:=by
 induction n with
 | zero=>omega
 | succ n f =>
  rw [Io,Io,VO]
  by_cases e:k = n
  ·subst e
   rw [h,YR (t:=s) (fun i g=>by rw [VO,decide_eq_false (by omega)]; simp)]
   simp
  ·have:=f (by omega)
   simp [e]
   omega
theorem Lu:∀ {k s:Nat},s.testBit k = true → s ^^^ 2 ^ k < s
 | 0,s,h=>by
  have h1:=Nat.xor_div_two (a:=s) (b:=2 ^ 0)
  have e:s % 2 = 1:=by simpa [Nat.testBit_zero] using h
  have f:¬ ((s ^^^ 2 ^ 0) % 2 = 1):=by rw [Nat.xor_mod_two_eq_one,e]; simp
  simp only [Nat.pow_zero] at h1 f ⊢
  rw [show (1:Nat) / 2 = 0 by rfl,Nat.xor_zero] at h1
  omega
 | k + 1,s,h=>by
  rw [Nat.testBit_succ] at h
  have g:=Lu h
  have h1:=Nat.xor_div_two (a:=s) (b:=2 ^ (k + 1))
  rw [show 2 ^ (k + 1) / 2 = 2 ^ k by rw [Nat.pow_succ]; omega] at h1
  omega
theorem N0 {n s:Nat} (f:s < 2 ^ n) (g:0 < s):∃ k,k < n ∧ s.testBit k = true:=by
 obtain ⟨k,e⟩:=Nat.exists_testBit_of_ne_zero (by omega:s ≠ 0)
 refine ⟨k,?_,e⟩
 rcases Nat.lt_or_ge k n with h | h
 ·exact h
 ·have:=Nat.testBit_lt_two_pow (Nat.lt_of_lt_of_le f (Nat.pow_le_pow_right (by omega) h))
  rw [e] at this
  cases this
theorem Abh {n s:Nat} (f:s < 2 ^ n) (h:0 < Dh n s):0 < s:=by
 rcases Nat.eq_zero_or_pos s with e | e
 ·rw [e,UU] at h; omega
 ·exact e
theorem Pv {n s i:Nat} (f:s < 2 ^ n) (e:i < n):(2 ^ n - 1 - s).testBit i = !s.testBit i:=by
 rw [show 2 ^ n - 1 - s = 2 ^ n - (s + 1) by omega,Nat.testBit_two_pow_sub_succ f]
 simp [e]
theorem Uq {n s:Nat} (e:s < 2 ^ n):∀ m,m ≤ n → Dh m (2 ^ n - 1 - s) + Dh m s = m
 | 0,_=>rfl
 | m + 1,h=>by
  have:=Uq e m (by omega)
  rw [Io,Io,Pv e (by omega)]
  cases s.testBit m <;> simp <;> omega
theorem WE {n s k:Nat} (g:s < 2 ^ n) (m:k < n) (h:s.testBit k = true):(2 ^ n - 1 - s) ||| 2 ^ k = 2 ^ n - 1 - (s ^^^ 2 ^ k):=by
 have l:=Lu h
 apply Nat.eq_of_testBit_eq
 intro i
 rw [Nat.testBit_or,Nat.testBit_two_pow]
 rcases Nat.lt_or_ge i n with f | f
 ·rw [Pv g f,Pv (by omega) f,VO]
  by_cases e:k = i
  ·subst e; simp [h]
  ·simp [e]
 ·have p:=Nat.pow_le_pow_right (n:=2) (by omega) f
  rw [Nat.testBit_lt_two_pow (by omega:2 ^ n - 1 - s < 2 ^ i),Nat.testBit_lt_two_pow (by omega:2 ^ n - 1 - (s ^^^ 2 ^ k) < 2 ^ i)]
  simp
  omega
def mf (g:Nat → Bool) (v:Nat → Int) (a:Int) (n:Nat):Int:=(List.range n).foldl (fun a k=>if g k then min a (v k) else a) a
theorem N9 (g:Nat → Bool) (v:Nat → Int) (a:Int) (n:Nat):mf g v a (n + 1) = if g n then min (mf g v a n) (v n) else mf g v a n:=by
 unfold mf
 rw [List.range_succ,List.foldl_append]
 rfl
theorem Rz (g:Nat → Bool) (v:Nat → Int) (a:Int):∀ (n k:Nat),k < n → g k = true → mf g v a n ≤ v k
 | n + 1,k,hk,hg=>by
  rw [N9]
  by_cases e:k = n
  ·subst e; rw [if_pos hg]; omega
  ·have:=Rz g v a n k (by omega) hg
   split <;> omega
theorem Tk (g:Nat → Bool) (v:Nat → Int) (a:Int):∀ (n:Nat),mf g v a n = a ∨ ∃ k,k < n ∧ g k = true ∧ mf g v a n = v k
 | 0=>.inl rfl
 | n + 1=>by
  rw [N9]
  have m:=Tk g v a n
  by_cases l:g n = true
  ·rw [if_pos l]
   rcases Int.le_total (mf g v a n) (v n) with h | h
   ·rw [Int.min_eq_left h]
    exact m.imp id fun ⟨k,h1,f,e⟩=>⟨k,by omega,f,e⟩
   ·rw [Int.min_eq_right h]
    exact .inr ⟨n,by omega,l,rfl⟩
  ·rw [if_neg l]
   exact m.imp id fun ⟨k,h1,f,e⟩=>⟨k,by omega,f,e⟩
theorem Acq {g:Nat → Bool} {v:Nat → Int} {a b:Int} {n k:Nat} (f:k < n) (e:g k = true) (ha:v k < a) (hb:v k < b):mf g v a n = mf g v b n:=by
 have h1:=Rz g v a n k f e
 have h2:=Rz g v b n k f e
 rcases Tk g v a n with h | ⟨i,hi,u,h⟩
 ·omega
 ·rcases Tk g v b n with s | ⟨j,m,l,s⟩
  ·omega
  ·have h3:=Rz g v a n j m l
   have h4:=Rz g v b n i hi u
   omega
theorem Ws {g f:Nat → Bool} {v l:Nat → Int} {a:Int}:∀ {n:Nat},(∀ k,k < n → g k = f k ∧ (g k = true → v k = l k)) → mf g v a n = mf f l a n
 | 0,_=>rfl
 | n + 1,h=>by
  have h1:=h n (by omega)
  rw [N9,N9,Ws (fun k m=>h k (by omega)),← h1.1]
  by_cases e:g n = true
  ·rw [if_pos e,if_pos e,h1.2 e]
  ·rw [if_neg e,if_neg e]
def Vj:Int:=1000000000
def Qh (n:Nat) (c:Nat → Nat → Int):Nat → List Int
 | 0=>[0]
 | m + 1=>Qh n c m ++ [mf (m + 1).testBit (fun k=>c (n - Dh n (m + 1)) k + (Qh n c m).getD ((m + 1) ^^^ 2 ^ k) 0) Vj n]
def VV (n:Nat) (c:Nat → Nat → Int) (s:Nat):Int:=(Qh n c s).getD s 0
theorem HM (n:Nat) (c:Nat → Nat → Int):∀ m,(Qh n c m).length = m + 1
 | 0=>rfl
 | m + 1=>by rw [Qh,CM,HM n c m]; rfl
theorem Ru (n:Nat) (c:Nat → Nat → Int) {s:Nat}:∀ {m:Nat},s ≤ m → (Qh n c m)[s]? = some (VV n c s)
 | 0,h=>by
  have:s = 0:=by omega
  subst this; rfl
 | m + 1,h=>by
  by_cases e:s = m + 1
  ·subst e
   have f:=HM n c (m + 1)
   unfold VV
   rw [List.getD_eq_getElem?_getD,Cp (by omega)]
   rfl
  ·rw [Qh,List.getElem?_append_left (by rw [HM]; omega)]
   exact Ru n c (by omega)
theorem R5 (n:Nat) (c:Nat → Nat → Int):VV n c 0 = 0:=rfl
theorem VD (n:Nat) (c:Nat → Nat → Int) {s:Nat} (h:0 < s):VV n c s = mf s.testBit (fun k=>c (n - Dh n s) k + VV n c (s ^^^ 2 ^ k)) Vj n:=by
 cases s with
 | zero=>omega
 | succ m =>
  conv=>lhs; unfold VV
  rw [Qh,List.getD_eq_getElem?_getD,List.getElem?_append_right (by rw [HM]; omega),HM]
  simp only [Nat.sub_self,List.getElem?_cons_zero,Option.getD_some]
  refine Ws fun k f=>⟨rfl,fun e=>?_⟩
  have:=Lu e
  rw [List.getD_eq_getElem?_getD,Ru n c (by omega)]
  rfl
theorem XN {n:Nat} (hn:n ≤ 12) {c:Nat → Nat → Int} (hc:∀ i k,i < n → k < n → 0 ≤ c i k ∧ c i k ≤ 2100000):∀ (d s:Nat),s ≤ d → s < 2 ^ n → (0 ≤ VV n c s ∧ VV n c s ≤ 2100000 * (Dh n s:Int)) ∧ (0 < s → ∃ k,k < n ∧ s.testBit k = true ∧ c (n - Dh n s) k + VV n c (s ^^^ 2 ^ k) = VV n c s):=by
 intro d
 induction d with
 | zero =>
  intro s h v
  have:s = 0:=by omega
  subst this
  exact ⟨⟨by rw [R5]; omega,by rw [R5]; omega⟩,fun h=>by omega⟩
 | succ d ih =>
  intro s h v
  by_cases g:0 < s
  ·obtain ⟨k,f,e⟩:=N0 v g
   have al:=LN n s
   have aa:∀ k,k < n → s.testBit k = true → (0 ≤ c (n - Dh n s) k + VV n c (s ^^^ 2 ^ k)) ∧ c (n - Dh n s) k + VV n c (s ^^^ 2 ^ k) ≤ 2100000 * (Dh n s:Int):=by
    intro k f e
    have hx:=Lu e
    have hp:=NP f e
    have h1:=(ih (s ^^^ 2 ^ k) (by omega) (by omega)).1
    have h2:=hc (n - Dh n s) k (by omega) f
    omega
   have ac:=Rz s.testBit (fun k=>c (n - Dh n s) k + VV n c (s ^^^ 2 ^ k)) Vj n k f e
   rw [← VD n c g] at ac
   have ht:=aa k f e
   have m:=Tk s.testBit (fun k=>c (n - Dh n s) k + VV n c (s ^^^ 2 ^ k)) Vj n
   rw [← VD n c g] at m
   rcases m with l | ⟨j,hj,u,l⟩
   ·unfold Vj at l; omega
   ·have am:=aa j hj u
    exact ⟨by omega,fun _=>⟨j,hj,u,l.symm⟩⟩
  ·have:s = 0:=by omega
   subst this
   exact ⟨⟨by rw [R5]; omega,by rw [R5]; omega⟩,fun h=>by omega⟩
theorem VE {n:Nat} (e:n ≤ 12) {c:Nat → Nat → Int} (f:∀ i k,i < n → k < n → 0 ≤ c i k ∧ c i k ≤ 2100000) {s:Nat} (g:s < 2 ^ n):0 ≤ VV n c s ∧ VV n c s ≤ 25200000:=by
 have h1:=(XN e f s s (Nat.le_refl _) g).1
 have h:=LN n s
 omega
def KB (n:Nat) (c:Nat → Nat → Int) (m:Nat):List Int:=List.replicate (2 ^ n - 1 - m) 0 ++ (Qh n c m).reverse
theorem PX (n:Nat) (c:Nat → Nat → Int) {m:Nat} (h:m < 2 ^ n):(KB n c m).length = 2 ^ n:=by
 unfold KB
 rw [CM,List.length_replicate,List.length_reverse,HM]
 omega
theorem MB (n:Nat) (c:Nat → Nat → Int) {m s:Nat} (h:m < 2 ^ n) (e:s ≤ m):(KB n c m)[2 ^ n - 1 - s]? = some (VV n c s):=by
 unfold KB
 rw [List.getElem?_append_right (by simp; omega),List.length_replicate,List.getElem?_reverse (by rw [HM]; omega),HM,show m + 1 - 1 - (2 ^ n - 1 - s - (2 ^ n - 1 - m)) = s by omega]
 exact Ru n c e
theorem Aan (n:Nat) (c:Nat → Nat → Int) {m:Nat} (h:m + 1 < 2 ^ n):(KB n c m).set (2 ^ n - 1 - (m + 1)) (VV n c (m + 1)) = KB n c (m + 1):=by
 apply List.ext_getElem?
 intro i
 have s:=PX n c (m:=m) (by omega)
 have l:=PX n c h
 rcases Nat.lt_trichotomy i (2 ^ n - 1 - (m + 1)) with f | f | f
 ·rw [List.getElem?_set_ne (by omega)]
  unfold KB
  rw [List.getElem?_append_left (by simp; omega),List.getElem?_append_left (by simp; omega)]
  rw [List.getElem?_replicate,List.getElem?_replicate,if_pos (by omega),if_pos (by omega)]
 ·subst f
  rw [List.getElem?_set_self (by omega),MB n c h (Nat.le_refl _)]
 ·rw [List.getElem?_set_ne (by omega)]
  rcases Nat.lt_or_ge i (2 ^ n) with g | g
  ·have e:i = 2 ^ n - 1 - (2 ^ n - 1 - i):=by omega
   rw [e,MB n c (by omega) (by omega),MB n c h (by omega)]
  ·rw [List.getElem?_eq_none (by rw [s]; exact g),List.getElem?_eq_none (by rw [l]; exact g)]
theorem Tx (n:Nat):BitVec.ofInt 64 (n:Int) = BitVec.ofNat 64 n:=BitVec.ofInt_natCast ..
theorem Zv (k:Nat):((2:Int) ^ k) = ((2 ^ k:Nat):Int):=by rw [Int.natCast_pow]; rfl
theorem Lz {k:Nat} (h:k ≤ 30):KA .i64 1 (k:Int) = ((2 ^ k:Nat):Int):=by
 have e:2 ^ k ≤ 2 ^ 30:=Nat.pow_le_pow_right (by omega) h
 show Ag (1 * 2 ^ (min ((k:Int).toNat) 64)) = _
 rw [Int.toNat_natCast,Nat.min_eq_left (by omega),Int.one_mul,Zv]
 generalize 2 ^ k = P at e ⊢
 exact A6 (by omega) (by omega)
theorem Ac9 {s k:Nat} (h:k ≤ 30):Bs .i64 (s:Int) (k:Int) = ((s / 2 ^ k:Nat):Int):=by
 show Int.fdiv (s:Int) (2 ^ (min ((k:Int).toNat) 64)) = _
 rw [Int.toNat_natCast,Nat.min_eq_left (by omega),Zv,Int.fdiv_eq_ediv_of_nonneg _ (Int.natCast_nonneg _)]
 rfl
theorem Abq {x:Nat} (h:x < 4611686018427387904):B3 .i64 (x:Int) 1 = ((x % 2:Nat):Int):=by
 have e:(BitVec.ofNat 64 x &&& BitVec.ofNat 64 1).toNat = x % 2:=by
  rw [BitVec.toNat_and,BitVec.toNat_ofNat,BitVec.toNat_ofNat,Nat.mod_eq_of_lt (show x < 2 ^ 64 by omega),Nat.mod_eq_of_lt (show 1 < 2 ^ 64 by omega)]
  exact Nat.and_two_pow_sub_one_eq_mod x 1
 show Ag ((BitVec.ofInt 64 (x:Int) &&& BitVec.ofInt 64 1).toNat:Int) = _
 rw [Tx,show BitVec.ofInt 64 1 = BitVec.ofNat 64 1 by rfl,e,A6 (by omega) (by omega)]
theorem Yv {x y:Nat} (e:x < 1073741824) (g:y < 1073741824):Th .i64 (x:Int) (y:Int) = ((x ||| y:Nat):Int):=by
 have f:x ||| y < 2 ^ 30:=Nat.or_lt_two_pow (by omega) (by omega)
 show Ag ((BitVec.ofInt 64 (x:Int) ||| BitVec.ofInt 64 (y:Int)).toNat:Int) = _
 rw [Tx,Tx,BitVec.toNat_or,BitVec.toNat_ofNat,BitVec.toNat_ofNat,Nat.mod_eq_of_lt (show x < 2 ^ 64 by omega),Nat.mod_eq_of_lt (show y < 2 ^ 64 by omega),A6 (by omega) (by omega)]
theorem WK {x y:Nat} (e:x < 1073741824) (g:y < 1073741824):Sc .i64 (x:Int) (y:Int) = ((x ^^^ y:Nat):Int):=by
 have f:x ^^^ y < 2 ^ 30:=Nat.xor_lt_two_pow (by omega) (by omega)
 show Ag ((BitVec.ofInt 64 (x:Int) ^^^ BitVec.ofInt 64 (y:Int)).toNat:Int) = _
 rw [Tx,Tx,BitVec.toNat_xor,BitVec.toNat_ofNat,BitVec.toNat_ofNat,Nat.mod_eq_of_lt (show x < 2 ^ 64 by omega),Nat.mod_eq_of_lt (show y < 2 ^ 64 by omega),A6 (by omega) (by omega)]
theorem WM {s k:Nat} (f:s < 1073741824) (h:k ≤ 30):B3 .i64 (Bs .i64 (s:Int) (k:Int)) 1 = (((s.testBit k).toNat:Nat):Int):=by
 have:s / 2 ^ k ≤ s:=Nat.div_le_self _ _
 rw [Ac9 h,Abq (by omega),Nat.testBit_eq_decide_div_mod_eq]
 have:s / 2 ^ k % 2 < 2:=Nat.mod_lt _ (by omega)
 by_cases e:s / 2 ^ k % 2 = 1
 ·simp [e]
 ·have:s / 2 ^ k % 2 = 0:=by omega
  simp [this]
theorem Uu {s k:Nat} (e:s < 1073741824) (h:k ≤ 30):(B3 .i64 (Bs .i64 (s:Int) (k:Int)) 1 == 1) = s.testBit k:=by
 rw [WM e h]; cases s.testBit k <;> rfl
theorem XM {s k:Nat} (e:s < 1073741824) (h:k ≤ 30):(B3 .i64 (Bs .i64 (s:Int) (k:Int)) 1 == 0) = !s.testBit k:=by
 rw [WM e h]; cases s.testBit k <;> rfl
theorem EM {S R:Type} (f:Nat → S → Int → Ae R) (n:Nat) (e:Nat → S) (rest:Ae R) (hn:n < 4611686018427387904) {j:Nat} (h:j ≤ n)
  (u:∀ m k,j ≤ k → k < n → f (m + 1) (e k) (k:Int) = f m (e (k + 1)) ((k + 1:Nat):Int)) (s:∀ m,f (m + 1) (e n) (n:Int) = rest):f FU (e j) (j:Int) = rest:=by
 have l:∀ d k m,n - k = d → j ≤ k → k ≤ n → d < m → f m (e k) (k:Int) = rest:=by
  intro d
  induction d with
  | zero =>
   intro k m hd g v hm
   have:k = n:=by omega
   subst this
   cases m with
   | zero=>omega
   | succ m=>exact s m
  | succ d ih =>
   intro k m hd g v hm
   cases m with
   | zero=>omega
   | succ m=>rw [u m k g (by omega)]; exact ih (k + 1) m (by omega) (by omega) (by omega) (by omega)
 exact l (n - j) j FU rfl (Nat.le_refl _) h (D4 (by omega))
theorem Acr {S R:Type} (f:Nat → S → Int → Ae R) (n:Nat) (g:Nat → Bool) (l:Nat → S) (rest u:Ae R) (hn:n < 4611686018427387904)
  (hs:∀ m k,k < n → (∀ i,i < k → g i = true) → f (m + 1) (l k) (k:Int) = if g k = true then f m (l (k + 1)) ((k + 1:Nat):Int) else u) (he:∀ m,f (m + 1) (l n) (n:Int) = rest):f FU (l 0) 0 = if (List.range n).all g = true then rest else u:=by
 have aa:∀ d k m,n - k = d → k ≤ n → d < m → (∀ i,i < k → g i = true) → f m (l k) (k:Int) = if (List.range n).all g = true then rest else u:=by
  intro d
  induction d with
  | zero =>
   intro k m hd hk hm s
   have:k = n:=by omega
   subst this
   cases m with
   | zero=>omega
   | succ m=>rw [he,if_pos (List.all_eq_true.2 fun i v=>s i (List.mem_range.1 v))]
  | succ d ih =>
   intro k m hd hk hm s
   cases m with
   | zero=>omega
   | succ m =>
    rw [hs m k (by omega) s]
    by_cases h:g k = true
    ·rw [if_pos h]
     exact ih (k + 1) m (by omega) (by omega) (by omega) (fun i v=>by
      by_cases e:i = k
      ·subst e; exact h
      ·exact s i (by omega))
    ·rw [if_neg h,if_neg]
     intro ha
     exact h (List.all_eq_true.1 ha k (List.mem_range.2 (by omega)))
 exact aa n 0 FU rfl (by omega) (D4 hn) (fun i v=>by omega)
theorem Tl {R:Type} (f:Nat → Int → Ae R) (n:Nat) (p:Nat → Bool) (g:Nat → Ae R) (e:Ae R) (hn:n < 4611686018427387904)
  (v:∀ m k,k < n → f (m + 1) (k:Int) = if p k = true then g k else f m ((k + 1:Nat):Int)) (u:∀ m,f (m + 1) (n:Int) = e):f FU 0 = match (List.range n).find? p with
   | some k=>g k
   | none=>e:=by
 have l:∀ d k m,n - k = d → k ≤ n → d < m → f m (k:Int) = match (List.range' k d).find? p with
   | some k=>g k
   | none=>e:=by
  intro d
  induction d with
  | zero =>
   intro k m hd hk hm
   have:k = n:=by omega
   subst this
   cases m with
   | zero=>omega
   | succ m=>rw [u]; rfl
  | succ d ih =>
   intro k m hd hk hm
   cases m with
   | zero=>omega
   | succ m =>
    rw [v m k (by omega),List.range'_succ,List.find?_cons]
    by_cases h:p k = true
    ·rw [if_pos h,h]
    ·have s:p k = false:=by simpa using h
     rw [if_neg h,s]
     exact ih (k + 1) m (by omega) (by omega) (by omega)
 have:=l n 0 FU rfl (by omega) (D4 hn)
 rw [List.range_eq_range']
 exact this
theorem XZ (u:Nat) (h:u < 4096):H8 (u:Int) = some (Dh 12 u:Int):=by
 have:∀ a:Nat,a < 64 → ∀ b:Nat,b < 64 → H8 ((64 * a + b:Nat):Int) = some (Dh 12 (64 * a + b):Int):=by decide +kernel
 have:=this (u / 64) (by omega) (u % 64) (by omega)
 rwa [Nat.div_add_mod] at this
structure CO (x:List (List Int)) (n:Nat) (c:Nat → Nat → Int):Prop where
 len:x.length = n
 row:∀ i,i < n → ∃ r,x[i]? = some r ∧ r.length = n ∧ ∀ k,k < n → r[k]? = some (c i k)
 bd:∀ i k,i < n → k < n → 0 ≤ c i k ∧ c i k ≤ 2100000
 n1:1 ≤ n
 n12:n ≤ 12
theorem O2 {n:Nat} (h:n ≤ 12):1 ≤ 2 ^ n ∧ 2 ^ n ≤ 4096:=⟨Nat.one_le_two_pow,Nat.pow_le_pow_right (n:=2) (by omega) h⟩
def JA (n:Nat) (c:Nat → Nat → Int) (m:Nat):List Int:=Qh n c m ++ List.replicate (2 ^ n - 1 - m) 0
theorem NS (n:Nat) (c:Nat → Nat → Int) {m:Nat} (h:m < 2 ^ n):(JA n c m).length = 2 ^ n:=by
 unfold JA
 rw [CM,List.length_replicate,HM]
 omega
theorem L9 (n:Nat) (c:Nat → Nat → Int) {m s:Nat} (e:s ≤ m):(JA n c m)[s]? = some (VV n c s):=by
 unfold JA
 rw [List.getElem?_append_left (by rw [HM]; omega)]
 exact Ru n c e
theorem ZR (n:Nat) (c:Nat → Nat → Int) {m:Nat} (h:m + 1 < 2 ^ n):(JA n c m).set (m + 1) (VV n c (m + 1)) = JA n c (m + 1):=by
 apply List.ext_getElem?
 intro i
 have l:=NS n c (m:=m) (by omega)
 have g:=NS n c h
 rcases Nat.lt_trichotomy i (m + 1) with f | f | f
 ·rw [List.getElem?_set_ne (by omega),L9 n c (by omega),L9 n c (by omega)]
 ·subst f
  rw [List.getElem?_set_self (by omega),L9 n c (Nat.le_refl _)]
 ·rw [List.getElem?_set_ne (by omega)]
  unfold JA
  rw [List.getElem?_append_right (by rw [HM]; omega),List.getElem?_append_right (by rw [HM]; omega),HM,HM,List.getElem?_replicate,List.getElem?_replicate]
  by_cases e:i - (m + 1) < 2 ^ n - 1 - m
  ·rw [if_pos e,if_pos (by omega)]
  ·rw [if_neg e,if_neg (by omega)]
theorem Ka (a b:Int):EQ a b = some (min a b):=by
 unfold EQ
 by_cases h:a < b
 ·rw [if_pos (by simpa using h),Int.min_eq_left (by omega)]
 ·rw [if_neg (by simpa using h),Int.min_eq_right (by omega)]
theorem Abj (a b:Int):Fn a b = min a b:=by
 unfold Fn
 by_cases h:b < a
 ·rw [if_pos h,Int.min_eq_right (by omega)]
 ·rw [if_neg h,Int.min_eq_left (by omega)]
theorem YE (x:List (List Int)) {n:Nat} (f:x.length = n) (hn:n ≤ 12) {s:Nat} (u:s < 1073741824) (l:List Int) (e:List Int → Int → Ae (List Int)) :
  Ex x (s:Int) l e FU 0 0 = Option.bind (AL l (s:Int)) fun v=>Option.bind (AL x ((n:Int) - (Dh n s:Int))) fun g=>D0 g (s:Int) e FU (BD l (s:Int) 1000000000) 0:=by
 have:=EM (Ex x (s:Int) l e) n (fun k=>(Dh k s:Int)) (Option.bind (AL l (s:Int)) fun v=>Option.bind (AL x ((n:Int) - (Dh n s:Int))) fun g=>D0 g (s:Int) e FU (BD l (s:Int) 1000000000) 0) (by omega) (j:=0) (by omega) (fun m k _ hk=>?_) (fun m=>?_)
 ·simpa [Dh] using this
 ·have h:=LN k s
  rw [Ex,if_pos (by rw [f]; simp; omega),EN (by omega) (by omega),if_pos (by simp),WM u (by omega),AD (by omega),Io]
  have hb:(s.testBit k).toNat ≤ 1:=by cases s.testBit k <;> simp
  rw [A6 (by omega) (by omega)]
  rfl
 ·have h:=LN n s
  rw [Ex,if_neg (by rw [f]; simp),f,A6 (by omega) (by omega)]
theorem Aa9 {x:List (List Int)} {n:Nat} {c:Nat → Nat → Int} (h:CO x n c) {m:Nat} (u:m + 1 < 2 ^ n) {r:List Int} (l:r.length = n) (hc:∀ k,k < n → r[k]? = some (c (n - Dh n (m + 1)) k)) (f:List Int → Int → Ae (List Int)) :
  D0 r ((m + 1:Nat):Int) f FU (BD (JA n c m) ((m + 1:Nat):Int) 1000000000) 0 = f (JA n c (m + 1)) ((m + 2:Nat):Int):=by
 have ac:=O2 h.n12
 have hn:=h.n12
 have hp:0 < Dh n (m + 1):=by
  obtain ⟨k,g,v⟩:=N0 u (by omega)
  have:=NP g v
  omega
 have ah:=LN n (m + 1)
 have ak:=NS n c (m:=m) (by omega)
 have aa:=EM (D0 r ((m + 1:Nat):Int) f) n (fun k=>(JA n c m).set (m + 1) (mf (m + 1).testBit (fun k=>c (n - Dh n (m + 1)) k + VV n c ((m + 1) ^^^ 2 ^ k)) Vj k)) (f (JA n c (m + 1)) ((m + 2:Nat):Int)) (by omega) (j:=0) (by omega) (fun q k _ g=>?_) (fun q=>?_)
 ·rw [J2]
  exact aa
 ·have v:=h.bd (n - Dh n (m + 1)) k (by omega) g
  rw [D0,if_pos (by rw [l]; simp; omega)]
  unfold Bk
  dsimp only
  rw [AY,hc k g,Aa,EN (by omega) (by omega),if_pos (by simp),Uu (by omega) (by omega),N9]
  by_cases e:(m + 1).testBit k = true
  ·have hx:=Lu e
   have hv:=VE h.n12 h.bd (s:=(m + 1) ^^^ 2 ^ k) (by omega)
   have ad:2 ^ k ≤ 4096:=Ay (Nat.pow_le_pow_right (by omega) (by omega:k ≤ n)) ac.2
   rw [if_pos e,AY,List.getElem?_set_self (by omega),Aa,Lz (by omega),WK (by omega) (by omega),AY,List.getElem?_set_ne (by omega),L9 n c (by omega),Aa,A6 (x:=c _ k + _) (by omega) (by omega),Ka,Aa,Aa,J2,List.set_set,AD (by omega),if_pos e]
  ·rw [if_neg e,if_neg e,AD (by omega)]
 ·rw [D0,if_neg (by rw [l]; simp),← VD n c (by omega),ZR n c u,A6 (by omega) (by omega)]
  rfl
theorem VR {x:List (List Int)} {n:Nat} {c:Nat → Nat → Int} (h:CO x n c):JE x = some (JA n c (2 ^ n - 1)):=by
 have ad:=O2 h.n12
 have hn:=h.n12
 unfold JE
 rw [h.len,EN (by omega) (by omega),if_pos (by simp),Lz (by omega),N8 (by omega),Aa]
 have u:List.replicate (2 ^ n) (0:Int) = JA n c 0:=by
  unfold JA Qh
  rw [show 2 ^ n = (2 ^ n - 1 - 0) + 1 by omega,List.replicate_succ]
  simp
 have f:=EM (EY x) (2 ^ n) (fun s=>JA n c (s - 1)) (some (JA n c (2 ^ n - 1))) (by omega) (j:=1) (by omega) (fun q s ag e=>?_) (fun q=>?_)
 ·rw [u]; exact f
 ·rw [EY,h.len,EN (by omega) (by omega),Lz (by omega),if_pos (decide_eq_true (Int.ofNat_lt.2 e)),YE x h.len h.n12 (by omega)]
  obtain ⟨m,rfl⟩:∃ m,s = m + 1:=⟨s - 1,by omega⟩
  have hp:0 < Dh n (m + 1):=by
   obtain ⟨k,hk,hb⟩:=N0 e (by omega)
   have:=NP hk hb
   omega
  have ae:=LN n (m + 1)
  have ai:=NS n c (m:=m) (by omega)
  obtain ⟨r,l,g,v⟩:=h.row (n - Dh n (m + 1)) (by omega)
  rw [Nat.add_sub_cancel,Jo (by omega),Aa,show (n:Int) - (Dh n (m + 1):Int) = ((n - Dh n (m + 1):Nat):Int) by omega,AY,l,Aa,Aa9 h e g v]
  rfl
 ·rw [EY,h.len,EN (by omega) (by omega),Lz (by omega),if_neg (by simp)]
theorem X7 {n s:Nat} (e:s < 2 ^ n):∀ m,Dh (n + m) s = Dh n s
 | 0=>rfl
 | m + 1=>by
  rw [← Nat.add_assoc,Io,X7 e m,Nat.testBit_lt_two_pow (Nat.lt_of_lt_of_le e (Nat.pow_le_pow_right (by omega) (by omega)))]
  rfl
theorem ZS {n s:Nat} (f:n ≤ 12) (e:s < 2 ^ n):H8 ((2 ^ n - 1 - s:Nat):Int) = some ((n - Dh n s:Nat):Int):=by
 have g:=O2 f
 rw [XZ _ (by omega)]
 have h1:=X7 (n:=n) (s:=2 ^ n - 1 - s) (by omega) (12 - n)
 rw [show n + (12 - n) = 12 by omega] at h1
 have h:=Uq e n (Nat.le_refl _)
 rw [h1,show Dh n (2 ^ n - 1 - s) = n - Dh n s by omega]
theorem Abr {x:List (List Int)} {n:Nat} {c:Nat → Nat → Int} (h:CO x n c) {s:Nat} (h0:0 < s) (u:s < 2 ^ n) (g:List Int → Int → Ae (List Int)) :
  DG x ((2 ^ n - 1 - s:Nat):Int) ((n - Dh n s:Nat):Int) g FU (BD (KB n c (s - 1)) ((2 ^ n - 1 - s:Nat):Int) 13194139533312) 0 = g (KB n c s) (Ag (((2 ^ n - 1 - s:Nat):Int) - 1)):=by
 have ad:=O2 h.n12
 have hn:=h.n12
 obtain ⟨j,v,l⟩:=N0 u h0
 have hp:0 < Dh n s:=by
  have:=NP v l
  omega
 have ao:=LN n s
 have ap:=PX n c (m:=s - 1) (by omega)
 obtain ⟨r,hr,ak,ae⟩:=h.row (n - Dh n s) (by omega)
 have ab:∀ k,k < n → s.testBit k = true → 0 ≤ c (n - Dh n s) k + VV n c (s ^^^ 2 ^ k) ∧ c (n - Dh n s) k + VV n c (s ^^^ 2 ^ k) ≤ 27300000:=fun k f e=>by
  have hx:=Lu e
  have hb:=h.bd (n - Dh n s) k (by omega) f
  have hv:=VE h.n12 h.bd (s:=s ^^^ 2 ^ k) (by omega)
  omega
 have ac:=EM (DG x ((2 ^ n - 1 - s:Nat):Int) ((n - Dh n s:Nat):Int) g) n (fun k=>(KB n c (s - 1)).set (2 ^ n - 1 - s) (mf s.testBit (fun k=>c (n - Dh n s) k + VV n c (s ^^^ 2 ^ k)) 13194139533312 k)) (g (KB n c s) (Ag (((2 ^ n - 1 - s:Nat):Int) - 1))) (by omega) (j:=0) (by omega) (fun q k _ f=>?_) (fun q=>?_)
 ·rw [J2]
  exact ac
 ·have hb:=h.bd (n - Dh n s) k (by omega) f
  have an:2 ^ k ≤ 4096:=Ay (Nat.pow_le_pow_right (by omega) (by omega:k ≤ n)) ad.2
  rw [DG,if_pos (by rw [h.len]; simp; omega)]
  unfold Bk
  dsimp only
  rw [if_pos (by simp),XM (by omega) (by omega),Pv u f,Bool.not_not,N9]
  by_cases e:s.testBit k = true
  ·have hx:=Lu e
   have hv:=ab k f e
   rw [if_pos e,AY,List.getElem?_set_self (by omega),Aa,AY,hr,Aa,AY,ae k f,Aa,Lz (by omega),Yv (by omega) (by omega),WE u f e,AY,List.getElem?_set_ne (by omega),MB n c (by omega) (by omega),Aa,Aa,J2,List.set_set,AD (by omega),if_pos e,A6 (by omega) (by omega),Abj]
  ·rw [if_neg e,if_neg e,AD (by omega)]
 ·have e:=ab j v l
  rw [DG,if_neg (by rw [h.len]; simp),Acq (b:=Vj) v l (by omega) (by unfold Vj; omega),← VD n c h0]
  have:=Aan n c (m:=s - 1) (by omega)
  rw [show s - 1 + 1 = s by omega] at this
  rw [this]
theorem TY {x:List (List Int)} {n:Nat} {c:Nat → Nat → Int} (h:CO x n c):II x = some (KB n c (2 ^ n - 1)):=by
 have aa:=O2 h.n12
 have hn:=h.n12
 have u:=h.n1
 have v:2 ≤ 2 ^ n:=Ay (by decide:2 ≤ 2 ^ 1) (Nat.pow_le_pow_right (by omega) u)
 unfold II
 rw [h.len,if_pos (by simp),Lz (by omega),N8 (by omega),Aa]
 have g:List.replicate (2 ^ n) (0:Int) = KB n c 0:=by
  unfold KB Qh
  rw [show [(0:Int)].reverse = List.replicate 1 0 by rfl,List.replicate_append_replicate,show 2 ^ n - 1 - 0 + 1 = 2 ^ n by omega]
 have f:=EM (fun m l (k:Int)=>Ev x m l (((2 ^ n - 1:Nat):Int) - k)) (2 ^ n) (fun s=>KB n c (s - 1)) (some (KB n c (2 ^ n - 1))) (by omega) (j:=1) (by omega) (fun q s ad e=>?_) (fun q=>?_)
 ·rw [g,A6 (by omega) (by omega),show ((2 ^ n:Nat):Int) - 2 = ((2 ^ n - 1:Nat):Int) - ((1:Nat):Int) by omega]
  exact f
 ·have ac:=LN n s
  have ae:=PX n c (m:=s - 1) (by omega)
  rw [show ((2 ^ n - 1:Nat):Int) - (s:Int) = ((2 ^ n - 1 - s:Nat):Int) by omega,Ev,if_pos (by simp),EN (by omega) (by omega),ZS h.n12 e,Aa,Jo (by omega),Aa,Abr h (by omega) e,A6 (by omega) (by omega),show ((2 ^ n - 1 - s:Nat):Int) - 1 = ((2 ^ n - 1:Nat):Int) - ((s + 1:Nat):Int) by omega]
  rfl
 ·rw [Ev,if_neg (by rw [CC]; omega)]
def Pr (n:Nat) (c:Nat → Nat → Int) (r s k:Nat):Bool:=s.testBit k && decide (c r k + VV n c (s ^^^ 2 ^ k) = VV n c s)
def Pq (n:Nat) (c:Nat → Nat → Int) (r s:Nat):Nat:=((List.range n).find? (Pr n c r s)).getD 0
def EK (n:Nat) (c:Nat → Nat → Int):Nat → Nat
 | 0=>2 ^ n - 1
 | r + 1=>EK n c r ^^^ 2 ^ Pq n c r (EK n c r)
def KO (n:Nat) (c:Nat → Nat → Int) (r:Nat):List Int:=(List.range r).map fun i=>(Pq n c i (EK n c i):Int)
theorem UW (n:Nat) (c:Nat → Nat → Int) (r:Nat):KO n c (r + 1) = KO n c r ++ [(Pq n c r (EK n c r):Int)]:=by
 unfold KO
 rw [List.range_succ,List.map_append]
 rfl
theorem NR (n:Nat) (c:Nat → Nat → Int) (r:Nat):(KO n c r).length = r:=by unfold KO; simp
theorem Aab (n:Nat):Dh n (2 ^ n - 1) = n:=by
 have h1:=Uq (n:=n) (s:=0) (Nat.two_pow_pos n) n (Nat.le_refl _)
 rw [UU] at h1
 simpa using h1
theorem UP {x:List (List Int)} {n:Nat} {c:Nat → Nat → Int} (h:CO x n c):∀ r,r ≤ n → (EK n c r < 2 ^ n ∧ Dh n (EK n c r) = n - r) ∧ (r < n → (List.range n).find? (Pr n c r (EK n c r)) = some (Pq n c r (EK n c r)) ∧ Pq n c r (EK n c r) < n ∧ (EK n c r).testBit (Pq n c r (EK n c r)) = true):=by
 have ak:=O2 h.n12
 have m:∀ r s,r < n → s < 2 ^ n → Dh n s = n - r → (List.range n).find? (Pr n c r s) = some (Pq n c r s) ∧ Pq n c r s < n ∧ s.testBit (Pq n c r s) = true:=by
  intro r s g v f
  have h0:=Abh v (by omega)
  obtain ⟨k,hk,hb,u⟩:=(XN h.n12 h.bd s s (Nat.le_refl _) v).2 h0
  rw [f,show n - (n - r) = r by omega] at u
  cases l:(List.range n).find? (Pr n c r s) with
  | none =>
   have:=List.find?_eq_none.1 l k (List.mem_range.2 hk)
   unfold Pr at this
   simp [hb,u] at this
  | some j =>
   have f:=List.find?_some l
   have hj:j < n:=List.mem_range.1 (List.mem_of_find?_eq_some l)
   have e:Pq n c r s = j:=by unfold Pq; rw [l]; rfl
   rw [e]
   unfold Pr at f
   rw [Cg] at f
   exact ⟨rfl,hj,f.1⟩
 intro r
 induction r with
 | zero =>
  intro _
  have h1:EK n c 0 < 2 ^ n ∧ Dh n (EK n c 0) = n - 0:=⟨by unfold EK; omega,Aab n⟩
  exact ⟨h1,fun g=>m 0 _ g h1.1 h1.2⟩
 | succ r ih =>
  intro g
  obtain ⟨⟨i1,i2⟩,i3⟩:=ih (by omega)
  obtain ⟨_,i4,i5⟩:=i3 (by omega)
  have h1:EK n c (r + 1) < 2 ^ n ∧ Dh n (EK n c (r + 1)) = n - (r + 1):=by
   have hx:=Lu i5
   have f:=NP i4 i5
   refine ⟨by unfold EK; omega,by unfold EK; omega⟩
  exact ⟨h1,fun g=>m (r + 1) _ g h1.1 h1.2⟩
theorem Zp (p:Nat → Bool) (k:Nat):(List.range (k + 1)).find? p = match (List.range k).find? p with
  | some j=>some j
  | none=>if p k = true then some k else none:=by
 rw [List.range_succ,List.find?_append]
 cases (List.range k).find? p with
 | some j=>rfl
 | none =>
  rw [Option.none_or,List.find?_cons]
  cases p k <;> rfl
def Ub (o:Ae Nat):Int:=match o with
 | some j=>(j:Int)
 | none=>-1
theorem VS {x:List (List Int)} {n:Nat} {c:Nat → Nat → Int} (h:CO x n c):JF x = some (KO n c n,VV n c (2 ^ n - 1)):=by
 have l:=O2 h.n12
 have hn:=h.n12
 have ab:=NS n c (m:=2 ^ n - 1) (by omega)
 unfold JF
 rw [VR h,Aa,ab,A6 (by omega) (by omega),show ((2 ^ n:Nat):Int) - 1 = ((2 ^ n - 1:Nat):Int) by omega]
 have ac:=EM (fun m (s:Int × List Int) k=>DT x (JA n c (2 ^ n - 1)) m s.1 s.2 k) n (fun r=>((EK n c r:Int),KO n c r)) (some (KO n c n,VV n c (2 ^ n - 1))) (by omega) (j:=0) (by omega) (fun q r _ g=>?_) (fun q=>?_)
 ·exact ac
 ·dsimp only
  obtain ⟨v,ah,u,ad⟩:=h.row r g
  obtain ⟨⟨i1,i2⟩,i3⟩:=UP h r (by omega)
  obtain ⟨i6,i4,i5⟩:=i3 g
  rw [DT,if_pos (by rw [h.len]; simp; omega),AY,ah,Aa]
  have IM:=EM (EZ v (EK n c r:Int) (JA n c (2 ^ n - 1)) (KO n c r) (DT x (JA n c (2 ^ n - 1)) q) (r:Int)) n (fun k=>Ub ((List.range k).find? (Pr n c r (EK n c r)))) (DT x (JA n c (2 ^ n - 1)) q (EK n c (r + 1):Int) (KO n c (r + 1)) ((r + 1:Nat):Int)) (by omega) (j:=0) (by omega) (fun q k _ hk=>?_) (fun q=>?_)
  ·exact IM
  ·have hb:=h.bd r k g hk
   rw [EZ,if_pos (by rw [u]; simp; omega)]
   unfold Bk
   dsimp only
   rw [AY,ad k hk,Aa,Zp]
   cases hf:(List.range k).find? (Pr n c r (EK n c r)) with
   | some j =>
    unfold Ub
    dsimp only
    rw [if_neg (by simp),if_neg (by simp),AD (by omega)]
   | none =>
    unfold Ub
    dsimp only
    have ag:2 ^ k ≤ 4096:=Ay (Nat.pow_le_pow_right (by omega) (by omega:k ≤ n)) l.2
    rw [if_pos (by simp),EN (by omega) (by omega),if_pos (by simp),Uu (by omega) (by omega)]
    by_cases e:(EK n c r).testBit k = true
    ·have hx:=Lu e
     have hv:=VE h.n12 h.bd (s:=EK n c r ^^^ 2 ^ k) (by omega)
     rw [if_pos e,AY,L9 n c (by omega),Aa,Lz (by omega),WK (by omega) (by omega),AY,L9 n c (by omega),Aa,A6 (by omega) (by omega),AD (by omega)]
     unfold Pr
     rw [e,Bool.true_and]
     by_cases f:c r k + VV n c (EK n c r ^^^ 2 ^ k) = VV n c (EK n c r)
     ·rw [if_pos (by simpa using f),if_pos (by simpa using f)]
     ·rw [if_neg (by simpa using f),if_neg (by simpa using f)]
    ·rw [if_neg e,if_neg (by simp),AD (by omega),if_neg]
     unfold Pr
     simp [e]
  ·have ag:2 ^ Pq n c r (EK n c r) ≤ 4096:=Ay (Nat.pow_le_pow_right (by omega) (by omega:Pq n c r (EK n c r) ≤ n)) l.2
   rw [EZ,if_neg (by rw [u]; simp),i6]
   unfold Ub
   dsimp only
   rw [Bt (by rw [NR]; simp; omega),Aa,EN (by omega) (by omega),if_pos (by simp),Lz (by omega),WK (by omega) (by omega),AD (by omega),UW]
   rfl
 ·dsimp only
  rw [DT,if_neg (by rw [h.len]; simp),ab,A6 (by omega) (by omega),show ((2 ^ n:Nat):Int) - 1 = ((2 ^ n - 1:Nat):Int) by omega,AY,L9 n c (by omega),Aa]
theorem QO {x:List (List Int)} {n:Nat} {c:Nat → Nat → Int} (h:CO x n c):GV x = some (KO n c n):=by
 have ab:=O2 h.n12
 have hn:=h.n12
 unfold GV
 rw [TY h,Aa]
 have l:=EM (fun m (s:Int × List Int) k=>Dx x (KB n c (2 ^ n - 1)) m s.1 s.2 k) n (fun r=>(((2 ^ n - 1 - EK n c r:Nat):Int),KO n c r)) (some (KO n c n)) (by omega) (j:=0) (by omega) (fun q r _ u=>?_) (fun q=>?_)
 ·have e:((2 ^ n - 1 - EK n c 0:Nat):Int) = 0:=by unfold EK; omega
  dsimp only at l
  rw [e] at l
  exact l
 ·dsimp only
  obtain ⟨ag,ai,ak,ac⟩:=h.row r u
  obtain ⟨⟨v,i2⟩,i3⟩:=UP h r (by omega)
  obtain ⟨i6,i4,i5⟩:=i3 u
  rw [Dx,if_pos (by rw [h.len]; simp; omega)]
  unfold Gl
  dsimp only
  have IM:=fun (aa:Int → List Int → Ae (List Int))=>Tl (Dw x (KO n c r) aa ((2 ^ n - 1 - EK n c r:Nat):Int) (r:Int) (KB n c (2 ^ n - 1))) n (Pr n c r (EK n c r)) (fun k=>aa (((2 ^ n - 1 - EK n c r:Nat) ||| 2 ^ k:Nat):Int) (KO n c r ++ [(k:Int)])) (aa ((2 ^ n - 1 - EK n c r:Nat):Int) (KO n c r)) (by omega) (fun q k g=>?_) (fun q=>?_)
  ·rw [IM,i6]
   dsimp only
   rw [WE v i4 i5,AD (by omega),UW]
   rfl
  ·have hb:=h.bd r k u g
   have aq:2 ^ k ≤ 4096:=Ay (Nat.pow_le_pow_right (by omega) (by omega:k ≤ n)) ab.2
   rw [Dw,if_pos (by rw [h.len]; simp; omega)]
   unfold Bk
   dsimp only
   rw [if_pos (by simp),XM (by omega) (by omega),Pv v g,Bool.not_not]
   by_cases f:(EK n c r).testBit k = true
   ·have hx:=Lu f
    have hv:=VE h.n12 h.bd (s:=EK n c r ^^^ 2 ^ k) (by omega)
    rw [if_pos f,AY,ai,Aa,AY,ac k g,Aa,AY,MB n c (by omega) (by omega),Aa,Lz (by omega),Yv (by omega) (by omega),WE v g f,AY,MB n c (by omega) (by omega),Aa,A6 (by omega) (by omega),AD (by omega),Bt (by rw [NR]; simp; omega),Aa,if_pos (c:=decide (0 ≤ (k:Int)) = true) (by simp)]
    unfold Pr
    rw [f,Bool.true_and]
    rfl
   ·rw [if_neg f,if_neg (by simp),AD (by omega),if_neg]
    unfold Pr
    simp [f]
  ·rw [Dw,if_neg (by rw [h.len]; simp)]
 ·dsimp only
  rw [Dx,if_neg (by rw [h.len]; simp)]
theorem Nv (c:List (Int × Int)) (h:c.length ≤ 1048576):Gm c = some c:=by
 unfold Gm
 rw [WQ (by simp; omega)]
 rfl
theorem ST (c:List Int) (h:c.length ≤ 1048576):JG c = some c:=by
 unfold JG
 rw [WQ (by simp; omega)]
 rfl
theorem Na (c:List Int) (h:c.length ≤ 1048576):Ft c = some c:=by
 unfold Ft
 rw [WQ (by simp; omega)]
 rfl
def Ady (x:T2) (p n:Int):T2:=(x.1,BD x.2.1 p n,x.2.2.1,x.2.2.2)
theorem XV (l:List Int) (n:Int) (h:l.length < 4611686018427387904):KW l n = some (l.any (· == n)):=by
 unfold KW
 rw [Ny (Ga l n) l (fun u=>!(u == n)) (some false) (some true) h (fun m k u f e=>?_) (fun m=>?_)]
 ·have:l.any (· == n) = !l.all (fun u=>!(u == n)):=by simp [List.any_eq_not_all_not]
  rw [this]
  cases l.all (fun u=>!(u == n)) <;> simp
 ·rw [Ga,if_pos (by simp; omega),AY,e,Aa,AD (by omega)]
  cases u == n <;> simp
 ·rw [Ga,if_neg (by simp)]
abbrev BV:=Aev × Aev × Int × (List Int)
def IQ (l:List Int) (i:Nat):Int:=(l[i]?).getD 0
theorem JC {l:List Int} {i:Nat} (h:i < l.length):l[i]? = some (IQ l i):=by unfold IQ; rw [Cp h]; rfl
def OW (l:List Int) (n:Nat) (i:Nat):Bool:=BM (IQ l i) 0 ((n:Int) - 1) && !(l.take i).any (· == IQ l i)
def Ry (l:List Int) (n:Nat):Bool:=(List.range l.length).all (OW l n) && ((l.length:Int) == (n:Int))
theorem Vn {l:List Int} {n:Nat} (f:l.length < 4611686018427387904) (g:n ≤ 12):Ju l (n:Int) = some (Ry l n):=by
 unfold Ju Ry
 rw [O5 (EA l (n:Int)) l.length (OW l n) (some ((l.length:Int) == (n:Int))) (some false) f (fun m k e=>?_) (fun m=>?_)]
 ·cases (List.range l.length).all (OW l n) <;> simp
 ·rw [EA,if_pos (by simp; omega),AY,JC e,Aa]
  unfold Bk OW
  dsimp only
  rw [CU,Aa,A6 (by omega) (by omega),LM _ (by omega),Aa,XV _ _ (by simp; omega),Aa,AD (by omega)]
  cases BM (IQ l k) 0 ((n:Int) - 1) with
  | false=>rfl
  | true=>cases (l.take k).any (· == IQ l k) <;> rfl
 ·rw [EA,if_neg (by simp)]
def Q9 (l:List Int) (i:Nat):Nat:=(l.take i).foldl (fun a k=>a ||| 2 ^ k.toNat) 0
theorem UM {l:List Int} {i:Nat} (h:i < l.length):Q9 l (i + 1) = Q9 l i ||| 2 ^ (IQ l i).toNat:=by
 unfold Q9
 rw [List.take_add_one,JC h,List.foldl_append]
 rfl
theorem SO {l:List Int} {n:Nat} (m:n ≤ 12):∀ i,i ≤ l.length → (∀ j,j < i → OW l n j = true) → Q9 l i < 2 ^ 12 ∧ ∀ b:Nat,(Q9 l i).testBit b = (l.take i).any (· == (b:Int))
 | 0,_,_=>⟨by unfold Q9; simp,fun b=>by unfold Q9; simp⟩
 | i + 1,h,hk=>by
  obtain ⟨h1,f⟩:=SO m i (by omega) (fun j s=>hk j (by omega))
  have e:=hk i (by omega)
  unfold OW at e
  rw [Cg,D9] at e
  have g:2 ^ (IQ l i).toNat < 2 ^ 12:=Nat.pow_lt_pow_right (by omega) (by omega)
  rw [UM (by omega)]
  refine ⟨Nat.or_lt_two_pow h1 g,fun b=>?_⟩
  rw [Nat.testBit_or,f,Nat.testBit_two_pow,List.take_add_one,JC (by omega),List.any_append]
  congr 1
  rw [Bool.eq_iff_iff]
  simp
  omega
theorem Tr {l:List Int} {n:Nat} (v:l.length < 4611686018427387904) (hn:n ≤ 12):Ik l (n:Int) = some (Ry l n):=by
 unfold Ik Ry
 have:=Acr (Ef l (n:Int)) l.length (OW l n) (fun i=>(Q9 l i:Int)) (some ((l.length:Int) == (n:Int))) (some false) v (fun m k g aa=>?_) (fun m=>?_)
 ·refine Eq.trans this ?_
  cases (List.range l.length).all (OW l n) <;> simp
 ·obtain ⟨h1,h⟩:=SO hn k (by omega) aa
  rw [Ef,if_pos (by simp; omega),AY,JC g,Aa]
  unfold Bk OW
  dsimp only
  rw [CT,Aa,A6 (by omega) (by omega),AD (by omega)]
  cases s:BM (IQ l k) 0 ((n:Int) - 1) with
  | false=>rfl
  | true =>
   have u:=D9.1 s
   have e:IQ l k = ((IQ l k).toNat:Int):=by omega
   have hp:2 ^ (IQ l k).toNat < 2 ^ 12:=Nat.pow_lt_pow_right (by omega) (by omega)
   have f:=h (IQ l k).toNat
   rw [← e] at f
   rw [if_neg (by simp),if_pos (by simpa using u.1)]
   conv=>lhs; rw [e]
   rw [Uu (by omega) (by omega),Lz (by omega),Yv (by omega) (by omega),f,UM g]
   cases (l.take k).any (· == IQ l k)
   ·rw [if_neg (by simp),if_pos (decide_eq_true (Int.natCast_nonneg _)),if_pos (by simp)]
   ·simp
 ·rw [Ef,if_neg (by simp)]
def LH (a b:List (Int × Int)) (n:Int):Bool:=Cv a && (Cv b && (((a.length:Int) == (b.length:Int)) && BM n 1 64))
theorem Pu {a b:List (Int × Int)} {n:Int} (e:a.length < 4611686018427387904) (f:b.length < 4611686018427387904):H6 a b n = some (LH a b n):=by
 unfold H6 Bk LH
 dsimp only
 rw [GQ a e,Aa,GQ b f,CT,Aa,Aa]
 cases Cv a <;> cases Cv b <;> cases ((a.length:Int) == (b.length:Int)) <;> rfl
theorem RP {a b:List (Int × Int)} (e:a.length < 4611686018427387904) (f:b.length < 4611686018427387904):Je a b = some (Cv a && (Cv b && ((a.length:Int) == (b.length:Int)))):=by
 unfold Je Bk
 dsimp only
 rw [J1 a e,Aa,J1 b f,Aa]
 cases Cv a <;> cases Cv b <;> rfl
theorem QB {a b:List (Int × Int)} {n:Int} (e:a.length < 4611686018427387904) (f:b.length < 4611686018427387904):I1 a b n = some (LH a b n):=by
 unfold I1 Bk LH
 dsimp only
 rw [RP e f,Aa,CU,Aa]
 cases Cv a <;> cases Cv b <;> cases ((a.length:Int) == (b.length:Int)) <;> rfl
structure Aav (a b:List (Int × Int)) (n:Int):Prop where
 ca:Cv a = true
 cb:Cv b = true
 le:a.length = b.length
 l1:1 ≤ a.length
 l12:a.length ≤ 12
 n1:1 ≤ n
 n64:n ≤ 64
theorem LG {a b:List (Int × Int)} {n:Int}:LH a b n = true ↔ Aav a b n:=by
 unfold LH
 rw [Cg,Cg,Cg,D9,beq_iff_eq]
 constructor
 ·rintro ⟨h1,f,g,e⟩
  have:=CY h1
  exact ⟨h1,f,by omega,this.1,this.2,e.1,e.2⟩
 ·rintro h
  exact ⟨h.ca,h.cb,by have:=h.le; omega,h.n1,h.n64⟩
def Lp (t:BV):Bool:=LH t.1 t.2.1 t.2.2.1 && Ry t.2.2.2 t.1.length
theorem Lq {t:BV} (h1:t.1.length < 4611686018427387904) (e:t.2.1.length < 4611686018427387904) (g:t.2.2.2.length < 4611686018427387904):Fp t = some (Lp t):=by
 unfold Fp Bk Lp LH
 dsimp only
 rw [GQ _ h1,Aa,GQ _ e,CT,Aa,Aa]
 cases f:Cv t.1 with
 | false=>rfl
 | true =>
  rw [Tr g (CY f).2,Aa]
  cases Cv t.2.1 <;> cases ((t.1.length:Int) == (t.2.1.length:Int)) <;> cases BM t.2.2.1 1 64 <;> rfl
theorem OQ {t:BV} (h1:t.1.length < 4611686018427387904) (e:t.2.1.length < 4611686018427387904) (g:t.2.2.2.length < 4611686018427387904):Ia t = some (Lp t):=by
 unfold Ia Bk Lp LH
 dsimp only
 rw [RP h1 e,Aa,CU,Aa]
 cases f:Cv t.1 with
 | false=>rfl
 | true =>
  rw [Vn g (CY f).2,Aa]
  cases Cv t.2.1 <;> cases ((t.1.length:Int) == (t.2.1.length:Int)) <;> cases BM t.2.2.1 1 64 <;> rfl
def Qj:BV:=([],[],0,[])
def QK (n:Nat):List Int:=(List.range n).map fun (i:Nat)=>(i:Int)
def Ek (a b:List (Int × Int)) (n:Int):BV × Bool:=if LH a b n = true then ((a,b,n,QK a.length),true) else (Qj,false)
theorem KR {a b:List (Int × Int)} {n:Int} {p:List Int} (f:a.length ≤ 1000) (g:b.length ≤ 1000) (e:p.length ≤ 1000):EI a b n p = some (a,b,n,p):=by
 unfold EI
 rw [Bt (by simp; omega),Aa,Bt (by simp; omega),Aa,Na _ (by omega),Aa,List.nil_append,List.nil_append]
theorem OP {a b:List (Int × Int)} {n:Int} {p:List Int} (f:a.length ≤ 1000) (g:b.length ≤ 1000) (e:p.length ≤ 1000):HZ a b n p = some (a,b,n,p):=by
 unfold HZ
 rw [Nv _ (by omega),Aa,Nv _ (by omega),Aa,ST _ (by omega),Aa]
theorem NQ (n:Nat):(QK n).length = n:=by unfold QK; simp
theorem UV (n:Nat):QK (n + 1) = QK n ++ [(n:Int)]:=by unfold QK; rw [List.range_succ,List.map_append]; rfl
theorem Me {a b:List (Int × Int)} {n:Int} (g:a.length < 4611686018427387904) (h:b.length < 4611686018427387904):ER a b n = some (Ek a b n):=by
 unfold ER Ek
 rw [Pu g h,Aa]
 cases e:LH a b n with
 | false=>rfl
 | true =>
  have f:=LG.1 e
  have:=f.l12
  have:=f.le
  rw [if_neg (by simp),if_pos rfl]
  refine EM (Dg a b n) a.length QK _ (by omega) (j:=0) (by omega) (fun m k _ l=>?_) (fun m=>?_)
  ·rw [Dg,if_pos (by simp; omega),Bt (by simp [NQ]; omega),Aa,AD (by omega),UV]
  ·rw [Dg,if_neg (by simp),KR (by omega) (by omega) (by rw [NQ]; omega),Aa]
theorem LT {a b:List (Int × Int)} {n:Int} (g:a.length < 4611686018427387904) (h:b.length < 4611686018427387904):Gn a b n = some (Ek a b n):=by
 unfold Gn Ek
 rw [QB g h,Aa]
 cases e:LH a b n with
 | false=>rfl
 | true =>
  have f:=LG.1 e
  have:=f.l12
  have:=f.le
  rw [if_neg (by simp),if_pos rfl]
  refine EM (Df a b n) a.length QK _ (by omega) (j:=0) (by omega) (fun m k _ l=>?_) (fun m=>?_)
  ·rw [Df,if_pos (by simp; omega),Bt (by simp [NQ]; omega),Aa,AD (by omega),UV]
  ·rw [Df,if_neg (by simp),OP (by omega) (by omega) (by rw [NQ]; omega),Aa]
structure XO (t:BV):Prop where
 can:Aav t.1 t.2.1 t.2.2.1
 mat:t.2.2.2.length = t.1.length
 inR:∀ i,i < t.1.length → 0 ≤ IQ t.2.2.2 i ∧ (IQ t.2.2.2 i).toNat < t.2.1.length
theorem NV {t:BV} (h:Lp t = true):XO t:=by
 unfold Lp Ry at h
 rw [Cg,Cg,List.all_eq_true,beq_iff_eq] at h
 obtain ⟨h1,g,l⟩:=h
 have f:=LG.1 h1
 refine ⟨f,by omega,fun i m=>?_⟩
 have e:=g i (List.mem_range.2 (by omega))
 unfold OW at e
 rw [Cg,D9] at e
 have:=f.le
 omega
def DW (l:List (Int × Int)) (i:Nat):Int × Int:=(l[i]?).getD (0,0)
theorem Dq {l:List (Int × Int)} {i:Nat} (h:i < l.length):l[i]? = some (DW l i):=by unfold DW; rw [Cp h]; rfl
theorem I6 {l:List (Int × Int)} (h:Cv l = true) {i:Nat} (e:i < l.length):CX (DW l i) = true:=(I7.1 h).2.1 _ (List.mem_of_getElem? (Dq e))
def Hn (t:BV) (i:Nat):FY:=(DW t.1 i,DW t.2.1 (IQ t.2.2.2 i).toNat,t.2.2.1)
def G4 (t:BV):List FY:=(List.range t.1.length).map (Hn t)
theorem DY (t:BV):(G4 t).length = t.1.length:=by unfold G4; simp
theorem Iu (t:BV) {i:Nat} (h:i < t.1.length):(G4 t)[i]? = some (Hn t i):=by unfold G4; simp [h]
theorem Wo (t:BV) (k:Nat):(List.range (k + 1)).map (Hn t) = (List.range k).map (Hn t) ++ [Hn t k]:=by rw [List.range_succ,List.map_append]; rfl
theorem JZ {t:BV} (f:XO t) {i:Nat} (h:i < t.1.length):I8 (Hn t i):=⟨I6 f.can.ca h,I6 f.can.cb (f.inR i h).2⟩
theorem Oc {t:BV} (f:XO t):H5 t = some (G4 t):=by
 unfold H5
 have:=f.can.l12
 refine EM (Fk t) t.1.length (fun k=>(List.range k).map (Hn t)) _ (by omega) (j:=0) (by omega) (fun m k _ e=>?_) (fun m=>?_)
 ·have h:=f.mat
  have g:=f.inR k e
  rw [Fk,if_pos (by simp; omega),AY,JC (by omega),Aa,AY,Dq e,Aa,Iv g.1,Dq g.2,Aa,Bt (by simp; omega),Aa,AD (by omega),Wo]
  rfl
 ·rw [Fk,if_neg (by rw [f.mat]; simp)]
  rfl
theorem LS {t:BV} (f:XO t):GB t = some (G4 t):=by
 unfold GB
 have:=f.can.l12
 refine EM (Fg t) t.1.length (fun k=>(List.range k).map (Hn t)) _ (by omega) (j:=0) (by omega) (fun m k _ e=>?_) (fun m=>?_)
 ·have h:=f.mat
  have g:=f.inR k e
  rw [Fg,if_pos (by simp; omega),AY,JC (by omega),Aa,AY,Dq e,Aa,Iv g.1,Dq g.2,Aa,Bt (by simp; omega),Aa,AD (by omega),Wo]
  rfl
 ·rw [Fg,if_neg (by rw [f.mat]; simp)]
  rfl
theorem LL {a b:Int × Int} (e:CX a = true) (f:CX b = true):GK a b = (a.1 - b.1) * (a.1 - b.1) + (a.2 - b.2) * (a.2 - b.2) ∧ 0 ≤ GK a b ∧ GK a b ≤ 2089984:=by
 have e:=FM.1 e
 have f:=FM.1 f
 have h1:=Mv (x:=a.1 - b.1) (A:=1280) (by omega) (by omega)
 have g:=Mv (x:=a.2 - b.2) (A:=672) (by omega) (by omega)
 unfold GK
 rw [A6 (x:=a.1 - b.1) (by omega) (by omega),A6 (x:=a.2 - b.2) (by omega) (by omega)]
 generalize (a.1 - b.1) * (a.1 - b.1) = A at *
 generalize (a.2 - b.2) * (a.2 - b.2) = B at *
 rw [A6 (x:=A) (by omega) (by omega),A6 (x:=B) (by omega) (by omega),A6 (by omega) (by omega)]
 omega
def NL (t:BV) (k:Nat):Int:=((List.range k).map fun i=>SQ (Hn t i)).sum
theorem QA (t:BV) (k:Nat):NL t (k + 1) = NL t k + SQ (Hn t k):=by unfold NL; rw [List.range_succ,List.map_append,List.sum_append]; simp
theorem Rv {t:BV} (f:XO t):∀ k,k ≤ t.1.length → 0 ≤ NL t k ∧ NL t k ≤ 2089984 * (k:Int)
 | 0,_=>by simp [NL]
 | k + 1,h=>by
  have e:=Rv f k (by omega)
  have g:=JZ f (i:=k) (by omega)
  have:=(LL g.1 g.2).2
  rw [QA]
  unfold SQ
  omega
def Mz (t:BV):Int × Bool:=if Lp t = true then (NL t t.1.length,true) else (0,false)
theorem TZ {t:BV} (h1:t.1.length < 4611686018427387904) (s:t.2.1.length < 4611686018427387904) (v:t.2.2.2.length < 4611686018427387904):H7 t = some (Mz t):=by
 unfold H7 Mz
 rw [Lq h1 s v,Aa]
 cases u:Lp t with
 | false=>rfl
 | true =>
  have f:=NV u
  have:=f.can.l12
  have e:IG t = some (NL t t.1.length):=by
   unfold IG
   refine EM (Et t) t.1.length (NL t) _ (by omega) (j:=0) (by omega) (fun m k _ h=>?_) (fun m=>?_)
   ·have hm:=f.mat
    have l:=f.inR k h
    have hb:=Rv f k (by omega)
    have g:=JZ f h
    have hq:=(LL g.1 g.2).2
    have e:GK (DW t.1 k) (DW t.2.1 (IQ t.2.2.2 k).toNat) = SQ (Hn t k):=rfl
    rw [Et,if_pos (by simp; omega),AY,JC (by omega),Aa,AY,Dq h,Aa,Iv l.1,Dq l.2,Aa,Ho,Aa,AD (by omega),e,A6 (by unfold SQ; omega) (by unfold SQ; omega),QA]
   ·rw [Et,if_neg (by rw [f.mat]; simp)]
  rw [if_neg (by simp),e,if_pos rfl]
  rfl
theorem TK {t:BV} (h1:t.1.length < 4611686018427387904) (l:t.2.1.length < 4611686018427387904) (u:t.2.2.2.length < 4611686018427387904):H2 t = some (Mz t):=by
 unfold H2 Mz
 rw [OQ h1 l u,Aa]
 cases s:Lp t with
 | false=>rfl
 | true =>
  have f:=NV s
  have:=f.can.l12
  have e:KY t = some (NL t t.1.length):=by
   unfold KY
   rw [LS f,Aa]
   refine EM (Gc (G4 t)) t.1.length (NL t) _ (by omega) (j:=0) (by omega) (fun m k _ h=>?_) (fun m=>?_)
   ·have v:=Rv f k (by omega)
    have g:=JZ f h
    have hq:=(LL g.1 g.2).2
    have e:GK (Hn t k).1 (Hn t k).2.1 = SQ (Hn t k):=rfl
    rw [Gc,if_pos (by rw [DY]; simp; omega),AY,Iu t h,Aa,L5,Aa,AD (by omega),e,A6 (by unfold SQ; omega) (by unfold SQ; omega),QA]
   ·rw [Gc,if_neg (by rw [DY]; simp)]
  rw [if_neg (by simp),e,if_pos rfl]
  rfl
def WD (a b:List (Int × Int)) (i k:Nat):Int:=GK (DW a i) (DW b k)
def Nb (a b:List (Int × Int)) (i:Nat) (n:Nat):List Int:=(List.range n).map (WD a b i)
def Mg (a b:List (Int × Int)) (n:Nat):List (List Int):=(List.range n).map fun i=>Nb a b i b.length
theorem Vf (a b:List (Int × Int)) (i n:Nat):Nb a b i (n + 1) = Nb a b i n ++ [WD a b i n]:=by unfold Nb; rw [List.range_succ,List.map_append]; rfl
theorem Vg (a b:List (Int × Int)) (n:Nat):Mg a b (n + 1) = Mg a b n ++ [Nb a b n b.length]:=by unfold Mg; rw [List.range_succ,List.map_append]; rfl
theorem TW {a b:List (Int × Int)} (g:a.length ≤ 1000) (h:b.length ≤ 1000):IF a b = some (Mg a b a.length):=by
 unfold IF
 refine EM (DE a b) a.length (Mg a b) _ (by omega) (j:=0) (by omega) (fun m i _ e=>?_) (fun m=>?_)
 ·rw [DE,if_pos (by simp; omega),AY,Dq e,Aa]
  refine EM (Es b (DW a i) (Mg a b i) (DE a b m) (i:Int)) b.length (Nb a b i) _ (by omega) (j:=0) (by omega) (fun m k _ f=>?_) (fun m=>?_)
  ·rw [Es,if_pos (by simp; omega),AY,Dq f,Aa,Ho,Aa,Bt (by simp [Nb]; omega),Aa,AD (by omega),Vf]
   rfl
  ·rw [Es,if_neg (by simp),Bt (by simp [Mg]; omega),Aa,AD (by omega),Vg]
 ·rw [DE,if_neg (by simp)]
theorem VT {a b:List (Int × Int)} (g:a.length ≤ 1000) (h:b.length ≤ 1000):JL a b = some (Mg a b a.length):=by
 unfold JL
 refine EM (Ey a b) a.length (Mg a b) _ (by omega) (j:=0) (by omega) (fun m i _ e=>?_) (fun m=>?_)
 ·rw [Ey,if_pos (by simp; omega),AY,Dq e,Aa]
  refine EM (Fh b (DW a i) (Mg a b i) (Ey a b m) (i:Int)) b.length (Nb a b i) _ (by omega) (j:=0) (by omega) (fun m k _ f=>?_) (fun m=>?_)
  ·rw [Fh,if_pos (by simp; omega),AY,Dq f,Aa,L5,Aa,Bt (by simp [Nb]; omega),Aa,AD (by omega),Vf]
   rfl
  ·rw [Fh,if_neg (by simp),Bt (by simp [Mg]; omega),Aa,AD (by omega),Vg]
 ·rw [Ey,if_neg (by simp)]
theorem Zr {a b:List (Int × Int)} {n:Int} (f:Aav a b n):CO (Mg a b a.length) a.length (WD a b):=by
 have h:=f.le
 refine ⟨by simp [Mg],fun i e=>⟨Nb a b i b.length,by simp [Mg,e],by simp [Nb,h],fun k g=>?_⟩,fun i k e g=>?_,f.l1,f.l12⟩
 ·have:k < b.length:=by omega
  simp [Nb,this]
 ·have:=(LL (I6 f.ca e) (I6 f.cb (by omega:k < b.length))).2
  unfold WD
  omega
def Fz (a b:List (Int × Int)) (n:Int):BV × Bool:=if LH a b n = true then ((a,b,n,KO a.length (WD a b) a.length),true) else (Qj,false)
theorem PT {a b:List (Int × Int)} {n:Int} (g:a.length < 4611686018427387904) (h:b.length < 4611686018427387904):Gq a b n = some (Fz a b n):=by
 unfold Gq Fz
 rw [Pu g h,Aa]
 cases e:LH a b n with
 | false=>rfl
 | true =>
  have f:=LG.1 e
  have:=f.l12
  have:=f.le
  rw [if_neg (by simp),if_pos rfl,TW (by omega) (by omega),Aa,QO (Zr f),Aa,KR (by omega) (by omega) (by rw [NR]; omega),Aa]
theorem PH {a b:List (Int × Int)} {n:Int} (g:a.length < 4611686018427387904) (h:b.length < 4611686018427387904):Gp a b n = some (Fz a b n):=by
 unfold Gp Fz
 rw [QB g h,Aa]
 cases e:LH a b n with
 | false=>rfl
 | true =>
  have f:=LG.1 e
  have:=f.l12
  have:=f.le
  rw [if_neg (by simp),if_pos rfl,VT (by omega) (by omega),Aa,VS (Zr f),Aa,OP (by omega) (by omega) (by rw [NR]; omega),Aa]
structure SmT (t:BV):Prop where
 h1:t.1.length ≤ 12
 h2:t.2.1.length ≤ 12
 h3:t.2.2.2.length ≤ 12
theorem SmT.sum {t:BV} (h:SmT t):H7 t = some (Mz t) ∧ H2 t = some (Mz t):=by
 have:=h.h1
 have:=h.h2
 have:=h.h3
 exact ⟨TZ (by omega) (by omega) (by omega),TK (by omega) (by omega) (by omega)⟩
theorem Zd:SmT Qj:=⟨by simp [Qj],by simp [Qj],by simp [Qj]⟩
theorem UX (a b:List (Int × Int)) (n:Int):SmT (Ek a b n).1:=by
 unfold Ek
 split
 ·rename_i h
  have f:=LG.1 h
  have:=f.l12
  have:=f.le
  exact ⟨by dsimp only; omega,by dsimp only; omega,by dsimp only; rw [NQ]; omega⟩
 ·exact Zd
theorem Zh (a b:List (Int × Int)) (n:Int):SmT (Fz a b n).1:=by
 unfold Fz
 split
 ·rename_i h
  have f:=LG.1 h
  have:=f.l12
  have:=f.le
  exact ⟨by dsimp only; omega,by dsimp only; omega,by dsimp only; rw [NR]; omega⟩
 ·exact Zd
theorem Sl:Lp Qj = false:=by decide
theorem Abc (t:BV):0 ≤ (Mz t).1 ∧ (Mz t).1 ≤ 100000000:=by
 unfold Mz
 split
 ·rename_i h
  have f:=NV h
  have:=f.can.l12
  have:=Rv f t.1.length (by omega)
  dsimp only
  omega
 ·simp
def Wf (bad:Nat → Nat → Bool) (n i:Nat):List (List Int):=((List.range' (i + 1) (n - (i + 1))).filter (bad i)).map fun (k:Nat)=>[(i:Int),(k:Int)]
def J5 (bad:Nat → Nat → Bool) (n j:Nat):List (List Int):=(List.range j).foldl (fun s i=>s ++ Wf bad n i) []
theorem ZJ (e:Nat → Nat → Bool) (n i:Nat):(Wf e n i).length ≤ n:=by
 unfold Wf
 rw [List.length_map]
 refine Ay (List.length_filter_le _ _) ?_
 simp
theorem PL (e:Nat → Nat → Bool) (n j:Nat):J5 e n (j + 1) = J5 e n j ++ Wf e n j:=by unfold J5; rw [List.range_succ,List.foldl_append]; rfl
theorem QL (e:Nat → Nat → Bool) (n:Nat):∀ j,(J5 e n j).length ≤ n * j
 | 0=>by simp [J5]
 | j + 1=>by
  have:=QL e n j
  have:=ZJ e n j
  rw [PL,CM,Nat.mul_succ]
  omega
theorem Nx (F1:Nat → List (List Int) → Int → Ae Ae0) (F2:(List (List Int) → Int → Ae Ae0) → Nat → Nat → List (List Int) → Int → Ae Ae0) (e:Nat → Nat → Bool) (n:Nat) (v:n ≤ 100)
  (h1:∀ m s i,i < n → F1 (m + 1) s (i:Int) = F2 (F1 m) i FU s ((i + 1:Nat):Int))
  (h:∀ nx i m s k,i < n → k < n → s.length ≤ 1000000 → F2 nx i (m + 1) s (k:Int) = F2 nx i m (if e i k then s ++ [[(i:Int),(k:Int)]] else s) ((k + 1:Nat):Int))
  (l:∀ nx i m s,i < n → F2 nx i (m + 1) s (n:Int) = nx s ((i + 1:Nat):Int))
  (g:∀ m s,F1 (m + 1) s (n:Int) = some s):F1 FU [] 0 = some (J5 e n n):=by
 refine EM F1 n (J5 e n) _ (by omega) (j:=0) (by omega) (fun m i _ f=>?_) (fun m=>g m _)
 have hl:=QL e n i
 have hm:n * i ≤ 100 * 100:=Nat.mul_le_mul v (by omega)
 rw [h1 m _ i f,ZV (F2 (F1 m) i) n 1000000 (e i) (fun (k:Nat)=>[(i:Int),(k:Int)]) (fun s=>F1 m s ((i + 1:Nat):Int)) (by omega) (fun q s k u hs=>h _ i q s k f u (by omega)) (fun q s=>l _ i q s f) (i + 1) (J5 e n i) (by omega) (by omega),PL]
 rfl
theorem Za {e:Nat → Nat → Bool} {n j:Nat} {q:List Int} (h:q ∈ J5 e n j):∃ i k:Nat,q = [(i:Int),(k:Int)] ∧ i < j ∧ i < k ∧ k < n ∧ e i k = true:=by
 induction j with
 | zero=>cases h
 | succ j l =>
  rw [PL,AX] at h
  rcases h with h | h
  ·obtain ⟨i,k,h1,m,g⟩:=l h
   exact ⟨i,k,h1,by omega,g⟩
  ·unfold Wf at h
   obtain ⟨k,f,rfl⟩:=List.mem_map.1 h
   rw [List.mem_filter,List.mem_range'_1] at f
   exact ⟨j,k,rfl,by omega,by omega,by omega,f.2⟩
def XK (t:BV) (least:Int) (i k:Nat):Bool:=!Sf (Hn t i) (Hn t k) least
def Lf (t:BV) (least:Int):Ae0 × Bool:=if (Lp t && BM least 0 80) = true then (J5 (XK t least) t.1.length t.1.length,true) else ([],false)
theorem QR {t:BV} (h:SmT t) (g:Int):GZ t g = some (Lf t g):=by
 have:=h.h1
 have:=h.h2
 have:=h.h3
 unfold GZ Bk Lf
 dsimp only
 rw [Lq (by omega) (by omega) (by omega),Aa,QP,Aa]
 cases ho:Lp t with
 | false=>rfl
 | true =>
  cases l:BM g 0 80 with
  | false=>rfl
  | true =>
   have f:=NV ho
   have e:GY t g = some (J5 (XK t g) t.1.length t.1.length):=by
    unfold GY
    rw [Oc f,Aa]
    refine Nx (Dz (G4 t) g) (fun u i=>Dy (G4 t) (i:Int) g u) _ _ (by omega) (fun m s i l=>?_) (fun u i m s k l v hs=>?_) (fun u i m s l=>?_) (fun m s=>?_)
    ·rw [Dz,if_pos (by rw [DY]; simp; omega),AD (by omega)]
    ·rw [Dy,if_pos (by rw [DY]; simp; omega)]
     unfold Bk XK
     dsimp only
     rw [AY,Iu t l,Aa,AY,Iu t v,Aa,TV _ _ _ (JZ f l) (JZ f v),Aa,Bt (by simp; omega),Aa,AD (by omega)]
     cases Sf (Hn t i) (Hn t k) g <;> rfl
    ·rw [Dy,if_neg (by rw [DY]; simp),AD (by omega)]
    ·rw [Dz,if_neg (by rw [DY]; simp)]
   rw [e]
   rfl
theorem QC {t:BV} (h:SmT t) (g:Int):GT t g = some (Lf t g):=by
 have:=h.h1
 have:=h.h2
 have:=h.h3
 unfold GT Li Bk Lf
 dsimp only
 rw [OQ (by omega) (by omega) (by omega),Aa,Oz,Aa]
 cases ho:Lp t with
 | false=>rfl
 | true =>
  cases l:BM g 0 80 with
  | false=>rfl
  | true =>
   have f:=NV ho
   have e:JK t g = some (J5 (XK t g) t.1.length t.1.length):=by
    unfold JK
    rw [LS f,Aa]
    refine Nx (Ff (G4 t) g) (fun u i=>Fe (G4 t) (Hn t i) g (i:Int) u) _ _ (by omega) (fun m s i l=>?_) (fun u i m s k l v hs=>?_) (fun u i m s l=>?_) (fun m s=>?_)
    ·rw [Ff,if_pos (by rw [DY]; simp; omega),AY,Iu t l,Aa,AD (by omega)]
    ·rw [Fe,if_pos (by rw [DY]; simp; omega)]
     unfold Bk XK
     dsimp only
     rw [AY,Iu t v,Aa,Xj _ _ _ (JZ f l) (JZ f v),Aa,Bt (by simp; omega),Aa,AD (by omega)]
     cases Sf (Hn t i) (Hn t k) g <;> rfl
    ·rw [Fe,if_neg (by rw [DY]; simp),AD (by omega)]
    ·rw [Ff,if_neg (by rw [DY]; simp)]
   rw [e]
   rfl
theorem MT {a b:Int} (u:0 ≤ a) (ad:a ≤ 4000000000000000000) (hb:0 < b) (ah:b ≤ 1000000000000000) :
  ∃ g:Int,0 < g ∧ a = (Ip a b).1 * g ∧ b = (Ip a b).2 * g ∧ 0 ≤ (Ip a b).1 ∧ (Ip a b).1 ≤ a ∧ 0 < (Ip a b).2 ∧ (Ip a b).2 ≤ b:=by
 have f:0 < Nat.gcd a.toNat b.toNat:=Nat.gcd_pos_of_pos_right _ (by omega)
 obtain ⟨x,hx⟩:=Nat.gcd_dvd_left a.toNat b.toNat
 obtain ⟨y,hy⟩:=Nat.gcd_dvd_right a.toNat b.toNat
 have l:a = ((Nat.gcd a.toNat b.toNat * x:Nat):Int):=by omega
 have e:b = ((Nat.gcd a.toNat b.toNat * y:Nat):Int):=by omega
 unfold Ip
 generalize Nat.gcd a.toNat b.toNat = g at *
 have aa:x ≤ g * x:=Nat.le_mul_of_pos_left _ f
 have v:y ≤ g * y:=Nat.le_mul_of_pos_left _ f
 have m:Int.tdiv a (g:Int) = (x:Int):=by rw [l,Int.natCast_mul,Int.mul_comm,Int.mul_tdiv_cancel _ (by omega)]
 have s:Int.tdiv b (g:Int) = (y:Int):=by rw [e,Int.natCast_mul,Int.mul_comm,Int.mul_tdiv_cancel _ (by omega)]
 rw [m,s,A6 (by omega) (by omega),A6 (by omega) (by omega)]
 have y0:0 < y:=by
  rcases Nat.eq_zero_or_pos y with h | h
  ·subst h; simp at e; omega
  ·exact h
 refine ⟨(g:Int),by omega,?_,?_,by omega,by omega,by omega,by omega⟩
 ·dsimp only; rw [l,Int.natCast_mul,Int.mul_comm]
 ·dsimp only; rw [e,Int.natCast_mul,Int.mul_comm]
def G6 (M:Int) (f:Int × Int):Bool:=decide (f.1 < M * f.2)
theorem PO {a b g:Int} (e:0 < g):a * g < b * g ↔ a < b :=
 ⟨fun h=>Int.lt_of_mul_lt_mul_right h (Int.le_of_lt e),fun h=>Int.mul_lt_mul_of_pos_right h e⟩
theorem Zw {M a b e f g:Int} (l:0 < g) (h:a = e * g) (m:b = f * g):G6 M (a,b) = G6 M (e,f):=by
 unfold G6
 rw [decide_eq_decide]
 dsimp only
 rw [h,m,← Int.mul_assoc,PO l]
theorem Uv {M a b:Int} (f:0 ≤ a) (l:a ≤ 4000000000000000000) (m:0 < b) (s:b ≤ 1000000000000000):G6 M (Ip a b) = G6 M (a,b):=by
 obtain ⟨g,h,h1,e,_⟩:=MT f l m s
 rw [Zw h h1 e]
def OV (a b:Int × Int):Int × Int:=if R0 b.1 b.2 a.1 a.2 = true then b else a
theorem WN {M:Int} {a b:Int × Int} (g:0 < a.2) (f:0 < b.2):G6 M (OV a b) = (G6 M a || G6 M b):=by
 unfold OV R0
 by_cases h:b.1 * a.2 < a.1 * b.2
 ·rw [if_pos (decide_eq_true h)]
  rw [Bool.eq_iff_iff,Bool.or_eq_true]
  refine ⟨.inr,fun h1=>h1.elim (fun h1=>?_) id⟩
  unfold G6 at h1 ⊢
  rw [CC] at h1 ⊢
  have l:a.1 * b.2 < M * a.2 * b.2:=Int.mul_lt_mul_of_pos_right h1 f
  have e:b.1 * a.2 < M * b.2 * a.2:=by
   have:M * a.2 * b.2 = M * b.2 * a.2:=by rw [Int.mul_assoc,Int.mul_comm a.2,← Int.mul_assoc]
   omega
  exact (PO g).1 e
 ·rw [if_neg (by simpa using h)]
  rw [Bool.eq_iff_iff,Bool.or_eq_true]
  refine ⟨.inl,fun h1=>h1.elim id (fun h1=>?_)⟩
  unfold G6 at h1 ⊢
  rw [CC] at h1 ⊢
  have l:b.1 * a.2 < M * b.2 * a.2:=Int.mul_lt_mul_of_pos_right h1 g
  have e:a.1 * b.2 < M * a.2 * b.2:=by
   have:M * a.2 * b.2 = M * b.2 * a.2:=by rw [Int.mul_assoc,Int.mul_comm a.2,← Int.mul_assoc]
   omega
  exact (PO f).1 e
abbrev HQ:=Int × Int
def IM (P Q:HQ):Bool:=decide (P.1 * (Q.1 - P.1) + P.2 * (Q.2 - P.2) < 0) && decide (0 - (P.1 * (Q.1 - P.1) + P.2 * (Q.2 - P.2)) < (Q.1 - P.1) * (Q.1 - P.1) + (Q.2 - P.2) * (Q.2 - P.2))
def H9 (P Q:HQ):Int:=P.1 * Q.2 - P.2 * Q.1
def Lv (P Q:HQ):Int:=(Q.1 - P.1) * (Q.1 - P.1) + (Q.2 - P.2) * (Q.2 - P.2)
def Jn (P:HQ):Int:=P.1 * P.1 + P.2 * P.2
def IR (P Q:HQ):Int × Int:=if IM P Q = true then (H9 P Q * H9 P Q,Lv P Q) else (Jn Q,1)
def LU (P Q:HQ):Int × Int:=if IM P Q = true then (H9 P Q * H9 P Q,Lv P Q) else (min (Jn P) (Jn Q),1)
theorem Aax (x:Int):0 ≤ x * x:=by
 have:(0:Int) ≤ ((x.natAbs * x.natAbs:Nat):Int):=Int.natCast_nonneg _
 rwa [Int.natAbs_mul_self] at this
theorem Aee (P Q:HQ):H9 P Q * H9 P Q + (P.1 * (Q.1 - P.1) + P.2 * (Q.2 - P.2)) * (P.1 * (Q.1 - P.1) + P.2 * (Q.2 - P.2)) = Jn P * Lv P Q:=by
 unfold H9 Jn Lv
 grind
theorem Adt (P Q:HQ):H9 P Q * H9 P Q + (Q.1 * (Q.1 - P.1) + Q.2 * (Q.2 - P.2)) * (Q.1 * (Q.1 - P.1) + Q.2 * (Q.2 - P.2)) = Jn Q * Lv P Q:=by
 unfold H9 Jn Lv
 grind
theorem Ac7 (P Q:HQ):H9 P Q * H9 P Q ≤ Jn P * Lv P Q ∧ H9 P Q * H9 P Q ≤ Jn Q * Lv P Q:=by
 have h1:=Aee P Q
 have f:=Adt P Q
 have g:=Aax (P.1 * (Q.1 - P.1) + P.2 * (Q.2 - P.2))
 have e:=Aax (Q.1 * (Q.1 - P.1) + Q.2 * (Q.2 - P.2))
 omega
theorem Sn {P Q:HQ} (h:IM P Q = true):0 < Lv P Q:=by
 unfold IM at h
 rw [Cg,CC,CC] at h
 unfold Lv
 omega
theorem Abs {M a b:Int}:G6 M (min a b,1) = (G6 M (a,1) || G6 M (b,1)):=by
 unfold G6
 rw [Bool.eq_iff_iff,Bool.or_eq_true]
 simp only [CC]
 omega
theorem Vi {M:Int} {P Q:HQ} (h:IM P Q = true):(G6 M (Jn P,1) = true → G6 M (IR P Q) = true) ∧ (G6 M (Jn Q,1) = true → G6 M (IR P Q) = true):=by
 have l:=Sn h
 obtain ⟨g,m⟩:=Ac7 P Q
 have f:∀ x,H9 P Q * H9 P Q ≤ x * Lv P Q → G6 M (x,1) = true → G6 M (IR P Q) = true:=by
  intro x s e
  unfold G6 IR at *
  rw [if_pos h]
  rw [CC] at e ⊢
  dsimp only at e ⊢
  have:x * Lv P Q < M * 1 * Lv P Q:=Int.mul_lt_mul_of_pos_right e l
  rw [Int.mul_one] at this
  omega
 exact ⟨f _ g,f _ m⟩
theorem WO {M:Int} {P Q:HQ}:G6 M (LU P Q) = if IM P Q = true then G6 M (IR P Q) else (G6 M (Jn P,1) || G6 M (Jn Q,1)):=by
 unfold LU IR
 split
 ·rfl
 ·exact Abs
def Mi (M:Int) (D:Nat → HQ):Nat → Bool
 | 0=>G6 M (Jn (D 0),1)
 | k + 1=>Mi M D k || G6 M (IR (D k) (D (k + 1)))
def KC (M:Int) (D:Nat → HQ):Nat → Bool
 | 0=>false
 | k + 1=>KC M D k || G6 M (LU (D k) (D (k + 1)))
theorem Abx {M:Int} {D:Nat → HQ}:∀ k,G6 M (Jn (D k),1) = true → Mi M D k = true
 | 0,h=>h
 | k + 1,h=>by
  rw [Mi,Bool.or_eq_true]
  right
  by_cases e:IM (D k) (D (k + 1)) = true
  ·exact (Vi e).2 h
  ·unfold IR
   rw [if_neg e]
   exact h
theorem Adc {M:Int} {D:Nat → HQ}:∀ k,Mi M D (k + 1) = KC M D (k + 1):=by
 have m:∀ k,KC M D k = true → Mi M D k = true:=by
  intro k
  induction k with
  | zero=>intro h; cases h
  | succ k f =>
   intro h
   rw [KC,Bool.or_eq_true,WO] at h
   rw [Mi,Bool.or_eq_true]
   rcases h with h | h
   ·exact .inl (f h)
   ·by_cases e:IM (D k) (D (k + 1)) = true
    ·rw [if_pos e] at h; exact .inr h
    ·rw [if_neg e,Bool.or_eq_true] at h
     rcases h with h | h
     ·exact .inl (Abx k h)
     ·right; unfold IR; rw [if_neg e]; exact h
 have l:∀ k,Mi M D (k + 1) = true → KC M D (k + 1) = true:=by
  have g:∀ k,G6 M (IR (D k) (D (k + 1))) = true → KC M D (k + 1) = true:=by
   intro k h
   rw [KC,Bool.or_eq_true,WO]
   right
   by_cases e:IM (D k) (D (k + 1)) = true
   ·rw [if_pos e]; exact h
   ·rw [if_neg e,Bool.or_eq_true]
    unfold IR at h
    rw [if_neg e] at h
    exact .inr h
  intro k
  induction k with
  | zero =>
   intro h
   rw [Mi,Mi,Bool.or_eq_true] at h
   rcases h with h | h
   ·rw [KC,KC,Bool.false_or,WO]
    by_cases e:IM (D 0) (D (0 + 1)) = true
    ·rw [if_pos e]; exact (Vi e).1 h
    ·rw [if_neg e,Bool.or_eq_true]; exact .inl h
   ·exact g 0 h
  | succ k f =>
   intro h
   rw [Mi,Bool.or_eq_true] at h
   rcases h with h | h
   ·rw [KC,Bool.or_eq_true]; exact .inl (f h)
   ·exact g (k + 1) h
 intro k
 rw [Bool.eq_iff_iff]
 exact ⟨l k,m (k + 1)⟩
def tD (C p k:Int):Int:=max 0 (min C (k - p))
def DA (m:FY) (p k:Int):HQ:=(m.1.1 * m.2.2 + (m.2.1.1 - m.1.1) * tD m.2.2 p k,m.1.2 * m.2.2 + (m.2.1.2 - m.1.2) * tD m.2.2 p k)
theorem XR {C p k:Int} (h:1 ≤ C):0 ≤ tD C p k ∧ tD C p k ≤ C:=by unfold tD; omega
theorem Tf {a b c k B:Int} (e:0 ≤ a ∧ a ≤ B) (f:0 ≤ b ∧ b ≤ B) (g:0 ≤ k ∧ k ≤ c):0 ≤ a * c + (b - a) * k ∧ a * c + (b - a) * k ≤ B * c ∧ 0 ≤ a * c ∧ a * c ≤ B * c ∧ - (B * c) ≤ (b - a) * k ∧ (b - a) * k ≤ B * c:=by
 have h1:a * c + (b - a) * k = a * (c - k) + b * k:=by rw [Int.sub_mul,Int.mul_sub]; omega
 have s:0 ≤ a * (c - k):=Int.mul_nonneg e.1 (by omega)
 have v:0 ≤ b * k:=Int.mul_nonneg f.1 g.1
 have m:a * (c - k) ≤ B * (c - k):=Int.mul_le_mul_of_nonneg_right e.2 (by omega)
 have h5:b * k ≤ B * k:=Int.mul_le_mul_of_nonneg_right f.2 g.1
 have h:0 ≤ a * c:=Int.mul_nonneg e.1 (by omega)
 have l:a * c ≤ B * c:=Int.mul_le_mul_of_nonneg_right e.2 (by omega)
 have u:B * c = B * (c - k) + B * k:=by rw [← Int.mul_add]; congr 1; omega
 exact ⟨by omega,by omega,h,l,by omega,by omega⟩
theorem X6 {m:FY} (g:I8 m) (h:1 ≤ m.2.2) (l:m.2.2 ≤ 16) (p k:Int):(0 ≤ (DA m p k).1 ∧ (DA m p k).1 ≤ 20480) ∧ 0 ≤ (DA m p k).2 ∧ (DA m p k).2 ≤ 10752:=by
 have h1:=FM.1 g.1
 have e:=FM.1 g.2
 have f:=XR (C:=m.2.2) (p:=p) (k:=k) h
 have u:=Tf h1.1 e.1 f
 have s:=Tf h1.2 e.2 f
 unfold DA
 dsimp only
 omega
theorem Yw {m:FY} (g:I8 m) (h:1 ≤ m.2.2) (l:m.2.2 ≤ 16) {t:Int} (f:0 ≤ t ∧ t ≤ m.2.2):FP m t = some (m.1.1 * m.2.2 + (m.2.1.1 - m.1.1) * t,m.1.2 * m.2.2 + (m.2.1.2 - m.1.2) * t) ∧ L1 m t = some (m.1.1 * m.2.2 + (m.2.1.1 - m.1.1) * t,m.1.2 * m.2.2 + (m.2.1.2 - m.1.2) * t):=by
 have h1:=FM.1 g.1
 have e:=FM.1 g.2
 have u:=Tf h1.1 e.1 f
 have s:=Tf h1.2 e.2 f
 unfold FP L1
 rw [A6 (x:=m.2.1.1 - m.1.1) (by omega) (by omega),A6 (x:=m.2.1.2 - m.1.2) (by omega) (by omega),Int.mul_comm t,Int.mul_comm t,A6 (x:=m.1.1 * m.2.2) (by omega) (by omega),A6 (x:=m.1.2 * m.2.2) (by omega) (by omega),A6 (x:=(m.2.1.1 - m.1.1) * t) (by omega) (by omega),A6 (x:=(m.2.1.2 - m.1.2) * t) (by omega) (by omega),
  A6 (x:=m.1.1 * m.2.2 + _) (by omega) (by omega),A6 (x:=m.1.2 * m.2.2 + _) (by omega) (by omega)]
 exact ⟨rfl,rfl⟩
theorem Nl {m:FY} (g:I8 m) (f:1 ≤ m.2.2) (h:m.2.2 ≤ 16) {p k:Int} (s:0 ≤ p ∧ p ≤ 4) (l:0 ≤ k ∧ k ≤ 1000):Ge m p k = some (DA m p k):=by
 unfold Ge
 have e:Fn (Fy (Ag (k - p)) 0) m.2.2 = tD m.2.2 p k:=by
  rw [A6 (by omega) (by omega)]
  unfold Fn Fy tD
  split <;> split <;> omega
 rw [e,(Yw g f h (XR f)).1]
 rfl
theorem QM (a b:Int):Hp a b = some (max a b):=by
 unfold Hp
 by_cases h:b < a
 ·rw [if_pos (by simpa using h),Int.max_eq_left (by omega)]
 ·rw [if_neg (by simpa using h),Int.max_eq_right (by omega)]
theorem Oy {m:FY} (g:I8 m) (e:1 ≤ m.2.2) (f:m.2.2 ≤ 16) {p k:Int} (l:0 ≤ p ∧ p ≤ 4) (h:0 ≤ k ∧ k ≤ 1000):Is m p k = some (DA m p k):=by
 unfold Is
 rw [A6 (by omega) (by omega),Ka,Aa,QM,Aa]
 rw [show max 0 (min m.2.2 (k - p)) = tD m.2.2 p k by rfl,(Yw g e f (XR e)).2]
 rfl
structure Mq (P:HQ):Prop where
 a1:-20480 ≤ P.1
 a2:P.1 ≤ 20480
 b1:-10752 ≤ P.2
 b2:P.2 ≤ 10752
structure Aek (P Q:HQ):Prop where
 m1:-838860800 ≤ P.1 * (Q.1 - P.1) ∧ P.1 * (Q.1 - P.1) ≤ 838860800
 m2:-231211008 ≤ P.2 * (Q.2 - P.2) ∧ P.2 * (Q.2 - P.2) ≤ 231211008
 m3:0 ≤ (Q.1 - P.1) * (Q.1 - P.1) ∧ (Q.1 - P.1) * (Q.1 - P.1) ≤ 1677721600
 m4:0 ≤ (Q.2 - P.2) * (Q.2 - P.2) ∧ (Q.2 - P.2) * (Q.2 - P.2) ≤ 462422016
 m5:0 ≤ P.1 * P.1 ∧ P.1 * P.1 ≤ 419430400
 m6:0 ≤ P.2 * P.2 ∧ P.2 * P.2 ≤ 115605504
 m7:0 ≤ Q.1 * Q.1 ∧ Q.1 * Q.1 ≤ 419430400
 m8:0 ≤ Q.2 * Q.2 ∧ Q.2 * Q.2 ≤ 115605504
 m9:-220200960 ≤ P.1 * Q.2 ∧ P.1 * Q.2 ≤ 220200960
 m10:-220200960 ≤ P.2 * Q.1 ∧ P.2 * Q.1 ≤ 220200960
 m11:0 ≤ H9 P Q * H9 P Q ∧ H9 P Q * H9 P Q ≤ 193953851139686400
 m12:-440401920 ≤ P.1 * (Q.2 - P.2) ∧ P.1 * (Q.2 - P.2) ≤ 440401920
 m13:-440401920 ≤ P.2 * (Q.1 - P.1) ∧ P.2 * (Q.1 - P.1) ≤ 440401920
 m14:P.1 * (Q.2 - P.2) - P.2 * (Q.1 - P.1) = H9 P Q
theorem Yu {P Q:HQ} (v:Mq P) (hQ:Mq Q):Aek P Q:=by
 obtain ⟨h,f,g,e⟩:=v
 obtain ⟨l,u,s,m⟩:=hQ
 have m9:=Ma h f s m
 have ad:=Ma g e l u
 have ab:=Mv (x:=H9 P Q) (A:=440401920) (by unfold H9; omega) (by unfold H9; omega)
 refine ⟨Ma (A:=20480) (B:=40960) h f (by omega) (by omega),Ma (A:=10752) (B:=21504) g e (by omega) (by omega),Mv (A:=40960) (by omega) (by omega),Mv (A:=21504) (by omega) (by omega),Mv h f,Mv g e,Mv l u,Mv s m,by omega,by omega,by omega,Ma (A:=20480) (B:=21504) h f (by omega) (by omega),Ma (A:=10752) (B:=40960) g e (by omega) (by omega),?_⟩
 unfold H9
 grind
theorem X0 {P Q:HQ} (g:Mq P) (f:Mq Q):0 ≤ (IR P Q).1 ∧ (IR P Q).1 ≤ 193953851139686400 ∧ 0 < (IR P Q).2 ∧ (IR P Q).2 ≤ 2200000000:=by
 have b:=Yu g f
 have:=b.m3
 have:=b.m4
 have:=b.m7
 have:=b.m8
 have:=b.m11
 unfold IR
 split
 ·rename_i h
  have:=Sn h
  have e:Lv P Q = (Q.1 - P.1) * (Q.1 - P.1) + (Q.2 - P.2) * (Q.2 - P.2):=rfl
  dsimp only
  omega
 ·have e:Jn Q = Q.1 * Q.1 + Q.2 * Q.2:=rfl
  dsimp only
  omega
theorem TM {P Q:HQ} (g:Mq P) (f:Mq Q):0 ≤ (LU P Q).1 ∧ (LU P Q).1 ≤ 193953851139686400 ∧ 0 < (LU P Q).2 ∧ (LU P Q).2 ≤ 2200000000:=by
 have b:=Yu g f
 have:=b.m3
 have:=b.m4
 have:=b.m5
 have:=b.m6
 have:=b.m7
 have:=b.m8
 have:=b.m11
 unfold LU
 split
 ·rename_i h
  have:=Sn h
  have e:Lv P Q = (Q.1 - P.1) * (Q.1 - P.1) + (Q.2 - P.2) * (Q.2 - P.2):=rfl
  dsimp only
  omega
 ·have e:Jn Q = Q.1 * Q.1 + Q.2 * Q.2:=rfl
  have l:Jn P = P.1 * P.1 + P.2 * P.2:=rfl
  dsimp only
  omega
theorem Acn {P:HQ} (e:Mq P):0 ≤ Jn P ∧ Jn P ≤ 535035904:=by
 have b:=Yu e e
 have:=b.m5
 have:=b.m6
 unfold Jn
 omega
def XP (f:Int × Int):Prop:=0 ≤ f.1 ∧ f.1 ≤ 193953851139686400 ∧ 0 < f.2 ∧ f.2 ≤ 2200000000
theorem XC {a b:Int × Int} (e:XP a) (f:XP b):XP (OV a b):=by unfold OV; split <;> assumption
def Do (D:Nat → HQ):Nat → Int × Int
 | 0=>(Jn (D 0),1)
 | k + 1=>OV (Do D k) (IR (D k) (D (k + 1)))
def HE (D:Nat → HQ):Nat → Int × Int
 | 0=>(-1,1)
 | k + 1=>if (HE D k).1 < 0 then LU (D k) (D (k + 1)) else OV (HE D k) (LU (D k) (D (k + 1)))
theorem Qa {D:Nat → HQ} (h:∀ k,Mq (D k)) (M:Int):∀ k,XP (Do D k) ∧ G6 M (Do D k) = Mi M D k
 | 0=>by
  have:=Acn (h 0)
  exact ⟨⟨by unfold Do; dsimp only; omega,by unfold Do; dsimp only; omega,by unfold Do; dsimp only; omega,by unfold Do; dsimp only; omega⟩,rfl⟩
 | k + 1=>by
  obtain ⟨h1,f⟩:=Qa h M k
  have e:=X0 (h k) (h (k + 1))
  refine ⟨XC h1 e,?_⟩
  rw [Do,WN h1.2.2.1 e.2.2.1,f,Mi]
theorem PZ {D:Nat → HQ} (h:∀ k,Mq (D k)) (M:Int):∀ k,XP (HE D (k + 1)) ∧ G6 M (HE D (k + 1)) = KC M D (k + 1)
 | 0=>by
  have e:=TM (h 0) (h 1)
  rw [HE,if_pos (by unfold HE; decide),KC,KC,Bool.false_or]
  exact ⟨e,rfl⟩
 | k + 1=>by
  obtain ⟨h1,g⟩:=PZ h M k
  have e:=TM (h (k + 1)) (h (k + 2))
  have f:¬ (HE D (k + 1)).1 < 0:=by have:=h1.1; omega
  rw [HE,if_neg f,WN h1.2.2.1 e.2.2.1,g,KC]
  exact ⟨XC h1 e,rfl⟩
structure Ux (u v:FY) (p q:Int):Prop where
 gu:I8 u
 gv:I8 v
 c1:1 ≤ u.2.2
 c16:u.2.2 ≤ 16
 e:v.2.2 = u.2.2
 p0:0 ≤ p ∧ p ≤ 4
 q0:0 ≤ q ∧ q ≤ 4
def BG (u v:FY) (p q:Int) (k:Nat):HQ:=((DA u p (k:Int)).1 - (DA v q (k:Int)).1,(DA u p (k:Int)).2 - (DA v q (k:Int)).2)
theorem WB {u v:FY} {p q:Int} (f:Ux u v p q) (k:Nat):Mq (BG u v p q k):=by
 have h1:=X6 f.gu f.c1 f.c16 p (k:Int)
 have g:=X6 f.gv (by rw [f.e]; exact f.c1) (by rw [f.e]; exact f.c16) q (k:Int)
 unfold BG
 exact ⟨by dsimp only; omega,by dsimp only; omega,by dsimp only; omega,by dsimp only; omega⟩
def Cq (u:FY) (p q:Int):Nat:=(u.2.2 + max p q).toNat
def KU (u v:FY) (p q least:Int):Bool:=KC (least * least * u.2.2 * u.2.2) (BG u v p q) (Cq u p q)
structure Aej (P Q:HQ):Prop where
 w1:Ag (Q.1 - P.1) = Q.1 - P.1
 w2:Ag (Q.2 - P.2) = Q.2 - P.2
 w3:Ag (P.1 * (Q.2 - P.2)) = P.1 * (Q.2 - P.2)
 w4:Ag (P.2 * (Q.1 - P.1)) = P.2 * (Q.1 - P.1)
 w5:Ag (P.1 * (Q.2 - P.2) - P.2 * (Q.1 - P.1)) = H9 P Q
 w6:Ag (H9 P Q * H9 P Q) = H9 P Q * H9 P Q
 w7:Ag ((Q.1 - P.1) * (Q.1 - P.1)) = (Q.1 - P.1) * (Q.1 - P.1)
 w8:Ag ((Q.2 - P.2) * (Q.2 - P.2)) = (Q.2 - P.2) * (Q.2 - P.2)
 w9:Ag ((Q.1 - P.1) * (Q.1 - P.1) + (Q.2 - P.2) * (Q.2 - P.2)) = Lv P Q
 w10:Ag (P.1 * (Q.1 - P.1)) = P.1 * (Q.1 - P.1)
 w11:Ag (P.2 * (Q.2 - P.2)) = P.2 * (Q.2 - P.2)
 w12:Ag (P.1 * (Q.1 - P.1) + P.2 * (Q.2 - P.2)) = P.1 * (Q.1 - P.1) + P.2 * (Q.2 - P.2)
 w13:Ag (0 - (P.1 * (Q.1 - P.1) + P.2 * (Q.2 - P.2))) = 0 - (P.1 * (Q.1 - P.1) + P.2 * (Q.2 - P.2))
 w14:Ag (Q.1 * Q.1) = Q.1 * Q.1
 w15:Ag (Q.2 * Q.2) = Q.2 * Q.2
 w16:Ag (Q.1 * Q.1 + Q.2 * Q.2) = Jn Q
 w17:Ag (P.1 * P.1) = P.1 * P.1
 w18:Ag (P.2 * P.2) = P.2 * P.2
 w19:Ag (P.1 * P.1 + P.2 * P.2) = Jn P
 w20:Ag (P.1 * Q.2) = P.1 * Q.2
 w21:Ag (P.2 * Q.1) = P.2 * Q.1
 w22:Ag (P.1 * Q.2 - P.2 * Q.1) = H9 P Q
theorem Aam {P Q:HQ} (e:Mq P) (f:Mq Q):Aej P Q:=by
 have b:=Yu e f
 have:=b.m1; have:=b.m2; have:=b.m3; have:=b.m4; have:=b.m5; have:=b.m6; have:=b.m7; have:=b.m8; have:=b.m9; have:=b.m10; have:=b.m11; have:=b.m12; have:=b.m13; have s:=b.m14
 have:=e.a1; have:=e.a2; have:=e.b1; have:=e.b2; have:=f.a1; have:=f.a2; have:=f.b1; have:=f.b2
 have g:Lv P Q = (Q.1 - P.1) * (Q.1 - P.1) + (Q.2 - P.2) * (Q.2 - P.2):=rfl
 have m:Jn Q = Q.1 * Q.1 + Q.2 * Q.2:=rfl
 have h:Jn P = P.1 * P.1 + P.2 * P.2:=rfl
 have l:H9 P Q = P.1 * Q.2 - P.2 * Q.1:=rfl
 constructor <;> (try rw [A6 (by omega) (by omega)]) <;> first | done | omega
theorem ZE {R:Type} {P Q:HQ} (f:Int → Int → Ae R):(if IM P Q = true then f (H9 P Q * H9 P Q) (Lv P Q) else f (Jn Q) 1) = f (IR P Q).1 (IR P Q).2:=by
 unfold IR
 split <;> rfl
theorem R7 {u v:FY} {p q:Int} (f:Ux u v p q):∃ r:Int × Int,Gg u v p q = some r ∧ 0 < r.2 ∧ r.2 ≤ 1000000000000 ∧ ∀ K,G6 K r = Mi (K * u.2.2 * u.2.2) (BG u v p q) (Cq u p q):=by
 have h:=f.c1
 have l:=f.c16
 have hp:=f.p0
 have hq:=f.q0
 have am:1 ≤ v.2.2:=by rw [f.e]; exact h
 have ap:v.2.2 ≤ 16:=by rw [f.e]; exact l
 have hT:((Cq u p q:Nat):Int) = u.2.2 + max p q:=by unfold Cq; omega
 have bz:Cq u p q ≤ 20:=by omega
 have ac:=WB f
 have an:=fun M=>Qa ac M (Cq u p q)
 obtain ⟨b1,b2,b3,b4⟩:=(an 0).1
 obtain ⟨g1,bf,l1,l2,l3,l4,l5,l6⟩:=MT b1 (by omega) b3 (by omega)
 have bk:1 ≤ u.2.2 * u.2.2 ∧ u.2.2 * u.2.2 ≤ 256:=⟨Int.mul_le_mul h h (by omega) (by omega),Int.mul_le_mul l l (by omega) (by omega)⟩
 have d1:(Ip (Do (BG u v p q) (Cq u p q)).1 (Do (BG u v p q) (Cq u p q)).2).2 * u.2.2 ≤ 2200000000 * 16:=Int.mul_le_mul (by omega) l (by omega) (by omega)
 have d2:1 * 1 ≤ (Ip (Do (BG u v p q) (Cq u p q)).1 (Do (BG u v p q) (Cq u p q)).2).2 * u.2.2:=Int.mul_le_mul (by omega) h (by omega) (by omega)
 have d3:(Ip (Do (BG u v p q) (Cq u p q)).1 (Do (BG u v p q) (Cq u p q)).2).2 * u.2.2 * u.2.2 ≤ 2200000000 * 16 * 16:=Int.mul_le_mul d1 l (by omega) (by omega)
 have d4:1 * 1 ≤ (Ip (Do (BG u v p q) (Cq u p q)).1 (Do (BG u v p q) (Cq u p q)).2).2 * u.2.2 * u.2.2:=Int.mul_le_mul (by omega) h (by omega) (by omega)
 have bb:Gg u v p q = some (Ip (Ip (Do (BG u v p q) (Cq u p q)).1 (Do (BG u v p q) (Cq u p q)).2).1 ((Ip (Do (BG u v p q) (Cq u p q)).1 (Do (BG u v p q) (Cq u p q)).2).2 * u.2.2 * u.2.2)):=by
  unfold Gg
  have z1:tD u.2.2 p 0 = 0:=by unfold tD; omega
  have z2:tD v.2.2 q 0 = 0:=by unfold tD; omega
  have a1:FP u 0 = some (DA u p 0):=by rw [(Yw f.gu h l (t:=0) (by omega)).1]; unfold DA; rw [z1]
  have a2:FP v 0 = some (DA v q 0):=by rw [(Yw f.gv am ap (t:=0) (by omega)).1]; unfold DA; rw [z2]
  have h0:=ac 0
  have w0:=Aam h0 h0
  have:=h0.a1; have:=h0.a2; have:=h0.b1; have:=h0.b2
  have e1:Ag ((DA u p 0).1 - (DA v q 0).1) = (BG u v p q 0).1:=by
   have:(DA u p 0).1 - (DA v q 0).1 = (BG u v p q 0).1:=rfl
   rw [this,A6 (by omega) (by omega)]
  have e2:Ag ((DA u p 0).2 - (DA v q 0).2) = (BG u v p q 0).2:=by
   have:(DA u p 0).2 - (DA v q 0).2 = (BG u v p q 0).2:=rfl
   rw [this,A6 (by omega) (by omega)]
  rw [a1,Aa,a2,Aa,e1,e2,w0.w14,w0.w15,w0.w16]
  have av:=EM (fun m (s:Int × Int × Int × Int) k=>C0 u p q v m s.1 s.2.1 s.2.2.1 s.2.2.2 (k + 1)) (Cq u p q) (fun k=>((BG u v p q k).1,(BG u v p q k).2,(Do (BG u v p q) k).1,(Do (BG u v p q) k).2)) (some (Ip (Ip (Do (BG u v p q) (Cq u p q)).1 (Do (BG u v p q) (Cq u p q)).2).1 ((Ip (Do (BG u v p q) (Cq u p q)).1 (Do (BG u v p q) (Cq u p q)).2).2 * u.2.2 * u.2.2))) (by omega) (j:=0) (by omega) (fun m k _ hk=>?_) (fun m=>?_)
  ·exact av
  ·dsimp only
   have hP:=ac k
   have hQ:=ac (k + 1)
   have w:=Aam hP hQ
   have:=hQ.a1; have:=hQ.a2; have:=hQ.b1; have:=hQ.b2
   have ai:Fy p q = max p q:=by unfold Fy; split <;> omega
   have c1:Ag ((DA u p ((k:Int) + 1)).1 - (DA v q ((k:Int) + 1)).1) = (BG u v p q (k + 1)).1:=by
    have:(DA u p ((k:Int) + 1)).1 - (DA v q ((k:Int) + 1)).1 = (BG u v p q (k + 1)).1:=rfl
    rw [this,A6 (by omega) (by omega)]
   have c2:Ag ((DA u p ((k:Int) + 1)).2 - (DA v q ((k:Int) + 1)).2) = (BG u v p q (k + 1)).2:=by
    have:(DA u p ((k:Int) + 1)).2 - (DA v q ((k:Int) + 1)).2 = (BG u v p q (k + 1)).2:=rfl
    rw [this,A6 (by omega) (by omega)]
   obtain ⟨⟨i1,i2,i3,i4⟩,_⟩:=Qa ac 0 k
   obtain ⟨s1,s2,s3,s4⟩:=X0 hP hQ
   rw [C0,ai,A6 (x:=u.2.2 + _) (by omega) (by omega),if_pos (by rw [CC]; omega),Nl f.gu h l hp (by omega),Aa,Nl f.gv am ap hq (by omega),Aa,c1,c2]
   simp only [Bk,Gl,w.w1,w.w2,w.w3,w.w4,w.w5,w.w6,w.w7,w.w8,w.w9,w.w10,w.w11,w.w12,w.w13,w.w14,w.w15,w.w16]
   have ay:∀ a b:Int,0 ≤ a → a ≤ 193953851139686400 → 0 < b → b ≤ 2200000000 → (Option.bind (Fo a b (Do (BG u v p q) k).1 (Do (BG u v p q) k).2) fun ah=>if ah = true then C0 u p q v m (BG u v p q (k + 1)).1 (BG u v p q (k + 1)).2 a b (Ag ((k:Int) + 1 + 1)) else C0 u p q v m (BG u v p q (k + 1)).1 (BG u v p q (k + 1)).2 (Do (BG u v p q) k).1 (Do (BG u v p q) k).2 (Ag ((k:Int) + 1 + 1))) = C0 u p q v m (BG u v p q (k + 1)).1 (BG u v p q (k + 1)).2 (OV (Do (BG u v p q) k) (a,b)).1 (OV (Do (BG u v p q) k) (a,b)).2 (((k + 1:Nat):Int) + 1):=by
    intro a b h1 h2 h3 h4
    rw [R6 _ _ _ _ h1 (by omega) (by omega) (by omega) i1 (by omega) (by omega) (by omega),Aa,A6 (by omega) (by omega)]
    unfold OV
    split <;> rfl
   have hl:=ay (IR (BG u v p q k) (BG u v p q (k + 1))).1 (IR (BG u v p q k) (BG u v p q (k + 1))).2 s1 s2 s3 s4
   rw [Do]
   refine Eq.trans ?_ hl
   rw [← ZE (P:=BG u v p q k) (Q:=BG u v p q (k + 1)) (f:=fun a b=>Option.bind (Fo a b (Do (BG u v p q) k).1 (Do (BG u v p q) k).2) fun ah=>if ah = true then C0 u p q v m (BG u v p q (k + 1)).1 (BG u v p q (k + 1)).2 a b (Ag ((k:Int) + 1 + 1)) else C0 u p q v m (BG u v p q (k + 1)).1 (BG u v p q (k + 1)).2 (Do (BG u v p q) k).1 (Do (BG u v p q) k).2 (Ag ((k:Int) + 1 + 1)))]
   unfold IM
   change _ = if (decide _ && decide (_ < Lv _ _)) = true then _ else _
   by_cases h1:(BG u v p q k).1 * ((BG u v p q (k + 1)).1 - (BG u v p q k).1) + (BG u v p q k).2 * ((BG u v p q (k + 1)).2 - (BG u v p q k).2) < 0
   ·rw [if_pos (decide_eq_true h1),decide_eq_true h1,Bool.true_and]
   ·rw [if_neg (by simpa using h1),decide_eq_false h1]
    rfl
  ·dsimp only
   have ai:Fy p q = max p q:=by unfold Fy; split <;> omega
   rw [C0,ai,A6 (x:=u.2.2 + _) (by omega) (by omega),if_neg (by rw [CC]; omega),LB _ _ b1 (by omega) b3 (by omega),Aa,A6 (x:=(Ip (Do (BG u v p q) (Cq u p q)).1 (Do (BG u v p q) (Cq u p q)).2).2 * u.2.2) (by omega) (by omega),A6 (by omega) (by omega),LB _ _ l3 (by omega) (by omega) (by omega),Aa]
 refine ⟨_,bb,?_,?_,fun K=>?_⟩
 ·obtain ⟨g,_,_,_,_,_,k5,_⟩:=MT (a:=(Ip (Do (BG u v p q) (Cq u p q)).1 (Do (BG u v p q) (Cq u p q)).2).1) (b:=(Ip (Do (BG u v p q) (Cq u p q)).1 (Do (BG u v p q) (Cq u p q)).2).2 * u.2.2 * u.2.2) l3 (by omega) (by omega) (by omega)
  exact k5
 ·obtain ⟨g,_,_,_,_,_,k5,k6⟩:=MT (a:=(Ip (Do (BG u v p q) (Cq u p q)).1 (Do (BG u v p q) (Cq u p q)).2).1) (b:=(Ip (Do (BG u v p q) (Cq u p q)).1 (Do (BG u v p q) (Cq u p q)).2).2 * u.2.2 * u.2.2) l3 (by omega) (by omega) (by omega)
  omega
 ·rw [Uv l3 (by omega) (by omega) (by omega),← (an (K * u.2.2 * u.2.2)).2]
  have:G6 (K * u.2.2 * u.2.2) (Do (BG u v p q) (Cq u p q)) = G6 (K * u.2.2 * u.2.2) (Ip (Do (BG u v p q) (Cq u p q)).1 (Do (BG u v p q) (Cq u p q)).2):=(Uv b1 (by omega) b3 (by omega)).symm
  rw [this]
  unfold G6
  rw [decide_eq_decide]
  dsimp only
  generalize (Ip (Do (BG u v p q) (Cq u p q)).1 (Do (BG u v p q) (Cq u p q)).2).2 = B
  rw [show K * (B * u.2.2 * u.2.2) = K * u.2.2 * u.2.2 * B by grind]
theorem Xt {M:Int} {D:Nat → HQ} {T:Nat} (h:1 ≤ T):Mi M D T = KC M D T:=by
 obtain ⟨k,rfl⟩:∃ k,T = k + 1:=⟨T - 1,by omega⟩
 exact Adc k
theorem Nn {u v:FY} {p q e:Int} (f:Ux u v p q) (hl:0 ≤ e ∧ e ≤ 80):Gh u v p q e = some (KU u v p q e):=by
 obtain ⟨r,h1,s,l,h⟩:=R7 f
 have g:=Mv (x:=e) (A:=80) (by omega) (by omega)
 have hm:=Int.mul_le_mul g.2 l (by omega) (by omega)
 have ad:0 ≤ e * e * r.2:=Int.mul_nonneg g.1 (by omega)
 unfold Gh KU
 rw [h1,Aa,A6 (x:=e * e) (by omega) (by omega),A6 (by omega) (by omega)]
 have:=h (e * e)
 unfold G6 at this
 have m:=f.c1
 have hp:=f.p0
 rw [this,Xt (by unfold Cq; omega)]
theorem ZD {R:Type} {P Q:HQ} (f:Int → Int → Ae R):(if IM P Q = true then f (H9 P Q * H9 P Q) (Lv P Q) else f (min (Jn P) (Jn Q)) 1) = f (LU P Q).1 (LU P Q).2:=by
 unfold LU
 split <;> rfl
theorem Xh {P Q:HQ} (g:Mq P) (e:Mq Q):Km P.1 P.2 Q.1 Q.2 = some (LU P Q):=by
 have w:=Aam g e
 unfold Km
 simp only [Bk,w.w1,w.w2,w.w7,w.w8,w.w9,w.w10,w.w11,w.w12,w.w13,w.w14,w.w15,w.w16,w.w17,w.w18,w.w19,w.w20,w.w21,w.w22,w.w6,Ka,Aa]
 have:=ZD (P:=P) (Q:=Q) (f:=fun a b=>some (a,b))
 refine Eq.trans ?_ this
 unfold IM
 change _ = if (decide _ && decide (_ < Lv _ _)) = true then _ else _
 by_cases h1:P.1 * (Q.1 - P.1) + P.2 * (Q.2 - P.2) < 0
 ·rw [if_pos (by rw [CC]; omega),decide_eq_true h1,Bool.true_and]
 ·rw [if_neg (by rw [CC]; omega),decide_eq_false h1]
  rfl
theorem VQ {u v:FY} {p q:Int} (f:Ux u v p q):∃ r:Int × Int,Iz u v p q = some r ∧ 0 ≤ r.1 ∧ r.1 ≤ 193953851139686400 ∧ 0 < r.2 ∧ r.2 ≤ 1000000000000 ∧ ∀ K,G6 K r = KC (K * u.2.2 * u.2.2) (BG u v p q) (Cq u p q):=by
 have aa:=f.c1
 have ad:=f.c16
 have hp:=f.p0
 have hq:=f.q0
 have ah:1 ≤ v.2.2:=by rw [f.e]; exact aa
 have ak:v.2.2 ≤ 16:=by rw [f.e]; exact ad
 have hT:((Cq u p q:Nat):Int) = u.2.2 + max p q:=by unfold Cq; omega
 have bh:Cq u p q ≤ 20:=by omega
 have ae:=WB f
 obtain ⟨T,a5⟩:∃ T,Cq u p q = T + 1:=⟨Cq u p q - 1,by omega⟩
 have ai:∀ M,XP (HE (BG u v p q) (Cq u p q)) ∧ G6 M (HE (BG u v p q) (Cq u p q)) = KC M (BG u v p q) (Cq u p q):=fun M=>by rw [a5]; exact PZ ae M T
 obtain ⟨b1,b2,b3,b4⟩:=(ai 0).1
 have d1:(HE (BG u v p q) (Cq u p q)).2 * u.2.2 ≤ 2200000000 * 16:=Int.mul_le_mul b4 ad (by omega) (by omega)
 have d2:1 * 1 ≤ (HE (BG u v p q) (Cq u p q)).2 * u.2.2:=Int.mul_le_mul (by omega) aa (by omega) (by omega)
 have d3:(HE (BG u v p q) (Cq u p q)).2 * u.2.2 * u.2.2 ≤ 2200000000 * 16 * 16:=Int.mul_le_mul d1 ad (by omega) (by omega)
 have d4:1 * 1 ≤ (HE (BG u v p q) (Cq u p q)).2 * u.2.2 * u.2.2:=Int.mul_le_mul (by omega) aa (by omega) (by omega)
 have a3:Iz u v p q = some (Ip (HE (BG u v p q) (Cq u p q)).1 ((HE (BG u v p q) (Cq u p q)).2 * u.2.2 * u.2.2)):=by
  unfold Iz
  have ao:=EM (fun m (s:Int × Int) k=>EV p q u v m s.1 s.2 k) (Cq u p q) (fun k=>((HE (BG u v p q) k).1,(HE (BG u v p q) k).2)) (some (Ip (HE (BG u v p q) (Cq u p q)).1 ((HE (BG u v p q) (Cq u p q)).2 * u.2.2 * u.2.2))) (by omega) (j:=0) (by omega) (fun m k _ hk=>?_) (fun m=>?_)
  ·exact ao
  ·dsimp only
   have h:=ae k
   have l:=ae (k + 1)
   have:=h.a1; have:=h.a2; have:=h.b1; have:=h.b2
   have:=l.a1; have:=l.a2; have:=l.b1; have:=l.b2
   have e1:Ag ((DA u p (k:Int)).1 - (DA v q (k:Int)).1) = (BG u v p q k).1:=by
    have:(DA u p (k:Int)).1 - (DA v q (k:Int)).1 = (BG u v p q k).1:=rfl
    rw [this,A6 (by omega) (by omega)]
   have e2:Ag ((DA u p (k:Int)).2 - (DA v q (k:Int)).2) = (BG u v p q k).2:=by
    have:(DA u p (k:Int)).2 - (DA v q (k:Int)).2 = (BG u v p q k).2:=rfl
    rw [this,A6 (by omega) (by omega)]
   have c1:Ag ((DA u p ((k + 1:Nat):Int)).1 - (DA v q ((k + 1:Nat):Int)).1) = (BG u v p q (k + 1)).1:=by
    have:(DA u p ((k + 1:Nat):Int)).1 - (DA v q ((k + 1:Nat):Int)).1 = (BG u v p q (k + 1)).1:=rfl
    rw [this,A6 (by omega) (by omega)]
   have c2:Ag ((DA u p ((k + 1:Nat):Int)).2 - (DA v q ((k + 1:Nat):Int)).2) = (BG u v p q (k + 1)).2:=by
    have:(DA u p ((k + 1:Nat):Int)).2 - (DA v q ((k + 1:Nat):Int)).2 = (BG u v p q (k + 1)).2:=rfl
    rw [this,A6 (by omega) (by omega)]
   obtain ⟨s1,s2,s3,s4⟩:=TM h l
   rw [EV,QM,Aa,A6 (x:=u.2.2 + _) (by omega) (by omega),if_pos (by rw [CC]; omega)]
   unfold Gl Bk
   dsimp only
   rw [Oy f.gu aa ad hp (by omega),Aa,Oy f.gv ah ak hq (by omega),Aa,AD (k:=k) (by omega),Oy f.gu aa ad hp (by omega),Aa,Oy f.gv ah ak hq (by omega),Aa,e1,e2,c1,c2,Xh h l,Aa,HE]
   by_cases hn:(HE (BG u v p q) k).1 < 0
   ·rw [if_pos (decide_eq_true hn),if_pos rfl,if_pos hn]
   ·have ay:∃ j,k = j + 1:=by
     cases k with
     | zero=>exact absurd (show (-1:Int) < 0 by decide) hn
     | succ j=>exact ⟨j,rfl⟩
    obtain ⟨j,rfl⟩:=ay
    obtain ⟨⟨i1,i2,i3,i4⟩,_⟩:=PZ ae 0 j
    rw [if_neg (by simpa using hn),Xk _ _ _ _ s1 (by omega) s3 (by omega) i1 (by omega) i3 (by omega),Aa,if_neg hn]
    unfold OV
    split <;> rfl
  ·dsimp only
   rw [EV,QM,Aa,A6 (x:=u.2.2 + _) (by omega) (by omega),if_neg (by rw [CC]; omega),A6 (x:=(HE (BG u v p q) (Cq u p q)).2 * u.2.2) (by omega) (by omega),A6 (by omega) (by omega),RM _ _ b1 (by omega) (by omega) (by omega),Aa]
 obtain ⟨g,_,_,_,k3,k4,k5,k6⟩:=MT (a:=(HE (BG u v p q) (Cq u p q)).1) (b:=(HE (BG u v p q) (Cq u p q)).2 * u.2.2 * u.2.2) b1 (by omega) (by omega) (by omega)
 refine ⟨_,a3,k3,by omega,k5,by omega,fun K=>?_⟩
 rw [Uv b1 (by omega) (by omega) (by omega),← (ai (K * u.2.2 * u.2.2)).2]
 unfold G6
 rw [decide_eq_decide]
 dsimp only
 generalize (HE (BG u v p q) (Cq u p q)).2 = B
 rw [show K * (B * u.2.2 * u.2.2) = K * u.2.2 * u.2.2 * B by grind]
theorem RK {u v:FY} {p q e:Int} (f:Ux u v p q) (s:0 ≤ e ∧ e ≤ 80):Ja u v p q e = some (!KU u v p q e):=by
 obtain ⟨r,h1,g,h3,h,h5,l⟩:=VQ f
 have hL:=Mv (x:=e) (A:=80) (by omega) (by omega)
 unfold Ja KU
 have hd:=Int.ediv_nonneg g (Int.le_of_lt h)
 have ae:r.1 / r.2 ≤ r.1:=Int.ediv_le_self _ g
 have m:¬ r.2 = 0:=by omega
 rw [h1,Aa,if_neg m,A6 (x:=e * e) (by omega) (by omega),Int.tdiv_eq_ediv_of_nonneg g,A6 (by omega) (by omega),← l (e * e)]
 unfold G6
 congr 1
 rw [Bool.eq_iff_iff]
 simp only [Bool.not_eq_true',CC,decide_eq_false_iff_not]
 rw [Int.le_ediv_iff_mul_le h]
 omega
def OZ (ft:Nat → Nat → Int → Int → Bool) (ds:List Int) (p:Int):Bool:=(List.range ds.length).all fun i=>ft i ds.length (ds.getD i 0) p
def LF (ft:Nat → Nat → Int → Int → Bool):Nat → List Int → Bool
 | 0,_=>true
 | r + 1,ds=>(List.range 5).any fun (p:Nat)=>OZ ft ds (p:Int) && LF ft r (ds ++ [(p:Int)])
def LE (ft:Nat → Nat → Int → Int → Bool):Nat → List Int → Nat → Bool
 | 0,_,s=>s == 0
 | r + 1,ds,s=>(List.range (min s 4 + 1)).any fun (p:Nat)=>OZ ft ds (p:Int) && LE ft r (ds ++ [(p:Int)]) (s - p)
theorem R4 (e:Nat → Nat → Int → Int → Bool):∀ (r:Nat) (ds:List Int),LF e r ds = true ↔ ∃ s,s ≤ 4 * r ∧ LE e r ds s = true
 | 0,ds=>by simp [LF,LE]
 | r + 1,ds=>by
  rw [LF,List.any_eq_true]
  constructor
  ·rintro ⟨p,f,h⟩
   rw [Cg,R4 e r] at h
   obtain ⟨h1,s,h2,u⟩:=h
   have g:=List.mem_range.1 f
   refine ⟨s + p,by omega,?_⟩
   rw [LE,List.any_eq_true]
   refine ⟨p,List.mem_range.2 (by omega),?_⟩
   rw [Cg,Nat.add_sub_cancel]
   exact ⟨h1,u⟩
  ·rintro ⟨s,hs,h⟩
   rw [LE,List.any_eq_true] at h
   obtain ⟨p,f,h⟩:=h
   rw [Cg] at h
   have g:=List.mem_range.1 f
   refine ⟨p,List.mem_range.2 (by omega),?_⟩
   rw [Cg,R4 e r]
   refine ⟨h.1,?_⟩
   by_cases l:s - p ≤ 4 * r
   ·exact ⟨s - p,l,h.2⟩
   ·exfalso
    have m:∀ (r:Nat) (ds:List Int) (s:Nat),LE e r ds s = true → s ≤ 4 * r:=by
     intro r
     induction r with
     | zero=>intro ds s h; simpa [LE] using h
     | succ r v =>
      intro ds s h
      rw [LE,List.any_eq_true] at h
      obtain ⟨p,f,h⟩:=h
      rw [Cg] at h
      have g:=List.mem_range.1 f
      have:=v _ _ h.2
      omega
    exact l (m r _ _ h.2)
theorem Zf {R:Type} (f:Nat → Int → Ae R) (n:Nat) (p:Nat → Bool) (g:Nat → Ae R) (e:Ae R) (hn:n < 4611686018427387904)
  (hs:∀ m k,k < n → f (m + 1) (k:Int) = if p k = true then g k else f m ((k + 1:Nat):Int)) (v:∀ m,f (m + 1) (n:Int) = e) {j:Nat} (l:j ≤ n):f FU (j:Int) = match (List.range' j (n - j)).find? p with
   | some k=>g k
   | none=>e:=by
 have s:∀ d k m,n - k = d → k ≤ n → d < m → f m (k:Int) = match (List.range' k d).find? p with
   | some k=>g k
   | none=>e:=by
  intro d
  induction d with
  | zero =>
   intro k m hd hk hm
   have:k = n:=by omega
   subst this
   cases m with
   | zero=>omega
   | succ m=>rw [v]; rfl
  | succ d ih =>
   intro k m hd hk hm
   cases m with
   | zero=>omega
   | succ m =>
    rw [hs m k (by omega),List.range'_succ,List.find?_cons]
    by_cases h:p k = true
    ·rw [if_pos h,h]
    ·have u:p k = false:=by simpa using h
     rw [if_neg h,u]
     exact ih (k + 1) m (by omega) (by omega) (by omega)
 exact s (n - j) j FU rfl l (D4 (by omega))
theorem JB {ι S R:Type} (f:ι → Nat → S → Int → Ae R) (n:Nat) (g:Nat → S → Prop) (rest:ι → S → Ae R) (hn:n < 4611686018427387904) {b:Nat}
  (hs:∀ k s,b ≤ k → k < n → g k s → ∃ e,g (k + 1) e ∧ ∀ j m,f j (m + 1) s (k:Int) = f j m e ((k + 1:Nat):Int)) (he:∀ s,g n s → ∀ j m,f j (m + 1) s (n:Int) = rest j s) (hb:b ≤ n) {s:S} (h0:g b s) :
  ∃ e,g n e ∧ ∀ j,f j FU s (b:Int) = rest j e:=by
 have aa:∀ d k s,n - k = d → b ≤ k → k ≤ n → g k s → ∃ e,g n e ∧ ∀ j m,d < m → f j m s (k:Int) = rest j e:=by
  intro d
  induction d with
  | zero =>
   intro k s hd u hk h
   have:k = n:=by omega
   subst this
   refine ⟨s,h,fun j m hm=>?_⟩
   cases m with
   | zero=>omega
   | succ m=>exact he s h j m
  | succ d ih =>
   intro k s hd u hk h
   obtain ⟨e,h1,l⟩:=hs k s u (by omega) h
   obtain ⟨s2,h3,v⟩:=ih (k + 1) e (by omega) (by omega) (by omega) h1
   refine ⟨s2,h3,fun j m hm=>?_⟩
   cases m with
   | zero=>omega
   | succ m=>rw [l]; exact v j m (by omega)
 obtain ⟨e,h1,l⟩:=aa (n - b) b s rfl (Nat.le_refl _) hb h0
 exact ⟨e,h1,fun j=>l j FU (D4 (by omega))⟩
theorem XE {S R:Type} (f:Nat → S → Int → Ae R) (n:Nat) (g:S → Prop) (a:Nat → Bool) (u l:R → Prop) (hn:n < 4611686018427387904)
  (hs:∀ k s,k < n → g s → (a k = true ∧ ∃ r,u r ∧ ∀ m,f (m + 1) s (k:Int) = some r) ∨ (a k = false ∧ ∃ h,g h ∧ ∀ m,f (m + 1) s (k:Int) = f m h ((k + 1:Nat):Int)))
  (he:∀ s,g s → ∃ r,l r ∧ ∀ m,f (m + 1) s (n:Int) = some r) {s:S} (h0:g s):∃ r,f FU s 0 = some r ∧ (((List.range n).any a = true ∧ u r) ∨ ((List.range n).any a = false ∧ l r)):=by
 have ab:∀ d k m s,n - k = d → k ≤ n → d < m → g s → ∃ r,f m s (k:Int) = some r ∧ (((List.range' k d).any a = true ∧ u r) ∨ ((List.range' k d).any a = false ∧ l r)):=by
  intro d
  induction d with
  | zero =>
   intro k m s hd hk hm hi
   have:k = n:=by omega
   subst this
   cases m with
   | zero=>omega
   | succ m =>
    obtain ⟨r,h1,e⟩:=he s hi
    exact ⟨r,e m,.inr ⟨rfl,h1⟩⟩
  | succ d ih =>
   intro k m s hd hk hm hi
   cases m with
   | zero=>omega
   | succ m =>
    rw [List.range'_succ,List.any_cons]
    rcases hs k s (by omega) hi with ⟨h1,r,e,v⟩ | ⟨h1,h,e,v⟩
    ·exact ⟨r,v m,.inl ⟨by rw [h1]; rfl,e⟩⟩
    ·rw [v,h1,Bool.false_or]
     exact ih (k + 1) m h (by omega) (by omega) (by omega) e
 have:=ab n 0 FU s rfl (by omega) (D4 hn) h0
 rwa [← List.range_eq_range'] at this
structure RepF (t:BV) (least:Int):Prop where
 tr:XO t
 c16:t.2.2.1 ≤ 16
 n6:t.1.length ≤ 6
 l0:0 ≤ least ∧ least ≤ 80
theorem RepF.del {t:BV} {g:Int} (f:RepF t g) {i k:Nat} (l:i < t.1.length) (m:k < t.1.length) {p q:Int} (e:0 ≤ p ∧ p ≤ 4) (h:0 ≤ q ∧ q ≤ 4):Ux (Hn t i) (Hn t k) p q :=
 ⟨JZ f.tr l,JZ f.tr m,f.tr.can.n1,f.c16,rfl,e,h⟩
def TQ (t:BV) (least:Int) (i k:Nat):Bool:=KU (Hn t i) (Hn t k) 0 0 least
theorem Rl {n i:Nat} (h:i < n):(List.replicate n (0:Int))[i]? = some 0:=by simp [h]
theorem Xp {t:BV} {e:Int} (f:RepF t e):Hw t (List.replicate t.1.length 0) e = some (J5 (TQ t e) t.1.length t.1.length):=by
 have u:=f.n6
 unfold Hw
 rw [Oc f.tr,Aa]
 refine Nx (D7 (G4 t) (List.replicate t.1.length 0) e) (fun h i=>D6 (G4 t) (i:Int) (List.replicate t.1.length 0) e h) _ _ (by omega) (fun m s i g=>?_) (fun h i m s k g l v=>?_) (fun h i m s g=>?_) (fun m s=>?_)
 ·rw [D7,if_pos (by rw [DY]; simp; omega),AD (by omega)]
 ·rw [D6,if_pos (by rw [DY]; simp; omega)]
  unfold Bk TQ
  dsimp only
  rw [AY,Iu t g,Aa,AY,Iu t l,Aa,AY,Rl g,Aa,AY,Rl l,Aa,Nn (f.del g l (by omega) (by omega)) f.l0,Aa,Bt (by simp; omega),Aa,AD (by omega)]
  cases KU (Hn t i) (Hn t k) 0 0 e <;> rfl
 ·rw [D6,if_neg (by rw [DY]; simp),AD (by omega)]
 ·rw [D7,if_neg (by rw [DY]; simp)]
theorem RL {t:BV} {e:Int} (f:RepF t e):I0 t (List.replicate t.1.length 0) e = some (J5 (TQ t e) t.1.length t.1.length):=by
 have u:=f.n6
 unfold I0
 rw [LS f.tr,Aa]
 refine Nx (EX (G4 t) (List.replicate t.1.length 0) e) (fun h i=>EW (G4 t) (List.replicate t.1.length 0) (i:Int) (Hn t i) e h) _ _ (by omega) (fun m s i g=>?_) (fun h i m s k g l v=>?_) (fun h i m s g=>?_) (fun m s=>?_)
 ·rw [EX,if_pos (by rw [DY]; simp; omega),AY,Iu t g,Aa,AD (by omega)]
 ·rw [EW,if_pos (by rw [DY]; simp; omega)]
  unfold Bk TQ
  dsimp only
  rw [AY,Iu t l,Aa,AY,Rl g,Aa,AY,Rl l,Aa,RK (f.del g l (by omega) (by omega)) f.l0,Aa,Bool.not_not,Bt (by simp; omega),Aa,AD (by omega)]
  cases KU (Hn t i) (Hn t k) 0 0 e <;> rfl
 ·rw [EW,if_neg (by rw [DY]; simp),AD (by omega)]
 ·rw [EX,if_neg (by rw [DY]; simp)]
def OU (t:BV) (least:Int):Bool:=((J5 (TQ t least) t.1.length t.1.length).length:Int) == 0
theorem Nm {t:BV} {e:Int} (f:RepF t e):Gf t e = some (OU t e):=by
 have g:=f.n6
 unfold Gf OU
 rw [N8 (by omega),Aa,Xp f,Aa]
def Ox (t:BV) (i k:Nat):BV:=(t.1,t.2.1,t.2.2.1,(t.2.2.2.set i (IQ t.2.2.2 k)).set k (IQ t.2.2.2 i))
theorem Aaw {t:BV} {m:Int} (f:RepF t m) {i k:Nat} (u:i < t.1.length) (v:k < t.1.length):RepF (Ox t i k) m:=by
 have s:=f.tr.mat
 refine ⟨⟨f.tr.can,by unfold Ox; simpa using s,fun j l=>?_⟩,f.c16,f.n6,f.l0⟩
 have h1:=f.tr.inR i u
 have h2:=f.tr.inR k v
 have h3:=f.tr.inR j l
 unfold Ox
 unfold Ox at l
 dsimp only at l ⊢
 have e:IQ ((t.2.2.2.set i (IQ t.2.2.2 k)).set k (IQ t.2.2.2 i)) j = if k = j then IQ t.2.2.2 i else if i = j then IQ t.2.2.2 k else IQ t.2.2.2 j:=by
  conv=>lhs; unfold IQ
  rw [List.getElem?_set,List.length_set,List.getElem?_set,s]
  by_cases g:k = j
  ·rw [if_pos g,if_pos v,if_pos g]; rfl
  ·rw [if_neg g,if_neg g]
   by_cases h:i = j
   ·rw [if_pos h,if_pos u,if_pos h]; rfl
   ·rw [if_neg h,if_neg h]; rfl
 rw [e]
 split
 ·exact h1
 ·split
  ·exact h2
  ·exact h3
theorem To {t:BV} {e:Int} (f:RepF t e) {i k:Nat} (m:i < t.1.length) (s:k < t.1.length):Ih t (i:Int) (k:Int) = some (Ox t i k):=by
 have l:=f.tr.mat
 have h:=f.n6
 have g:=f.tr.can.le
 unfold Ih
 rw [KR (by omega) (by omega) (by omega),Aa]
 unfold Bk Ox
 dsimp only
 rw [AY,JC (by omega),Aa,AY,JC (by omega),Aa,Aa,J2,Jo (by simp; omega),Aa,J2]
theorem Xi {t:BV} {e:Int} (f:RepF t e) {i k:Nat} (m:i < t.1.length) (s:k < t.1.length):Ko t (i:Int) (k:Int) = some (Ox t i k):=by
 have l:=f.tr.mat
 have h:=f.n6
 have g:=f.tr.can.le
 unfold Ko
 rw [OP (by omega) (by omega) (by omega),Aa]
 unfold Ox
 dsimp only
 rw [AY,JC (by omega),Aa,AY,JC (by omega),Aa,Aa,J2,Jo (by simp; omega),Aa,J2]
def SP (t:BV) (least:Int) (i:Nat):Ae Nat:=(List.range' (i + 1) (t.1.length - (i + 1))).find? fun k=>OU (Ox t i k) least
def VP (t:BV) (least:Int):Ae Nat:=(List.range t.1.length).find? fun i=>(SP t least i).isSome
theorem Tp {t:BV} {e:Int} (f:RepF t e):∃ r,Ii t e = some r ∧ r.2.2 = (VP t e).isSome:=by
 have l:=f.n6
 unfold Ii
 rw [Tl (Dm t e) t.1.length (fun i=>(SP t e i).isSome) (fun i=>some ((i:Int),((SP t e i).getD 0:Int),true)) (some (0,0,false)) (by omega) (fun m i g=>?_) (fun m=>?_)]
 ·unfold VP
  cases (List.range t.1.length).find? fun i=>(SP t e i).isSome with
  | none=>exact ⟨_,rfl,rfl⟩
  | some i=>exact ⟨_,rfl,rfl⟩
 ·rw [Dm,if_pos (by simp; omega),AD (by omega)]
  rw [Zf (Ee t (i:Int) e (Dm t e m)) t.1.length (fun k=>OU (Ox t i k) e) (fun k=>some ((i:Int),(k:Int),true)) (Dm t e m ((i + 1:Nat):Int)) (by omega) (fun m k h=>?_) (fun m=>?_) (j:=i + 1) (by omega)]
  ·unfold SP
   cases (List.range' (i + 1) (t.1.length - (i + 1))).find? fun k=>OU (Ox t i k) e <;> rfl
  ·rw [Ee,if_pos (by simp; omega),To f g h,Aa,Nm (Aaw f g h),Aa,AD (by omega)]
  ·rw [Ee,if_neg (by simp),AD (by omega)]
 ·rw [Dm,if_neg (by simp)]
theorem Xg {t:BV} {g:Int} (f:RepF t g):∃ r,Kl t g = some r ∧ decide (0 ≤ r.1) = (VP t g).isSome:=by
 have s:=f.n6
 unfold Kl
 rw [N8 (by omega),Aa]
 rw [Tl (Eh t (List.replicate t.1.length 0) g) t.1.length (fun i=>(SP t g i).isSome) (fun i=>some ((i:Int),((SP t g i).getD 0:Int))) (some (-1,-1)) (by omega) (fun m i h=>?_) (fun m=>?_)]
 ·unfold VP
  cases (List.range t.1.length).find? fun i=>(SP t g i).isSome with
  | none=>exact ⟨_,rfl,rfl⟩
  | some i=>exact ⟨_,rfl,by simp⟩
 ·rw [Eh,if_pos (by simp; omega),AD (by omega)]
  rw [Zf (FC t (i:Int) (List.replicate t.1.length 0) g (Eh t (List.replicate t.1.length 0) g m)) t.1.length (fun k=>OU (Ox t i k) g) (fun k=>some ((i:Int),(k:Int))) (Eh t (List.replicate t.1.length 0) g m ((i + 1:Nat):Int)) (by omega) (fun m k l=>?_) (fun m=>?_) (j:=i + 1) (by omega)]
  ·unfold SP
   cases (List.range' (i + 1) (t.1.length - (i + 1))).find? fun k=>OU (Ox t i k) g <;> rfl
  ·have e:=RL (Aaw f h l)
   rw [show (Ox t i k).1.length = t.1.length by rfl] at e
   rw [FC,if_pos (by simp; omega),Xi f h l,Aa,e,Aa,AD (by omega)]
   rfl
  ·rw [FC,if_neg (by simp),AD (by omega)]
 ·rw [Eh,if_neg (by simp)]
def Hu (t:BV) (least:Int) (i k:Nat) (q p:Int):Bool:=!KU (Hn t i) (Hn t k) q p least
def HP (i k q p:Nat):Nat:=i * 150 + k * 25 + q * 5 + p * 1
def XI (ds:List Int):Prop:=∀ i,i < ds.length → ∃ q:Nat,q < 5 ∧ ds[i]? = some (q:Int)
theorem WA {ds:List Int} (h:XI ds) {p:Nat} (l:p < 5):XI (ds ++ [(p:Int)]):=by
 intro i f
 rw [CM,List.length_singleton] at f
 by_cases e:i < ds.length
 ·obtain ⟨q,h1,g⟩:=h i e
  exact ⟨q,h1,by rw [List.getElem?_append_left e]; exact g⟩
 ·have:i = ds.length:=by omega
  subst this
  exact ⟨p,l,by simp⟩
theorem Aa5 {ds:List Int} {i q:Nat} (h:ds[i]? = some (q:Int)):ds.getD i 0 = (q:Int):=by rw [List.getD_eq_getElem?_getD,h]; rfl
structure Qk (t:BV) (least:Int) (l:List Int):Prop where
 len:l.length = 900
 val:∀ i k q p:Nat,i < t.1.length → k < t.1.length → q < 5 → p < 5 → l[HP i k q p]? = some 0 ∨ l[HP i k q p]? = some (if Hu t least i k (q:Int) (p:Int) = true then 1 else 2)
theorem YB {t:BV} {g:Int} (f:RepF t g) {l:List Int} (h:Qk t g l) {i k q p:Nat} (hi:i < t.1.length) (hk:k < t.1.length) (hq:q < 5) (hp:p < 5) :
  ∃ l',Qk t g l' ∧ G8 (G4 t,g,l) (i:Int) (k:Int) (q:Int) (p:Int) = some (Hu t g i k (q:Int) (p:Int),(G4 t,g,l')):=by
 have h6:=f.n6
 have s:(decide (0 ≤ (i:Int)) && decide ((i:Int) < 6)) = true:=by simp; omega
 have u:(decide (0 ≤ (k:Int)) && decide ((k:Int) < 6)) = true:=by simp; omega
 have v:(decide (0 ≤ (q:Int)) && decide ((q:Int) < 5)) = true:=by simp; omega
 have c4:(decide (0 ≤ (p:Int)) && decide ((p:Int) < 5)) = true:=by simp; omega
 have m:HP i k q p < 900:=by unfold HP; omega
 unfold G8 Bk Gl
 dsimp only
 rw [if_pos s,if_pos u,if_pos v,if_pos c4]
 simp only [Int.toNat_natCast]
 rw [show i * 150 + k * 25 + q * 5 + p * 1 = HP i k q p by rfl]
 rcases h.val i k q p hi hk hq hp with h0 | h0
 ·rw [h0,Aa,if_pos (by simp),AY,Iu t hi,Aa,AY,Iu t hk,Aa,RK (f.del hi hk (by omega) (by omega)) f.l0,Aa]
  refine ⟨l.set (HP i k q p) (if Hu t g i k (q:Int) (p:Int) = true then 1 else 2),⟨by rw [List.length_set]; exact h.len,fun i' k' q' p' ak aj al ai=>?_⟩,?_⟩
  ·by_cases e:HP i k q p = HP i' k' q' p'
   ·have:i = i' ∧ k = k' ∧ q = q' ∧ p = p':=by unfold HP at e; omega
    obtain ⟨rfl,rfl,rfl,rfl⟩:=this
    right
    rw [List.getElem?_set_self (by rw [h.len]; exact m)]
   ·rw [List.getElem?_set_ne e]
    exact h.val i' k' q' p' ak aj al ai
  ·have e:Hu t g i k (q:Int) (p:Int) = !KU (Hn t i) (Hn t k) (q:Int) (p:Int) g:=rfl
   rw [e]
   unfold NN
   rw [h.len,if_pos m]
   cases KU (Hn t i) (Hn t k) (q:Int) (p:Int) g with
   | false =>
    simp only [Bool.not_false,if_true,Aa]
    rw [if_pos s,if_pos u,if_pos v,if_pos c4,List.getElem?_set_self (by rw [h.len]; exact m),Aa]
    rfl
   | true =>
    simp only [Bool.not_true,Bool.false_eq_true,if_false,Aa]
    rw [if_pos m,Aa,if_pos s,if_pos u,if_pos v,if_pos c4,List.getElem?_set_self (by rw [h.len]; exact m),Aa]
    rfl
 ·refine ⟨l,h,?_⟩
  rw [h0,Aa]
  have ao:((if Hu t g i k (q:Int) (p:Int) = true then (1:Int) else 2) == 0) = false:=by split <;> rfl
  rw [ao,if_neg (by simp),if_pos s,if_pos u,if_pos v,if_pos c4,Aa]
  cases Hu t g i k (q:Int) (p:Int) <;> rfl
theorem M4 (a:Nat → Bool) (k:Nat):(List.range (k + 1)).all a = ((List.range k).all a && a k):=by rw [List.range_succ,List.all_append]; simp
abbrev T1:=(List FY) × Int × (List Int)
theorem Aac {t:BV} {e:Int} (f:RepF t e) {l:List Int} (h:Qk t e l) {ds:List Int} (hd:XI ds) (hl:ds.length < t.1.length) {p:Nat} (hp:p < 5) (s:Int) (hs:0 ≤ s ∧ s ≤ 1000) :
  ∃ g,Qk t e g ∧ ∀ (v:T1 → Ae ((List Int) × T1)) (aa:T1 → (List Int) → Int → Ae ((List Int) × T1)),CN ds (p:Int) v aa s FU (G4 t,e,l) true 0 =
   if OZ (Hu t e) ds (p:Int) = true then Option.bind (aa (G4 t,e,g) (ds ++ [(p:Int)]) (s - p)) fun u=>(if (decide (0 < (List.length u.1:Int))) = true then some (u.1,u.2) else v u.2) else v (G4 t,e,g):=by
 have h6:=f.n6
 refine Exists.elim (JB (fun (j:(T1 → Ae ((List Int) × T1)) × (T1 → (List Int) → Int → Ae ((List Int) × T1))) m (z:T1 × Bool) k=>CN ds (p:Int) j.1 j.2 s m z.1 z.2 k) ds.length
  (fun k z=>∃ g,Qk t e g ∧ z.1 = (G4 t,e,g) ∧ z.2 = (List.range k).all fun i=>Hu t e i ds.length (ds.getD i 0) (p:Int))
  (fun j z=>if (!z.2) = true then j.1 z.1 else Option.bind (j.2 z.1 (ds ++ [(p:Int)]) (s - p)) fun u=>(if (decide (0 < (List.length u.1:Int))) = true then some (u.1,u.2) else j.1 u.2)) (by omega)
  (fun k z _ hk hi=>?_) (fun z hi j m=>?_) (b:=0) (by omega) (s:=((G4 t,e,l),true)) ⟨l,h,rfl,rfl⟩) ?_
 ·obtain ⟨x,b⟩:=z
  obtain ⟨l1,g1,g2,g3⟩:=hi
  dsimp only at g2 g3
  subst g2
  obtain ⟨q,hq,ac⟩:=hd k hk
  cases hb:b with
  | false =>
   refine ⟨((G4 t,e,l1),false),⟨l1,g1,rfl,?_⟩,fun j m=>?_⟩
   ·rw [M4,← g3,hb]; rfl
   ·dsimp only
    rw [CN,if_pos (by simp; omega)]
    unfold Gl
    dsimp only
    rw [AY,ac,Aa,if_neg (by simp),AD (by omega)]
  | true =>
   obtain ⟨l2,g4,g5⟩:=YB f g1 (i:=k) (k:=ds.length) (q:=q) (p:=p) (by omega) hl hq hp
   refine ⟨((G4 t,e,l2),Hu t e k ds.length (q:Int) (p:Int)),⟨l2,g4,rfl,?_⟩,fun j m=>?_⟩
   ·rw [M4,← g3,hb,Bool.true_and,Aa5 ac]
   ·dsimp only
    rw [CN,if_pos (by simp; omega)]
    unfold Gl
    dsimp only
    rw [AY,ac,Aa,if_pos rfl,g5,Aa,AD (by omega)]
 ·obtain ⟨x,b⟩:=z
  dsimp only
  rw [CN,if_neg (by simp),ST _ (by omega),Aa,Bt (by simp; omega),Aa,A6 (by omega) (by omega)]
 ·rintro ⟨x',b'⟩ ⟨⟨g,h1,h2,h3⟩,h4⟩
  dsimp only at h2 h3
  subst h2
  refine ⟨g,h1,fun v aa=>?_⟩
  have:=h4 (v,aa)
  dsimp only at this
  refine Eq.trans this ?_
  rw [h3]
  unfold OZ
  cases (List.range ds.length).all fun i=>Hu t e i ds.length (ds.getD i 0) (p:Int) <;> rfl
theorem YC {t:BV} {g:Int} (f:RepF t g):∀ (r:Nat) (ds:List Int) (s:Nat) (m:Nat) (l:List Int),ds.length + r = t.1.length → XI ds → s ≤ 100 → r < m → Qk t g l →
  ∃ out h,Qk t g h ∧ Dc m (G4 t,g,l) ds (s:Int) = some (out,(G4 t,g,h)) ∧ decide (0 < out.length) = LE (Hu t g) r ds s:=by
 have h6:=f.n6
 have h1:=f.tr.can.l1
 intro r
 induction r with
 | zero =>
  intro ds s m l hl hd hs hm hk
  cases m with
  | zero=>omega
  | succ m =>
   rw [Dc]
   unfold FT
   rw [if_pos (by rw [DY,beq_iff_eq]; omega),LE]
   by_cases e:s = 0
   ·subst e
    exact ⟨ds,l,hk,by rfl,by simp; omega⟩
   ·exact ⟨[],l,hk,by rw [if_pos (by simp; omega)],by simp [e]⟩
 | succ r ih =>
  intro ds s m l hl hd hs hm hk
  cases m with
  | zero=>omega
  | succ m =>
   rw [Dc]
   unfold FT
   rw [if_neg (by rw [DY,beq_iff_eq]; omega)]
   refine Exists.elim (XE (CP (s:Int) ds (Dc m)) (min s 4 + 1) (fun z=>∃ h,Qk t g h ∧ z = (G4 t,g,h)) (fun (p:Nat)=>OZ (Hu t g) ds (p:Int) && LE (Hu t g) r (ds ++ [(p:Int)]) (s - p))
    (fun v=>∃ h,Qk t g h ∧ v.2 = (G4 t,g,h) ∧ 0 < v.1.length) (fun v=>∃ h,Qk t g h ∧ v = ([],(G4 t,g,h))) (by omega) (fun p z hp hz=>?_) (fun z hz=>?_) (s:=(G4 t,g,l)) ⟨l,hk,rfl⟩) ?_
   ·obtain ⟨l1,g1,rfl⟩:=hz
    obtain ⟨l2,g2,g3⟩:=Aac f g1 hd (by omega) (p:=p) (by omega) (s:Int) (by omega)
    have aa:min (s:Int) 4 = ((min s 4:Nat):Int):=by omega
    by_cases u:OZ (Hu t g) ds (p:Int) = true
    ·obtain ⟨out,l3,g4,g5,g6⟩:=ih (ds ++ [(p:Int)]) (s - p) m l2 (by simp; omega) (WA hd (by omega)) (by omega) (by omega) g2
     rw [show ((s - p:Nat):Int) = (s:Int) - (p:Int) by omega] at g5
     cases he:LE (Hu t g) r (ds ++ [(p:Int)]) (s - p) with
     | true =>
      rw [he,CC] at g6
      refine .inl ⟨by rw [u]; rfl,(out,(G4 t,g,l3)),⟨l3,g4,rfl,g6⟩,fun q=>?_⟩
      rw [CP,Ka,Aa,aa,if_pos (by simp; omega)]
      unfold Bk
      dsimp only
      rw [g3,if_pos u,g5,Aa,if_pos (by simpa using g6)]
     | false =>
      rw [he,decide_eq_false_iff_not] at g6
      refine .inr ⟨by rw [u]; rfl,(G4 t,g,l3),⟨l3,g4,rfl⟩,fun q=>?_⟩
      rw [CP,Ka,Aa,aa,if_pos (by simp; omega)]
      unfold Bk
      dsimp only
      rw [g3,if_pos u,g5,Aa,if_neg (by simpa using g6),AD (by omega)]
    ·refine .inr ⟨by simp [u],(G4 t,g,l2),⟨l2,g2,rfl⟩,fun q=>?_⟩
     rw [CP,Ka,Aa,aa,if_pos (by simp; omega)]
     unfold Bk
     dsimp only
     rw [g3,if_neg u,AD (by omega)]
   ·obtain ⟨l1,g1,rfl⟩:=hz
    have aa:min (s:Int) 4 = ((min s 4:Nat):Int):=by omega
    refine ⟨([],(G4 t,g,l1)),⟨l1,g1,rfl⟩,fun q=>?_⟩
    rw [CP,Ka,Aa,aa,if_neg (by rw [CC]; omega)]
   ·rintro v ⟨h2,h3⟩
    rw [LE]
    rcases h3 with ⟨h4,h,h5,an,h7⟩ | ⟨h4,h,h5,an⟩
    ·exact ⟨v.1,h,h5,by rw [h2,← an],by rw [h4]; simpa using h7⟩
    ·subst an
     exact ⟨[],h,h5,h2,by rw [h4]; rfl⟩
theorem Vl {t:BV} {e:Int} (f:RepF t e):∃ r,Js t e = some r ∧ decide (0 < r.1.length) = LF (Hu t e) t.1.length []:=by
 have h6:=f.n6
 unfold Js
 rw [LS f.tr,Aa]
 have al:Qk t e (List.replicate 900 0):=⟨List.length_replicate,fun i k q p hi hk hq hp=>.inl (by rw [List.getElem?_replicate,if_pos (by unfold HP; omega)])⟩
 refine Exists.elim (XE (Ea t) (4 * t.1.length + 1) (fun z=>∃ l',Qk t e l' ∧ z = (G4 t,e,l')) (fun s=>LE (Hu t e) t.1.length [] s)
  (fun h=>0 < h.1.length) (fun h=>h.1 = []) (by omega) (fun s z hs m=>?_) (fun z m=>?_) (s:=(G4 t,e,List.replicate 900 0)) ⟨_,al,rfl⟩) ?_
 ·obtain ⟨l1,g1,rfl⟩:=m
  obtain ⟨out,l3,g4,g5,g⟩:=YC f t.1.length [] s FU l1 (by simp) (fun i hi=>by simp at hi) (by omega) (D4 (by omega)) g1
  cases he:LE (Hu t e) t.1.length [] s with
  | true =>
   rw [he,CC] at g
   refine .inl ⟨rfl,(out,(s:Int)),g,fun q=>?_⟩
   rw [Ea,A6 (by omega) (by omega),if_pos (by simp; omega)]
   unfold HS
   rw [g5,Aa,if_pos (by simpa using g)]
  | false =>
   rw [he,decide_eq_false_iff_not] at g
   refine .inr ⟨rfl,(G4 t,e,l3),⟨l3,g4,rfl⟩,fun q=>?_⟩
   rw [Ea,A6 (by omega) (by omega),if_pos (by simp; omega)]
   unfold HS
   rw [g5,Aa,if_neg (by simpa using g),AD (by omega)]
 ·obtain ⟨l1,g1,rfl⟩:=m
  refine ⟨([],0),rfl,fun q=>?_⟩
  rw [Ea,A6 (by omega) (by omega),if_neg (by simp; omega)]
 ·rintro h ⟨h2,h3⟩
  refine ⟨h,h2,?_⟩
  rcases h3 with ⟨u,v⟩ | ⟨u,v⟩
  ·have:LF (Hu t e) t.1.length [] = true:=by
    rw [R4]
    obtain ⟨s,h7,l⟩:=List.any_eq_true.1 u
    exact ⟨s,by have:=List.mem_range.1 h7; omega,l⟩
   rw [this]
   simpa using v
  ·have:LF (Hu t e) t.1.length [] = false:=by
    rw [← Bool.not_eq_true,R4]
    rintro ⟨s,h7,l⟩
    have:=List.any_eq_false.1 u s (List.mem_range.2 (by omega))
    exact this l
   rw [this,v]
   rfl
structure T4 (t:BV) (least:Int) (l:List Bool) (c:Nat):Prop where
 len:l.length = 900
 val:∀ i k q p:Nat,i < k → k < t.1.length → q < 5 → p < 5 → HP i k q p < c → l[HP i k q p]? = some (!Hu t least i k (q:Int) (p:Int))
abbrev OD:=(List Bool) × Int × (List Int) × Int
theorem Ac2 {t:BV} {e:Int} (f:RepF t e) {l:List Bool} (h:T4 t e l 900) {ds:List Int} (hd:XI ds) (hl:ds.length < t.1.length) {p:Nat} (hp:p < 5) (s:Int) (hs:0 ≤ s ∧ s ≤ 1000)
  (y:OD) (hy:y.1 = l) (g:OD → Ae OD) (u:OD → (List Int) → Int → Ae OD):CK ds (p:Int) u s g FU y true 0 =
   if OZ (Hu t e) ds (p:Int) = true then Option.bind (u y (ds ++ [(p:Int)]) (s + p)) g else g y:=by
 have h6:=f.n6
 refine EM (fun m (b:Bool) k=>CK ds (p:Int) u s g m y b k) ds.length (fun k=>(List.range k).all fun i=>Hu t e i ds.length (ds.getD i 0) (p:Int)) _ (by omega) (j:=0) (by omega) (fun m k _ hk=>?_) (fun m=>?_)
 ·obtain ⟨q,hq,v⟩:=hd k hk
  rw [CK,if_pos (by simp; omega)]
  unfold Gl
  dsimp only
  rw [AY,v,Aa,M4,AD (by omega)]
  cases (List.range k).all fun i=>Hu t e i ds.length (ds.getD i 0) (p:Int) with
  | false=>rfl
  | true =>
   have c1:(decide (0 ≤ (k:Int)) && decide ((k:Int) < 6)) = true:=by simp; omega
   have c2:(decide (0 ≤ (ds.length:Int)) && decide ((ds.length:Int) < 6)) = true:=by simp; omega
   have c3:(decide (0 ≤ (q:Int)) && decide ((q:Int) < 5)) = true:=by simp; omega
   have c4:(decide (0 ≤ (p:Int)) && decide ((p:Int) < 5)) = true:=by simp; omega
   rw [if_pos rfl,if_pos c1,if_pos c2,if_pos c3,if_pos c4]
   simp only [Int.toNat_natCast]
   rw [show k * 150 + ds.length * 25 + q * 5 + p * 1 = HP k ds.length q p by rfl,hy,h.val k ds.length q p hk hl hq hp (by unfold HP; omega),Aa,Bool.not_not,Bool.true_and,Aa5 v]
 ·rw [CK,if_neg (by simp),Na _ (by omega),Aa,Bt (by simp; omega),Aa,A6 (by omega) (by omega)]
  rfl
theorem Zn {t:BV} {aa:Int} (f:RepF t aa) {l:List Bool} (hc:T4 t aa l 900):∀ (r:Nat) (ds:List Int) (s:Nat) (m:Nat) (g:List Int) (h:Int),ds.length + r = t.1.length → XI ds → s ≤ 4 * ds.length → r < m →
  ∃ best' sm',Cl m (l,(t.1.length:Int),g,h) ds (s:Int) = some (l,(t.1.length:Int),best',sm') ∧ (!best'.isEmpty) = ((!g.isEmpty) || LF (Hu t aa) r ds):=by
 have h6:=f.n6
 have h1:=f.tr.can.l1
 intro r
 induction r with
 | zero =>
  intro ds s m g h hl hd hs hm
  cases m with
  | zero=>omega
  | succ m =>
   rw [Cl]
   unfold EL Gl
   dsimp only
   have al:ds.isEmpty = false:=by rw [List.isEmpty_eq_false_iff]; intro e; rw [e] at hl; simp at hl; omega
   have ao:(if ((ds.length:Int) == (t.1.length:Int)) = true then Option.bind (Ft ds) fun ad=>(if (List.isEmpty ad) = true then none else some (l,(t.1.length:Int),ad,(s:Int))) else Cu ds (Cl m) (s:Int) FU (l,(t.1.length:Int),g,h) 0) = some (l,(t.1.length:Int),ds,(s:Int)):=by
    rw [if_pos (by rw [beq_iff_eq]; omega),Na _ (by omega),Aa,al,if_neg (by simp)]
   rw [LF,Bool.or_true]
   cases u:g.isEmpty with
   | true =>
    rw [if_neg (by simp),if_neg (by simp),ao]
    exact ⟨ds,_,rfl,by rw [al]; rfl⟩
   | false =>
    rw [if_pos (by simp)]
    by_cases ac:h ≤ (s:Int)
    ·rw [if_pos (decide_eq_true ac)]
     exact ⟨g,h,rfl,by rw [u]; rfl⟩
    ·rw [if_neg (by simpa using ac),ao]
     exact ⟨ds,_,rfl,by rw [al]; rfl⟩
 | succ r ih =>
  intro ds s m g h hl hd hs hm
  cases m with
  | zero=>omega
  | succ m =>
   rw [Cl]
   unfold EL Gl
   dsimp only
   have go:∃ best' sm',(if ((ds.length:Int) == (t.1.length:Int)) = true then Option.bind (Ft ds) fun ad=>(if (List.isEmpty ad) = true then none else some (l,(t.1.length:Int),ad,(s:Int))) else Cu ds (Cl m) (s:Int) FU (l,(t.1.length:Int),g,h) 0) = some (l,(t.1.length:Int),best',sm') ∧ (!best'.isEmpty) = ((!g.isEmpty) || LF (Hu t aa) (r + 1) ds):=by
    rw [if_neg (by rw [beq_iff_eq]; omega)]
    refine Exists.elim (JB (fun (_:Unit) m' (z:OD) k=>Cu ds (Cl m) (s:Int) m' z k) 5 (fun k z=>∃ v s',z = (l,(t.1.length:Int),v,s') ∧ (!v.isEmpty) = ((!g.isEmpty) || (List.range k).any fun (p:Nat)=>OZ (Hu t aa) ds (p:Int) && LF (Hu t aa) r (ds ++ [(p:Int)])))
     (fun _ z=>some z) (by omega) (fun p z _ hp hz=>?_) (fun z hz j m'=>?_) (b:=0) (by omega) (s:=(l,(t.1.length:Int),g,h)) ⟨g,h,rfl,by simp⟩) ?_
    ·obtain ⟨v,s',rfl,u⟩:=hz
     have aq:=Ac2 f hc hd (by omega) (p:=p) hp (s:Int) (by omega) (l,(t.1.length:Int),v,s') rfl
     by_cases hf:OZ (Hu t aa) ds (p:Int) = true
     ·obtain ⟨b2,s2,g1,g2⟩:=ih (ds ++ [(p:Int)]) (s + p) m v s' (by simp; omega) (WA hd hp) (by simp; omega) (by omega)
      refine ⟨(l,(t.1.length:Int),b2,s2),⟨b2,s2,rfl,?_⟩,fun _ m'=>?_⟩
      ·rw [g2,u,List.range_succ,List.any_append,List.any_cons,List.any_nil,Bool.or_false,hf,Bool.true_and,Bool.or_assoc]
      ·rw [Cu,if_pos (by simp; omega)]
       unfold Bk
       dsimp only
       rw [aq,if_pos hf,show (s:Int) + (p:Int) = ((s + p:Nat):Int) by omega,g1,Aa,AD (by omega)]
     ·refine ⟨(l,(t.1.length:Int),v,s'),⟨v,s',rfl,?_⟩,fun _ m'=>?_⟩
      ·have az:OZ (Hu t aa) ds (p:Int) = false:=by simpa using hf
       rw [u,List.range_succ,List.any_append,List.any_cons,List.any_nil,Bool.or_false,az,Bool.false_and,Bool.or_false]
      ·rw [Cu,if_pos (by simp; omega)]
       unfold Bk
       dsimp only
       rw [aq,if_neg hf,AD (by omega)]
    ·rw [Cu,if_neg (by decide)]
    ·rintro z ⟨⟨v,s',rfl,u⟩,hz⟩
     exact ⟨v,s',hz (),u⟩
   cases u:g.isEmpty with
   | true =>
    rw [if_neg (by simp),if_neg (by simp)]
    rw [u] at go
    exact go
   | false =>
    rw [if_pos (by simp)]
    by_cases ac:h ≤ (s:Int)
    ·rw [if_pos (decide_eq_true ac)]
     exact ⟨g,h,rfl,by rw [u]; rfl⟩
    ·rw [if_neg (by simpa using ac)]
     rw [u] at go
     exact go
theorem Tw {t:BV} {g:Int} {l:List Bool} {c c':Nat} (h:T4 t g l c) (s:∀ i k q p:Nat,i < k → k < t.1.length → q < 5 → p < 5 → HP i k q p < c' → HP i k q p < c):T4 t g l c' :=
 ⟨h.len,fun i k q p h1 f m e u=>h.val i k q p h1 f m e (s i k q p h1 f m e u)⟩
def O7 (t:BV) (l:List Bool):OD:=(l,(t.1.length:Int),[],0)
theorem So {t:BV} {h:Int} (f:RepF t h):∃ r,HI t h = some r ∧ (!r.1.isEmpty) = LF (Hu t h) t.1.length []:=by
 have h6:=f.n6
 unfold HI
 rw [Oc f.tr,Aa,DY]
 have h0:T4 t h (List.replicate 900 false) (HP 0 1 0 0):=⟨List.length_replicate,fun i k q p h1 h2 h3 h4 h5=>by unfold HP at h5; omega⟩
 refine Exists.elim (JB (fun (_:Unit) m (z:OD) i=>DO (G4 t) h m z i) t.1.length (fun i z=>∃ l,z = O7 t l ∧ T4 t h l (HP i (i + 1) 0 0)) (fun _ z=>Option.bind (GX z [] 0) fun al=>some (al.2.2.1,al.2.2.2)) (by omega) (fun i z _ hi g=>?_) (fun z g j m=>?_) (b:=0) (by omega) (s:=O7 t (List.replicate 900 false)) ⟨_,rfl,h0⟩) ?_
 ·obtain ⟨l,rfl,hl⟩:=g
  refine Exists.elim (JB (fun (u:OD → Int → Ae Ae1) m (z:OD) k=>DN (G4 t) (i:Int) h u m z k) t.1.length (fun k z=>∃ l,z = O7 t l ∧ T4 t h l (HP i k 0 0)) (fun u z=>u z ((i + 1:Nat):Int)) (by omega) (fun k z a3 hk g=>?_) (fun z g j m=>?_) (b:=i + 1) (by omega) (s:=O7 t l) ⟨_,rfl,hl⟩) ?_
  ·obtain ⟨l,rfl,hl⟩:=g
   refine Exists.elim (JB (fun (u:OD → Int → Ae Ae1) m (z:OD) p=>DM (G4 t) (i:Int) (k:Int) h u m z p) 5 (fun p z=>∃ l,z = O7 t l ∧ T4 t h l (HP i k p 0)) (fun u z=>u z ((k + 1:Nat):Int)) (by omega) (fun p z _ hp g=>?_) (fun z g j m=>?_) (b:=0) (by omega) (s:=O7 t l) ⟨_,rfl,hl⟩) ?_
   ·obtain ⟨l,rfl,hl⟩:=g
    refine Exists.elim (JB (fun (u:OD → Int → Ae Ae1) m (z:OD) q=>DL (G4 t) (i:Int) (k:Int) (p:Int) h u m z q) 5 (fun q z=>∃ l,z = O7 t l ∧ T4 t h l (HP i k p q)) (fun u z=>u z ((p + 1:Nat):Int)) (by omega) (fun q z _ hq g=>?_) (fun z g j m=>?_) (b:=0) (by omega) (s:=O7 t l) ⟨_,rfl,hl⟩) ?_
    ·obtain ⟨l,rfl,hl⟩:=g
     have c1:(decide (0 ≤ (i:Int)) && decide ((i:Int) < 6)) = true:=by simp; omega
     have c2:(decide (0 ≤ (k:Int)) && decide ((k:Int) < 6)) = true:=by simp; omega
     have c3:(decide (0 ≤ (p:Int)) && decide ((p:Int) < 5)) = true:=by simp; omega
     have c4:(decide (0 ≤ (q:Int)) && decide ((q:Int) < 5)) = true:=by simp; omega
     have am:HP i k p q < 900:=by unfold HP; omega
     refine ⟨O7 t (l.set (HP i k p q) (!Hu t h i k (p:Int) (q:Int))),⟨_,rfl,by rw [List.length_set]; exact hl.len,fun i' k' p' q' h1 h2 h3 h4 h5=>?_⟩,fun u m=>?_⟩
     ·by_cases e:HP i k p q = HP i' k' p' q'
      ·have:i = i' ∧ k = k' ∧ p = p' ∧ q = q':=by unfold HP at e; omega
       obtain ⟨rfl,rfl,rfl,rfl⟩:=this
       rw [List.getElem?_set_self (by rw [hl.len]; exact am)]
      ·rw [List.getElem?_set_ne e]
       exact hl.val i' k' p' q' h1 h2 h3 h4 (by unfold HP at h5 e ⊢; omega)
     ·have e:(!Hu t h i k (p:Int) (q:Int)) = KU (Hn t i) (Hn t k) (p:Int) (q:Int) h:=by unfold Hu; rw [Bool.not_not]
      rw [DL,if_pos (by simp; omega)]
      unfold Bk
      dsimp only
      rw [AY,Iu t hi,Aa,AY,Iu t hk,Aa,if_pos c1,if_pos c2,if_pos c3,Nn (f.del hi hk (by omega) (by omega)) f.l0,Aa,if_pos c4]
      simp only [Int.toNat_natCast]
      rw [show i * 150 + k * 25 + p * 5 + q * 1 = HP i k p q by rfl]
      unfold NN O7
      dsimp only
      rw [hl.len,if_pos am,Aa,AD (by omega),e]
    ·obtain ⟨l,rfl,hl⟩:=g
     rw [DL,if_neg (by decide),AD (by omega)]
    ·rintro z ⟨⟨v,rfl,ae⟩,g⟩
     refine ⟨O7 t v,⟨v,rfl,Tw ae (fun i' k' p' q' h1 h2 h3 h4 h5=>by unfold HP at h5 ⊢; omega)⟩,fun u m=>?_⟩
     rw [DM,if_pos (by simp; omega)]
     exact g _
   ·rw [DM,if_neg (by decide),AD (by omega)]
   ·rintro z ⟨⟨v,rfl,ae⟩,g⟩
    refine ⟨O7 t v,⟨v,rfl,Tw ae (fun i' k' p' q' h1 h2 h3 h4 h5=>by unfold HP at h5 ⊢; omega)⟩,fun u m=>?_⟩
    rw [DN,if_pos (by rw [DY]; simp; omega)]
    exact g _
  ·rw [DN,if_neg (by rw [DY]; simp),AD (by omega)]
  ·rintro z ⟨⟨v,rfl,ae⟩,g⟩
   refine ⟨O7 t v,⟨v,rfl,Tw ae (fun i' k' p' q' h1 h2 h3 h4 h5=>by unfold HP at h5 ⊢; omega)⟩,fun _ m=>?_⟩
   rw [DO,if_pos (by rw [DY]; simp; omega),AD (by omega)]
   exact g _
 ·rw [DO,if_neg (by rw [DY]; simp)]
 ·rintro z ⟨⟨v,rfl,ae⟩,g⟩
  obtain ⟨b',s',g1,g2⟩:=Zn f (Tw ae (c':=900) (fun i' k' p' q' h1 h2 h3 h4 h5=>by unfold HP; omega)) t.1.length [] 0 FU [] 0 (by simp) (fun i hi=>by simp at hi) (by simp) (D4 (by omega))
  refine ⟨(b',s'),Eq.trans (g ()) ?_,g2⟩
  unfold GX O7
  have au:Cl FU (v,(t.1.length:Int),[],0) [] 0 = some (v,(t.1.length:Int),b',s'):=g1
  rw [au,Aa]

def Mc (t:BV) (least:Int):Int × Bool :=
 if (Lp t && (decide (t.2.2.1 ≤ 16) && (decide (t.1.length ≤ 6) && BM least 0 80))) = true then ((if OU t least = true then 0 else if (VP t least).isSome = true then 1 else if LF (Hu t least) t.1.length [] = true then 2 else 3),true) else (0,false)
theorem Ac6 (n:Nat):decide ((n:Int) ≤ 6) = decide (n ≤ 6):=by rw [decide_eq_decide]; omega
theorem Ts {t:BV} (h:SmT t) (e:Int):Il t e = some (Mc t e):=by
 have:=h.h1; have:=h.h2; have:=h.h3
 unfold Il J6 Bk Mc
 dsimp only
 rw [Lq (by omega) (by omega) (by omega),Aa,QP,Aa,Ac6]
 cases s:Lp t with
 | false=>rfl
 | true =>
  by_cases l:t.2.2.1 ≤ 16
  ·rw [decide_eq_true l]
   by_cases g:t.1.length ≤ 6
   ·rw [decide_eq_true g]
    cases u:BM e 0 80 with
    | false=>rfl
    | true =>
     have f:RepF t e:=⟨NV s,l,g,D9.1 u⟩
     obtain ⟨r1,m,e2⟩:=Tp f
     obtain ⟨r2,v,e4⟩:=So f
     simp only [if_true,Bool.not_true,Bool.false_eq_true,if_false,Aa,Bool.and_true]
     rw [Nm f,Aa,m,Aa,e2,v,Aa,e4]
     cases OU t e <;> cases (VP t e).isSome <;> cases LF (Hu t e) t.1.length [] <;> rfl
   ·rw [decide_eq_false g]; rfl
  ·rw [decide_eq_false l]; rfl
theorem SU {t:BV} (h:SmT t) (e:Int):Id t e = some (Mc t e):=by
 have:=h.h1; have:=h.h2; have:=h.h3
 unfold Id L7 Bk Mc
 dsimp only
 rw [OQ (by omega) (by omega) (by omega),Aa,Oz,Aa,Ac6]
 cases s:Lp t with
 | false=>rfl
 | true =>
  by_cases l:t.2.2.1 ≤ 16
  ·rw [decide_eq_true l]
   by_cases g:t.1.length ≤ 6
   ·rw [decide_eq_true g]
    cases u:BM e 0 80 with
    | false=>rfl
    | true =>
     have f:RepF t e:=⟨NV s,l,g,D9.1 u⟩
     obtain ⟨r1,m,e2⟩:=Xg f
     obtain ⟨r2,e3,e4⟩:=Vl f
     have v:decide (0 < (r2.1.length:Int)) = decide (0 < r2.1.length):=by rw [decide_eq_decide]; omega
     simp only [if_true,Bool.not_true,Bool.false_eq_true,if_false,Aa,Bool.and_true]
     rw [N8 (by omega),Aa,RL f,Aa,m,Aa,e2,e3,Aa,v,e4]
     unfold OU
     cases ((J5 (TQ t e) t.1.length t.1.length).length:Int) == 0 <;> cases (VP t e).isSome <;> cases LF (Hu t e) t.1.length [] <;> rfl
   ·rw [decide_eq_false g]; rfl
  ·rw [decide_eq_false l]; rfl
theorem ZZ (t:BV) (e:Int):0 ≤ (Mc t e).1 ∧ (Mc t e).1 ≤ 3:=by
 unfold Mc
 split
 ·dsimp only
  split
  ·decide
  ·split
   ·decide
   ·split <;> decide
 ·decide
theorem Ab7 {k u:Nat} (h:u < 10 ^ (k + 1)):(Lib.decDigits u).length ≤ k + 1:=(Ve k u h).2.2.2.1
theorem TI {t:Int} (f:0 ≤ t) (h1:t < 10):K0 [Mt (Ag (48 + t))] = [UInt8.ofNat (48 + t.toNat)]:=by
 have e:Mt (48 + t) = 48 + t:=by
  unfold Mt
  show (48 + t) % 256 = _
  omega
 rw [A6 (by omega) (by omega),e]
 unfold K0
 rw [List.map_cons,List.map_nil,show (48 + t).toNat = 48 + t.toNat by omega]
theorem Adq:∀ (d m:Nat) (n:Int),0 ≤ n → n.toNat < 10 ^ (d + 1) → d ≤ 18 → d < m → n ≤ 9223372036854775807 → FO m n = some (Lib.decDigits n.toNat):=by
 intro d
 induction d with
 | zero =>
  intro m n e g s v h
  cases m with
  | zero=>omega
  | succ m =>
   have f:n.toNat < 10:=by simpa using g
   rw [FO,if_pos (by simp; omega),TI e (by omega),QV f]
 | succ d ih =>
  intro m n e g s v h
  cases m with
  | zero=>omega
  | succ m =>
   by_cases f:n < 10
   ·rw [FO,if_pos (by simp; omega),TI e f,QV (by omega)]
   ·rw [FO,if_neg (by simp; omega)]
    unfold Bk
    dsimp only
    have hq:(n / 10).toNat = n.toNat / 10:=by omega
    have l:(n % 10).toNat = n.toNat % 10:=by omega
    have ac:n.toNat / 10 < 10 ^ (d + 1):=by rw [Nat.pow_succ] at g; omega
    have hl:=Ab7 (k:=d) ac
    rw [Int.tdiv_eq_ediv_of_nonneg e,Int.tmod_eq_emod_of_nonneg e,A6 (x:=n / 10) (by omega) (by omega),ih m (n / 10) (by omega) (by omega) (by omega) (by omega) (by omega),Aa,TI (by omega) (by omega),hq,l]
    unfold Cm
    rw [if_pos (by simp; omega),Aa,XJ (u:=n.toNat) (by omega)]
theorem JY {n:Int} (h:0 ≤ n) (e:n ≤ 9223372036854775807):Dd n = some (Lib.decDigits n.toNat):=by
 unfold Dd
 exact Adq 18 FU n h (by omega) (by omega) (D4 (by omega)) e
theorem Aa8 {x:G7} (h:Gd x = true) {c:Int} (h0:0 ≤ c) (h1:c ≤ 4611686018427387904):0 ≤ Rq x c ∧ Rq x c ≤ 720000:=by
 obtain ⟨l1,l2,hx⟩:=MS h
 have aw:x.length ≤ 40:=by
  unfold Gd at h
  rw [Cg,LO] at h
  omega
 have ab:∀ (d k m:Nat) (a b:Int),x.length - k = d → k ≤ x.length → d < m → 0 ≤ a → a ≤ 4611686018427387904 → 0 ≤ b → b ≤ 18000 * k → ∃ t,Di x m a b (k:Int) = some t ∧ 0 ≤ t ∧ t ≤ 18000 * x.length:=by
  intro d
  induction d with
  | zero =>
   intro k m a b hd hk hm s a1 b0 b1
   cases m with
   | zero=>omega
   | succ m =>
    rw [Di,if_neg (by simp; omega)]
    exact ⟨_,rfl,by omega,by omega⟩
  | succ d ih =>
   intro k m a b hd hk hm s a1 b0 b1
   cases m with
   | zero=>omega
   | succ m =>
    have g:k < x.length:=by omega
    have l:=List.all_eq_true.1 hx x[k] (List.getElem_mem g)
    unfold G3 at l
    rw [Cg,LO,LO] at l
    have u:¬ x[k].2 = 0:=by omega
    have Cq:∀ q:Int,0 ≤ q → q ≤ 12 → Ag (Int.tdiv (Ag (60000 * q)) x[k].2) = 60000 * q / x[k].2 ∧ 0 ≤ 60000 * q / x[k].2 ∧ 60000 * q / x[k].2 ≤ 18000:=by
     intro q q0 q1
     have d1:0 ≤ 60000 * q / x[k].2:=Int.ediv_nonneg (by omega) (by omega)
     have d2:60000 * q / x[k].2 ≤ 18000:=by
      have:=Int.ediv_le_ediv (c:=x[k].2) (by omega) (show 60000 * q ≤ 18000 * x[k].2 by omega)
      rw [Int.mul_ediv_cancel _ u] at this
      exact this
     rw [A6 (x:=60000 * q) (by omega) (by omega),Int.tdiv_eq_ediv_of_nonneg (by omega),A6 (by omega) (by omega)]
     exact ⟨rfl,d1,d2⟩
    rw [Di,if_pos (by simp; omega),Jo g,Aa]
    simp only [H1,if_neg u,Aa,AD (k:=k) (by omega)]
    split
    ·rename_i f
     have aj:a < x[k].1:=by simpa using f
     obtain ⟨e,e0,e1⟩:=Cq a s (by omega)
     rw [e,A6 (by omega) (by omega)]
     exact ⟨_,rfl,by omega,by omega⟩
    ·rename_i f
     have aj:¬ a < x[k].1:=by simpa using f
     obtain ⟨e,e0,e1⟩:=Cq x[k].1 (by omega) (by omega)
     rw [e,A6 (x:=a - x[k].1) (by omega) (by omega),A6 (x:=b + _) (by omega) (by omega)]
     exact ih (k + 1) m _ _ (by omega) (by omega) (by omega) (by omega) (by omega) (by omega) (by omega)
 obtain ⟨t,v,t0,t1⟩:=ab _ 0 FU c 0 rfl (by omega) (D4 (by omega)) h0 h1 (by omega) (by simp)
 have:=OO x h c
 unfold FJ at this
 rw [show ((0:Nat):Int) = 0 by rfl] at v
 rw [v] at this
 have e:=Option.some.inj this
 rw [← e]
 exact ⟨t0,by omega⟩
abbrev IA:=Int × Int × Int
def SN (k:Nat) (x:IA):Bool:=(if k = 0 then decide (x.1 = -1) else BM x.1 0 ((k:Int) - 1)) && (BM x.2.1 0 7 && BM x.2.2 0 999)
def OI (l:List IA) (k:Nat):Bool:=match l[k]? with
 | some x=>SN k x
 | none=>true
def Ht (l:List IA):Bool:=BM (l.length:Int) 1 60 && (List.range l.length).all (OI l)
theorem OL {l:List IA} (s:l.length < 4611686018427387904):HX l = some (Ht l):=by
 unfold HX Ht
 rw [O5 (FB l) l.length (OI l) (some (BM (l.length:Int) 1 60)) (some false) s (fun m k u=>?_) (fun m=>?_)]
 ·cases (List.range l.length).all (OI l) <;> simp
 ·obtain ⟨x,g⟩:∃ x,l[k]? = some x:=⟨_,Cp u⟩
  rw [FB,if_pos (by simp; omega),AY,g,Aa,AD (by omega)]
  unfold Bk OI
  rw [g]
  dsimp only
  rw [CU,Aa,CU,CU,Aa,Aa,A6 (by omega) (by omega)]
  unfold SN
  by_cases h:k = 0
  ·subst h
   have:BM x.1 0 (((0:Nat):Int) - 1) = false:=by rw [← Bool.not_eq_true,D9]; omega
   rw [this]
   by_cases f:x.1 = -1 <;> by_cases h1:BM x.2.1 0 7 = true <;> by_cases e:BM x.2.2 0 999 = true <;> simp [f,h1,e]
  ·by_cases f:BM x.1 0 ((k:Int) - 1) = true <;> by_cases h1:BM x.2.1 0 7 = true <;> by_cases e:BM x.2.2 0 999 = true <;> simp [f,h1,e,h,show 0 < k by omega]
 ·rw [FB,if_neg (by simp),CU,Aa]
theorem LC {l:List IA} (hl:l.length < 4611686018427387904):FI l = some (Ht l):=by
 unfold FI Ht Bk
 dsimp only
 rw [CT,Aa]
 cases hi:BM (l.length:Int) 1 60 with
 | false=>simp
 | true =>
  have ae:=D9.1 hi
  obtain ⟨u,s⟩:∃ x,l[0]? = some x:=⟨_,Cp (by omega)⟩
  rw [if_neg (by simp),Ss,s,Aa,Bool.true_and]
  by_cases f:u.1 = -1
  ·rw [if_neg (by simpa using f),O5 (DS l) l.length (OI l) (some true) (some false) hl (fun m k hk=>?_) (fun m=>?_)]
   ·cases (List.range l.length).all (OI l) <;> simp
   ·obtain ⟨x,e⟩:∃ x,l[k]? = some x:=⟨_,Cp hk⟩
    rw [DS,if_pos (by simp; omega),AY,e,Aa,AD (by omega)]
    unfold Bk OI
    rw [e]
    dsimp only
    rw [CT,Aa,CT,CT,Aa,Aa,A6 (by omega) (by omega)]
    unfold SN
    by_cases v:k = 0
    ·subst v
     rw [s] at e
     cases e
     by_cases h1:BM u.2.1 0 7 = true <;> by_cases g:BM u.2.2 0 999 = true <;> simp [f,h1,g]
    ·by_cases hq:BM x.1 0 ((k:Int) - 1) = true <;> by_cases h1:BM x.2.1 0 7 = true <;> by_cases g:BM x.2.2 0 999 = true <;> simp [hq,h1,g,v,show 0 < k by omega]
   ·rw [DS,if_neg (by simp)]
  ·rw [if_pos (by simpa using f)]
   have:(List.range l.length).all (OI l) = false:=by
    rw [← Bool.not_eq_true,List.all_eq_true]
    intro h
    have:=h 0 (List.mem_range.2 (by omega))
    unfold OI SN at this
    rw [s] at this
    simp [f] at this
   rw [this]
def L0 (l:List IA) (v:IA):List IA × Bool:=if Ht (l ++ [v]) = true then (l ++ [v],true) else ([],false)
theorem SW {l:List IA} (h:Ht l = true) (e:l.length ≤ 60) (v:IA):Ig l v = some (L0 l v):=by
 unfold Ig Bk L0
 dsimp only
 rw [Bt (by simp; omega),Aa,Bt (by simp; omega),Aa,OL (by omega),Aa,h,if_neg (by simp),List.nil_append,OL (by simp; omega),Aa]
 cases Ht (l ++ [v]) <;> rfl
theorem Tu {l:List IA} (h:Ht l = true) (e:l.length ≤ 60) (v:IA):Im l v = some (L0 l v):=by
 unfold Im Bk L0
 dsimp only
 rw [LC (by omega),Aa,h,if_neg (by simp),Bt (by simp; omega),Aa,Bt (by simp; omega),Aa,List.nil_append,LC (by simp; omega),Aa]
 cases Ht (l ++ [v]) <;> rfl
abbrev BO:=Int × Int × Int × Int
def FQ (a b:BO):Prop:=a.2.2.1 < b.2.2.1 ∨ (a.2.2.1 = b.2.2.1 ∧ a.2.1 < b.2.1)
instance (a b:BO):Decidable (FQ a b):=by unfold FQ; exact inferInstance
def Kh (a b:BO):Prop:=¬ FQ b a
theorem LP {a b c:BO} (h1:Kh a b) (e:Kh b c):Kh a c:=by unfold Kh FQ at *; omega
theorem LQ {a b:BO} (h:FQ a b):Kh a b:=by unfold Kh FQ at *; omega
theorem ZW (a:BO):Kh a a:=by unfold Kh FQ at *; omega
def Lx (a:BO):Prop:=(0 ≤ a.2.1 ∧ a.2.1 ≤ 99999) ∧ 0 ≤ a.2.2.1 ∧ a.2.2.1 ≤ 99999
theorem QW {a b:BO} (e:Lx a) (f:Lx b):∃ u,Dr a b = some u ∧ decide (u < 0) = decide (FQ a b) ∧ decide (0 ≤ u) = !decide (FQ a b):=by
 obtain ⟨⟨a1,s⟩,a3,m⟩:=e
 obtain ⟨⟨v,g⟩,b3,l⟩:=f
 unfold Dr
 by_cases h:a.2.2.1 = b.2.2.1
 ·rw [if_neg (by simp [h]),A6 (by omega) (by omega)]
  refine ⟨_,rfl,?_,?_⟩
  ·rw [decide_eq_decide]; unfold FQ; omega
  ·rw [← decide_not,decide_eq_decide]; unfold FQ; omega
 ·rw [if_pos (by simpa using h),A6 (by omega) (by omega)]
  refine ⟨_,rfl,?_,?_⟩
  ·rw [decide_eq_decide]; unfold FQ; omega
  ·rw [← decide_not,decide_eq_decide]; unfold FQ; omega
theorem R1 {i j:Nat} (h:i + j < 4611686018427387904):Ag (Bs .u64 (Bh (Ag ((i:Int) + (j:Int)))) 1) = (((i + j) / 2:Nat):Int):=by
 rw [A6 (x:=(i:Int) + j) (by omega) (by omega)]
 have e:Bh ((i:Int) + (j:Int)) = (i:Int) + j:=by
  unfold Bh
  show ((i:Int) + (j:Int)) % 18446744073709551616 = _
  omega
 rw [e]
 have f:Bs .u64 ((i:Int) + (j:Int)) 1 = (((i + j) / 2:Nat):Int):=by
  unfold Bs
  show Int.fdiv ((i:Int) + (j:Int)) 2 = _
  rw [Int.fdiv_eq_ediv_of_nonneg _ (by omega)]
  omega
 rw [f,A6 (by omega) (by omega)]
theorem Us {R:Type} (f:Nat → Int → Int → Ae R) (q:Nat → Bool) (K:Nat → Ae R) (g h:Nat)
  (hs:∀ (m i j:Nat),i < j → j ≤ h → g ≤ i → f (m + 1) (i:Int) (j:Int) = if q ((i + j) / 2) = true then f m (((i + j) / 2 + 1:Nat):Int) (j:Int) else f m (i:Int) (((i + j) / 2:Nat):Int))
  (he:∀ (m i:Nat),f (m + 1) (i:Int) (i:Int) = K i) (ac:∀ c c',g ≤ c → c ≤ c' → c' < h → q c' = true → q c = true) :
  ∀ (d m i j:Nat),j - i ≤ d → d < m → g ≤ i → i ≤ j → j ≤ h → (∀ c,g ≤ c → c < i → q c = true) → (∀ c,j ≤ c → c < h → q c = false) →
   ∃ s,g ≤ s ∧ s ≤ h ∧ (∀ c,g ≤ c → c < s → q c = true) ∧ (∀ c,s ≤ c → c < h → q c = false) ∧ f m (i:Int) (j:Int) = K s:=by
 intro d
 induction d with
 | zero =>
  intro m i j hd hm u ah l h1 v
  have:i = j:=by omega
  subst this
  cases m with
  | zero=>omega
  | succ m=>exact ⟨i,u,l,h1,v,he m i⟩
 | succ d ih =>
  intro m i j hd hm u ah l h1 v
  cases m with
  | zero=>omega
  | succ m =>
   by_cases e:i = j
   ·subst e
    exact ⟨i,u,l,h1,v,he m i⟩
   ·rw [hs m i j (by omega) l u]
    cases hq:q ((i + j) / 2) with
    | true =>
     rw [if_pos rfl]
     exact ih m _ j (by omega) (by omega) (by omega) (by omega) l (fun c hc ag=>ac c ((i + j) / 2) hc (by omega) (by omega) hq) v
    | false =>
     rw [if_neg (by simp)]
     refine ih m i _ (by omega) (by omega) u (by omega) (by omega) h1 (fun c hc ag=>?_)
     cases aj:q c with
     | false=>rfl
     | true=>rw [ac ((i + j) / 2) c (by omega) hc ag aj] at hq; cases hq
theorem Jm {α:Type} {A B:List α} {x:α} {k:Nat} (h:k = A.length):AL (A ++ x :: B) (k:Int) = some x:=by
 rw [AY,h,List.getElem?_append_right (by omega)]
 simp
theorem MR {α:Type} {A B:List α} {x y:α} {k:Nat} (h:k = A.length):BD (A ++ x :: B) (k:Int) y = A ++ y :: B:=by
 rw [J2,h,List.set_append_right _ _ (by omega)]
 simp
theorem Xx (x1 x2 x3:Nat) (A M B:List BO):∀ (P Q P0 Q0:List BO) (m:Nat),P.length = Q.length → P0.length = Q0.length → x1 = A.length → x2 = A.length + P0.length + P.length + M.length → x3 = P0.length + P.length → x2 + x3 < 1000000 → P.length < m →
  Bw (x3:Int) (x2:Int) (x1:Int) m (A ++ P0 ++ P ++ M ++ Q0 ++ Q ++ B) (P0.length:Int) = some (A ++ P0 ++ Q ++ M ++ Q0 ++ P ++ B)
 | [],Q,P0,Q0,m,h1,h2,h3,h4,h5,h6,hm=>by
  have:Q = []:=List.length_eq_zero_iff.1 h1.symm
  subst this
  cases m with
  | zero=>simp at hm
  | succ m =>
   rw [Bw,if_neg (by simp at h5 ⊢; omega)]
 | p :: P,[],P0,Q0,m,h1,h2,h3,h4,h5,h6,hm=>by simp at h1
 | p :: P,q :: Q,P0,Q0,m,h1,h2,h3,h4,h5,h6,hm=>by
  simp only [List.length_cons] at h1 h4 h5 hm
  cases m with
  | zero=>omega
  | succ m =>
   rw [Bw,if_pos (by simp; omega)]
   unfold Bk
   dsimp only
   rw [AD (by omega),A6 (x:=(x2:Int) + _) (by omega) (by omega),A6 (x:=(x1:Int) + _) (by omega) (by omega)]
   rw [show (x2:Int) + (P0.length:Int) = ((x2 + P0.length:Nat):Int) by omega,show (x1:Int) + (P0.length:Int) = ((x1 + P0.length:Nat):Int) by omega]
   have f:A ++ P0 ++ p :: P ++ M ++ Q0 ++ q :: Q ++ B = (A ++ P0 ++ p :: P ++ M ++ Q0) ++ q :: (Q ++ B):=by simp
   have h:(A ++ P0 ++ p :: P ++ M ++ Q0) ++ q :: (Q ++ B) = (A ++ P0) ++ p :: (P ++ M ++ Q0 ++ q :: (Q ++ B)):=by simp
   have g:(A ++ P0) ++ q :: (P ++ M ++ Q0 ++ q :: (Q ++ B)) = (A ++ P0 ++ q :: P ++ M ++ Q0) ++ q :: (Q ++ B):=by simp
   rw [f,Jm (by simp; omega),Aa,h,Jm (by simp; omega),Aa,Aa,MR (by simp; omega),g,Jm (by simp; omega),Aa,MR (by simp; omega)]
   have e:=Xx x1 x2 x3 A M B P Q (P0 ++ [q]) (Q0 ++ [p]) m (by omega) (by simpa using h2) h3 (by simp; omega) (by simp; omega) h6 (by omega)
   simp only [List.append_assoc,List.cons_append,List.nil_append,CM,List.length_cons,List.length_nil] at e ⊢
   exact e
theorem NK {A P M Q B:List BO} {x1 x2 x3:Nat} (h1:P.length = Q.length) (e:x1 = A.length) (g:x2 = A.length + P.length + M.length) (h:x3 = P.length) (f:x2 + x3 < 1000000) :
  B7 (A ++ P ++ M ++ Q ++ B) (x1:Int) (x2:Int) (x3:Int) = some (A ++ Q ++ M ++ P ++ B):=by
 unfold B7
 have:=Xx x1 x2 x3 A M B P Q [] [] FU h1 rfl e (by simp; omega) (by simp; omega) f (D4 (by omega))
 simpa using this
theorem M9 {α:Type} {l:List α} {k:Nat} (h:k ≤ l.length):∃ P R,l = P ++ R ∧ P.length = k:=⟨l.take k,l.drop k,(List.take_append_drop k l).symm,by simp; omega⟩
theorem ZK (x2:Nat) (hx:x2 < 100000):∀ (d m:Nat) (A U V B:List BO),U.length + V.length ≤ d → d < m → U ≠ [] → V ≠ [] → x2 = A.length + U.length → V.length < 100000 →
  B0 (x2:Int) m (A ++ U ++ V ++ B) (U.length:Int) (V.length:Int) = some (A ++ V ++ U ++ B):=by
 intro d
 induction d with
 | zero =>
  intro m A U V B hd hm g u h2 hv
  exact absurd (List.length_eq_zero_iff.1 (by omega)) g
 | succ d v =>
  intro m A U V B hd hm g u h2 hv
  have aj:=List.length_pos_iff.2 g
  have ah:=List.length_pos_iff.2 u
  cases m with
  | zero=>omega
  | succ m =>
   rw [B0]
   by_cases e:U.length = V.length
   ·rw [if_neg (by simp [e]),A6 (x:=(x2:Int) - _) (by omega) (by omega),show (x2:Int) - (U.length:Int) = (A.length:Int) by omega]
    have:=NK (A:=A) (P:=U) (M:=[]) (Q:=V) (B:=B) (x1:=A.length) (x2:=x2) (x3:=U.length) e rfl (by simp; omega) rfl (by omega)
    simp only [List.append_nil] at this
    rw [this,Aa]
   ·rw [if_pos (by simp; omega)]
    by_cases ae:V.length < U.length
    ·obtain ⟨P,R,rfl,s⟩:=M9 (l:=U) (k:=V.length) (by omega)
     simp only [CM] at *
     rw [if_pos (by simp; omega),A6 (x:=(x2:Int) - _) (by omega) (by omega),show (x2:Int) - ((P.length + R.length:Nat):Int) = (A.length:Int) by omega]
     have:=NK (A:=A) (P:=P) (M:=R) (Q:=V) (B:=B) (x1:=A.length) (x2:=x2) (x3:=V.length) s rfl (by omega) (by omega) (by omega)
     rw [show A ++ (P ++ R) ++ V ++ B = A ++ P ++ R ++ V ++ B by simp,this,Aa,A6 (by omega) (by omega),show ((P.length + R.length:Nat):Int) - (V.length:Int) = (R.length:Int) by omega]
     have h:=v m (A ++ V) R P B (by omega) (by omega) (fun h=>by subst h; simp at ae; omega) (fun h=>by subst h; simp at s; omega) (by simp; omega) (by omega)
     rw [s] at h
     rw [h]
     simp
    ·obtain ⟨R,Q,rfl,hR⟩:=M9 (l:=V) (k:=V.length - U.length) (by omega)
     simp only [CM] at *
     have f:U.length = Q.length:=by omega
     rw [if_neg (by simp; omega),A6 (x:=(x2:Int) - _) (by omega) (by omega),show (x2:Int) - (U.length:Int) = (A.length:Int) by omega,A6 (x:=(x2:Int) + _) (by omega) (by omega),A6 (by omega) (by omega),
      show (x2:Int) + ((R.length + Q.length:Nat):Int) - (U.length:Int) = ((x2 + R.length:Nat):Int) by omega]
     have:=NK (A:=A) (P:=U) (M:=R) (Q:=Q) (B:=B) (x1:=A.length) (x2:=x2 + R.length) (x3:=U.length) f rfl (by omega) (by omega) (by omega)
     rw [show A ++ U ++ (R ++ Q) ++ B = A ++ U ++ R ++ Q ++ B by simp,this,Aa,A6 (by omega) (by omega),show ((R.length + Q.length:Nat):Int) - (U.length:Int) = (R.length:Int) by omega]
     have h:=v m A Q R (U ++ B) (by omega) (by omega) (fun h=>g (List.length_eq_zero_iff.1 (by rw [f,h]; rfl))) (fun h=>e (by rw [h]; simpa using f)) (by omega) (by omega)
     rw [← f] at h
     rw [show A ++ Q ++ R ++ U ++ B = A ++ Q ++ R ++ (U ++ B) by simp,h]
     simp
theorem YL {A U V B:List BO} {x1 x2 x3:Nat} (f:U ≠ []) (g:V ≠ []) (h1:x1 = A.length) (e:x2 = A.length + U.length) (l:x3 = A.length + U.length + V.length) (h:x3 < 100000) :
  BJ (A ++ U ++ V ++ B) (x1:Int) (x2:Int) (x3:Int) = some (A ++ V ++ U ++ B):=by
 unfold BJ
 rw [A6 (by omega) (by omega),A6 (by omega) (by omega),show (x2:Int) - (x1:Int) = (U.length:Int) by omega,show (x3:Int) - (x2:Int) = (V.length:Int) by omega]
 exact ZK x2 (by omega) (U.length + V.length) FU A U V B (Nat.le_refl _) (D4 (by omega)) f g e (by omega)
def FX (l:List BO):Prop:=l.Pairwise Kh
theorem Pk {S1 S2:List BO} {x:BO} (h:FX (S1 ++ S2)) (m:∀ s ∈ S2,Kh x s) (h1:S1 = [] ∨ ∃ R y,S1 = R ++ [y] ∧ Kh y x):FX (S1 ++ x :: S2):=by
 unfold FX at *
 rw [List.pairwise_append] at h ⊢
 refine ⟨h.1,List.pairwise_cons.2 ⟨m,h.2.1⟩,fun a e b g=>?_⟩
 rcases List.mem_cons.1 g with rfl | g
 ·rcases h1 with rfl | ⟨R,y,rfl,l⟩
  ·cases e
  ·rcases AX.1 e with f | f
   ·exact LP ((List.pairwise_append.1 h.1).2.2 a f y (List.mem_singleton.2 rfl)) l
   ·rw [List.mem_singleton.1 f]; exact l
 ·exact h.2.2 a e b g
theorem Zl (nx:List BO → Int → Ae (List BO)) (y6:Int) (A B:List BO) (x:BO) (hx:Lx x) (hA:A.length < 100000):∀ (k m:Nat) (S1 S2:List BO),S1.length = k → k < m → k < 100000 → (∀ s ∈ S1,Lx s) → (∀ s ∈ S2,FQ x s) → FX (S1 ++ S2) →
  ∃ Z,Z.Perm (S1 ++ x :: S2) ∧ FX Z ∧ Bn nx y6 (A.length:Int) m (A ++ S1 ++ x :: S2 ++ B) ((A.length + S1.length:Nat):Int) = nx (A ++ Z ++ B) (Ag (y6 + 1)):=by
 intro k
 induction k with
 | zero =>
  intro m S1 S2 g hm hl v e f
  have:S1 = []:=List.length_eq_zero_iff.1 g
  subst this
  cases m with
  | zero=>omega
  | succ m =>
   refine ⟨x :: S2,List.Perm.refl _,Pk (S1:=[]) f (fun s h=>LQ (e s h)) (.inl rfl),?_⟩
   rw [Bn]
   unfold Bk
   dsimp only
   rw [if_neg (by simp),if_neg (by simp)]
   simp
 | succ k ih =>
  intro m S1 S2 g hm hl v e f
  obtain ⟨R,y,rfl⟩:∃ R y,S1 = R ++ [y]:=⟨S1.dropLast,S1.getLast (fun h=>by subst h; simp at g),(List.dropLast_concat_getLast _).symm⟩
  have hR:R.length = k:=by simpa using g
  have hy:=v y (by simp)
  obtain ⟨u,hu,ag,_⟩:=QW hx hy
  cases m with
  | zero=>omega
  | succ m =>
   rw [Bn]
   unfold Bk
   dsimp only
   have e1:A ++ (R ++ [y]) ++ x :: S2 ++ B = (A ++ R ++ [y]) ++ x :: (S2 ++ B):=by simp
   have e2:(A ++ R ++ [y]) ++ x :: (S2 ++ B) = (A ++ R) ++ y :: (x :: (S2 ++ B)):=by simp
   have ej:Ag (((A.length + (R ++ [y]).length:Nat):Int) - 1) = ((A.length + R.length:Nat):Int):=by
    rw [A6 (by simp; omega) (by simp; omega)]; simp; omega
   rw [if_pos (by simp <;> omega),ej,e1,Jm (by simp <;> omega),Aa,e2,Jm (by simp),Aa,hu,Aa,ag]
   by_cases l:FQ x y
   ·rw [decide_eq_true l,if_pos rfl,Aa]
    rw [← e2,Aa,Aa,MR (by simp <;> omega)]
    have e3:(A ++ R ++ [y]) ++ y :: (S2 ++ B) = (A ++ R) ++ y :: (y :: (S2 ++ B)):=by simp
    rw [e3,Jm (by simp),Aa,MR (by simp)]
    have au:FX (R ++ y :: S2):=by simpa using f
    obtain ⟨Z,al,am,ao⟩:=ih m R (y :: S2) hR (by omega) (by omega) (fun s h=>v s (by simp [h])) (fun s h=>by
     rcases List.mem_cons.1 h with rfl | h
     ·exact l
     ·exact e s h) au
    refine ⟨Z,al.trans ?_,am,?_⟩
    ·rw [List.append_assoc]
     exact List.Perm.append_left R (List.Perm.swap y x S2)
    ·rw [← ao]
     simp
   ·rw [decide_eq_false l,if_neg (by simp)]
    refine ⟨R ++ [y] ++ x :: S2,List.Perm.refl _,Pk f (fun s h=>LQ (e s h)) (.inr ⟨R,y,rfl,l⟩),?_⟩
    simp
theorem Vb (A B:List BO) (v:A.length < 50000):∀ (T S:List BO) (m:Nat),T.length < m → S ≠ [] → S.length + T.length < 50000 → (∀ s ∈ S ++ T,Lx s) → FX S →
  ∃ Z,Z.Perm (S ++ T) ∧ FX Z ∧ AW ((A.length + S.length + T.length:Nat):Int) (A.length:Int) m (A ++ S ++ T ++ B) ((A.length + S.length:Nat):Int) = some (A ++ Z ++ B)
 | [],S,m,hm,hS,hl,ho,hs=>by
  cases m with
  | zero=>simp at hm
  | succ m =>
   refine ⟨S,by simp,hs,?_⟩
   rw [AW,if_neg (by simp)]
   simp
 | x :: T,S,m,hm,hS,hl,ho,hs=>by
  simp only [List.length_cons] at hm hl ⊢
  cases m with
  | zero=>omega
  | succ m =>
   obtain ⟨Z,h1,g,u⟩:=Zl (AW ((A.length + S.length + (T.length + 1):Nat):Int) (A.length:Int) m) ((A.length + S.length:Nat):Int) A (T ++ B) x (ho x (by simp)) (by omega) S.length FU S [] rfl (D4 (by omega)) (by omega) (fun s h=>ho s (by simp [h])) (fun s h=>by cases h) (by simpa using hs)
   rw [AW,if_pos (by simp; omega)]
   rw [show A ++ S ++ x :: T ++ B = A ++ S ++ [x] ++ (T ++ B) by simp,u,AD (by omega)]
   have e:Z.length = S.length + 1:=by have:=h1.length_eq; simpa using this
   obtain ⟨W,w1,l,f⟩:=Vb A B v T Z m (by omega) (fun h=>by subst h; simp at e) (by omega) (fun s h=>by
    rcases AX.1 h with h | h
    ·refine ho s ?_
     have:=h1.mem_iff.1 h
     simp only [AX,List.mem_cons,List.not_mem_nil,or_false] at this ⊢
     rcases this with h | h
     ·exact .inl h
     ·exact .inr (.inl h)
    ·exact ho s (by simp [h])) g
   refine ⟨W,w1.trans ?_,l,?_⟩
   ·have:=h1.append_right T
    simpa using this
   ·rw [e] at f
    rw [show A ++ Z ++ (T ++ B) = A ++ Z ++ T ++ B by simp,← f]
    congr 1 <;> omega
theorem Md {A X B:List BO} {a b:Nat} (h:a = A.length) (e:b = A.length + X.length) (m:b < 50000) (g:∀ s ∈ X,Lx s) :
  ∃ Z,Z.Perm X ∧ FX Z ∧ Bj (A ++ X ++ B) (a:Int) (b:Int) = some (A ++ Z ++ B):=by
 unfold Bj
 rw [AD (by omega)]
 cases X with
 | nil =>
  refine ⟨[],List.Perm.refl _,List.Pairwise.nil,?_⟩
  rw [show FU = (FU - 1) + 1 from rfl,AW,if_neg (by simp at e ⊢; omega)]
 | cons x T =>
  simp only [List.length_cons] at e
  obtain ⟨Z,h1,f,l⟩:=Vb A B (by omega) T [x] FU (D4 (by omega)) (by simp) (by simp; omega) g (List.pairwise_singleton _ _)
  refine ⟨Z,h1,f,?_⟩
  rw [← l]
  simp only [List.length_singleton]
  rw [h,e,show A.length + 1 + T.length = A.length + (T.length + 1) by omega]
  simp
theorem YF (x:BO) (B:List BO) (i:Nat) (s:i < 100000):∀ (Y A:List BO) (m:Nat),Y.length < m → i = A.length + Y.length + 1 →
  Bz (i:Int) m (A ++ x :: Y ++ B) (A.length:Int) = some (A ++ Y ++ x :: B)
 | [],A,m,hm,h=>by
  cases m with
  | zero=>simp at hm
  | succ m =>
   rw [Bz,A6 (x:=(i:Int) - 1) (by omega) (by omega),if_neg (by simp at h ⊢; omega)]
   simp
 | y :: Y,A,m,hm,h=>by
  simp only [List.length_cons] at hm h
  cases m with
  | zero=>omega
  | succ m =>
   rw [Bz,A6 (x:=(i:Int) - 1) (by omega) (by omega),if_pos (by simp; omega)]
   unfold Bk
   dsimp only
   have f:A ++ x :: y :: Y ++ B = (A ++ [x]) ++ y :: (Y ++ B):=by simp
   have l:(A ++ [x]) ++ y :: (Y ++ B) = A ++ x :: (y :: (Y ++ B)):=by simp
   have g:A ++ y :: (y :: (Y ++ B)) = (A ++ [y]) ++ y :: (Y ++ B):=by simp
   rw [AD (by omega),f,Jm (by simp),Aa,l,Jm rfl,Aa,Aa,MR rfl,g,Jm (by simp),Aa,MR (by simp)]
   have e:=YF x B i s Y (A ++ [y]) m (by omega) (by simp; omega)
   simp only [CM,List.length_cons,List.length_nil] at e
   rw [show (A ++ [y]) ++ x :: (Y ++ B) = A ++ [y] ++ x :: Y ++ B by simp,e]
   simp
theorem Acd (y:BO) (B:List BO) (i:Nat) (hi:i < 50000) (A:List BO) (hA:i = A.length):∀ (k m:Nat) (X B:List BO),X.length = k → k < m → k < 50000 →
  Bx (i:Int) m (A ++ X ++ y :: B) ((A.length + X.length:Nat):Int) = some (A ++ y :: X ++ B):=by
 intro k
 induction k with
 | zero =>
  intro m X B e v f
  have:X = []:=List.length_eq_zero_iff.1 e
  subst this
  cases m with
  | zero=>omega
  | succ m =>
   rw [Bx,if_neg (by simp; omega)]
   simp
 | succ k ih =>
  intro m X B e v f
  obtain ⟨R,z,rfl⟩:∃ R z,X = R ++ [z]:=⟨X.dropLast,X.getLast (fun h=>by subst h; simp at e),(List.dropLast_concat_getLast _).symm⟩
  have hR:R.length = k:=by simpa using e
  cases m with
  | zero=>omega
  | succ m =>
   rw [Bx,if_pos (by simp; omega)]
   unfold Bk
   dsimp only
   have g:Ag (((A.length + (R ++ [z]).length:Nat):Int) - 1) = ((A.length + R.length:Nat):Int):=by
    rw [A6 (by simp; omega) (by simp; omega)]; simp; omega
   have u:A ++ (R ++ [z]) ++ y :: B = (A ++ R) ++ z :: (y :: B):=by simp
   have l:(A ++ R) ++ z :: (y :: B) = (A ++ R ++ [z]) ++ y :: B:=by simp
   have s:(A ++ R ++ [z]) ++ z :: B = (A ++ R) ++ z :: (z :: B):=by simp
   rw [g,u,Jm (by simp),Aa,l,Jm (by simp <;> omega),Aa,Aa,MR (by simp <;> omega),s,Jm (by simp),Aa,MR (by simp)]
   have h:=ih m R (z :: B) hR (by omega) (by omega)
   rw [h]
   simp
theorem Acc {l:List BO} (h:FX l) {i j:Nat} (g:i ≤ j) (f:j < l.length):Kh (l[i]'(by omega)) l[j]:=by
 by_cases e:i = j
 ·subst e; exact ZW _
 ·exact (List.pairwise_iff_getElem.1 h) i j (by omega) f (by omega)
theorem Adp {A Y B:List BO} {k:Nat} (h1:A.length ≤ k) (e:k < A.length + Y.length):AL (A ++ Y ++ B) (k:Int) = some (Y[k - A.length]'(by omega)):=by
 rw [AY,List.append_assoc,List.getElem?_append_right h1,List.getElem?_append_left (by omega),Cp]
def CL (Y:List BO) (k:Nat):BO:=(Y[k]?).getD (0,0,0,0)
theorem FR {Y:List BO} {k:Nat} (h:k < Y.length):CL Y k = Y[k]:=by unfold CL; rw [Cp h]; rfl
theorem Tg {A Y B:List BO} {k:Nat} (h1:A.length ≤ k) (e:k < A.length + Y.length):AL (A ++ Y ++ B) (k:Int) = some (CL Y (k - A.length)):=by rw [Adp h1 e,FR]
theorem IX {Y:List BO} {k:Nat} (h:k < Y.length):CL Y k ∈ Y:=by rw [FR h]; exact List.getElem_mem h
theorem Mh {Y:List BO} (f:FX Y) {i j:Nat} (g:i ≤ j) (e:j < Y.length):Kh (CL Y i) (CL Y j):=by rw [FR (by omega),FR e]; exact Acc f g e
theorem Mb {Y:List BO} {y:BO} (h:y ∈ Y):∃ k,k < Y.length ∧ y = CL Y k:=by
 obtain ⟨k,e,rfl⟩:=List.getElem_of_mem h
 exact ⟨k,e,(FR e).symm⟩
theorem PY {P R:List BO} {k:Nat} (h:k < P.length):CL (P ++ R) k = CL P k:=by unfold CL; rw [List.getElem?_append_left h]
theorem OC {P R:List BO} {k:Nat}:CL (P ++ R) (P.length + k) = CL R k:=by unfold CL; rw [List.getElem?_append_right (by omega)]; congr 2; omega
theorem TT {S:List BO} {x:BO} (h:∀ s ∈ S,Kh s x):S = [] ∨ ∃ R y,S = R ++ [y] ∧ Kh y x:=by
 by_cases e:S = []
 ·exact .inl e
 ·exact .inr ⟨S.dropLast,S.getLast e,(List.dropLast_concat_getLast e).symm,h _ (List.getLast_mem e)⟩
theorem Aba {A Y B:List BO} {x:BO} (hl:A.length + Y.length < 40000) (hx:Lx x) (ho:∀ y ∈ Y,Lx y) (g:FX Y) :
  ∃ Z,Z.Perm (x :: Y) ∧ FX Z ∧ AJ (A ++ x :: Y ++ B) (A.length:Int) FU ((A.length + 1:Nat):Int) ((A.length + 1 + Y.length:Nat):Int) = some (A ++ Z ++ B):=by
 obtain ⟨s,h1,f,h3,h4,h5⟩:=Us (AJ (A ++ x :: Y ++ B) (A.length:Int)) (fun h=>decide (FQ (CL Y (h - (A.length + 1))) x)) (fun i=>AJ (A ++ x :: Y ++ B) (A.length:Int) 1 (i:Int) (i:Int)) (A.length + 1) (A.length + 1 + Y.length)
  (fun m i j az hj hi=>by
   have hh:(i + j) / 2 < A.length + 1 + Y.length:=by omega
   have ay:A.length + 1 ≤ (i + j) / 2:=by omega
   have hm:=IX (Y:=Y) (k:=(i + j) / 2 - (A.length + 1)) (by omega)
   obtain ⟨u,hu,ag,_⟩:=QW (ho _ hm) hx
   have eg:AL (A ++ x :: Y ++ B) (((i + j) / 2:Nat):Int) = some (CL Y ((i + j) / 2 - (A.length + 1))):=by
    have:=Tg (A:=A ++ [x]) (Y:=Y) (B:=B) (k:=(i + j) / 2) (by simp; omega) (by simp; omega)
    simpa using this
   have ex:AL (A ++ x :: Y ++ B) (A.length:Int) = some x:=by
    have:=Jm (A:=A) (B:=Y ++ B) (x:=x) (k:=A.length) rfl
    simpa using this
   rw [AJ,if_pos (by simp; omega),R1 (by omega),eg,Aa,ex,Aa,hu,Aa,ag,AD (by omega)])
  (fun m i=>by
   rw [AJ,if_neg (by simp),AJ,if_neg (by simp)])
  (fun c c' hc ap av hq=>by
   have:=Mh g (i:=c - (A.length + 1)) (j:=c' - (A.length + 1)) (by omega) (by omega)
   simp only [CC] at hq ⊢
   unfold Kh FQ at *
   omega) Y.length FU (A.length + 1) (A.length + 1 + Y.length) (by omega) (D4 (by omega)) (by omega) (by omega) (by omega) (fun c h1 f=>by omega) (fun c h1 f=>by omega)
 obtain ⟨P,R,rfl,hP⟩:=M9 (l:=Y) (k:=s - (A.length + 1)) (by omega)
 have ab:∀ y ∈ P,FQ y x:=fun y e=>by
  obtain ⟨k,v,rfl⟩:=Mb e
  have:=h3 (A.length + 1 + k) (by omega) (by omega)
  simp only [CC,show A.length + 1 + k - (A.length + 1) = k by omega,PY v] at this
  exact this
 have aj:∀ y ∈ R,Kh x y:=fun y e=>by
  obtain ⟨k,v,rfl⟩:=Mb e
  have:=h4 (A.length + 1 + (P.length + k)) (by omega) (by simp; omega)
  simp only [decide_eq_false_iff_not,show A.length + 1 + (P.length + k) - (A.length + 1) = P.length + k by omega,OC] at this
  exact this
 refine ⟨P ++ x :: R,List.perm_middle,Pk g aj (TT fun y e=>LQ (ab y e)),?_⟩
 rw [h5,AJ,if_neg (by simp)]
 have:=YF x (R ++ B) s (by simp at f hl; omega) P A FU (D4 (by simp at hl; omega)) (by omega)
 rw [show A ++ x :: (P ++ R) ++ B = A ++ x :: P ++ (R ++ B) by simp,this]
 simp
theorem ZA {A X B:List BO} {y:BO} (g:A.length + X.length < 40000) (hy:Lx y) (ho:∀ x ∈ X,Lx x) (v:FX X) :
  ∃ Z,Z.Perm (X ++ [y]) ∧ FX Z ∧ AH (A ++ X ++ y :: B) ((A.length + X.length:Nat):Int) FU (A.length:Int) ((A.length + X.length:Nat):Int) = some (A ++ Z ++ B):=by
 obtain ⟨s,h1,f,h3,h4,h5⟩:=Us (AH (A ++ X ++ y :: B) ((A.length + X.length:Nat):Int)) (fun h=>!decide (FQ y (CL X (h - A.length)))) (fun i=>AH (A ++ X ++ y :: B) ((A.length + X.length:Nat):Int) 1 (i:Int) (i:Int)) A.length (A.length + X.length)
  (fun m i j ax hj hi=>by
   have hm:=IX (Y:=X) (k:=(i + j) / 2 - A.length) (by omega)
   obtain ⟨u,hu,ae,_⟩:=QW hy (ho _ hm)
   have eg:=Tg (A:=A) (Y:=X) (B:=y :: B) (k:=(i + j) / 2) (by omega) (by omega)
   have ey:=Jm (A:=A ++ X) (B:=B) (x:=y) (k:=A.length + X.length) (by simp)
   rw [AH,if_pos (by simp; omega),R1 (by omega),ey,Aa,eg,Aa,hu,Aa,ae,AD (by omega)])
  (fun m i=>by
   rw [AH,if_neg (by simp),AH,if_neg (by simp)])
  (fun c c' hc ap au hq=>by
   have:=Mh v (i:=c - A.length) (j:=c' - A.length) (by omega) (by omega)
   simp only [Bool.not_eq_true',decide_eq_false_iff_not] at hq ⊢
   unfold Kh FQ at *
   omega) X.length FU A.length (A.length + X.length) (by omega) (D4 (by omega)) (by omega) (by omega) (by omega) (fun c h1 f=>by omega) (fun c h1 f=>by omega)
 obtain ⟨P,R,rfl,hP⟩:=M9 (l:=X) (k:=s - A.length) (by omega)
 have ab:∀ x ∈ P,Kh x y:=fun x e=>by
  obtain ⟨k,hk,rfl⟩:=Mb e
  have:=h3 (A.length + k) (by omega) (by omega)
  simp only [Bool.not_eq_true',decide_eq_false_iff_not,show A.length + k - A.length = k by omega,PY hk] at this
  exact this
 have ah:∀ x ∈ R,FQ y x:=fun x e=>by
  obtain ⟨k,hk,rfl⟩:=Mb e
  have:=h4 (A.length + (P.length + k)) (by omega) (by simp; omega)
  simp only [Bool.not_eq_false',CC,show A.length + (P.length + k) - A.length = P.length + k by omega,OC] at this
  exact this
 refine ⟨P ++ y :: R,?_,Pk v (fun x e=>LQ (ah x e)) (TT ab),?_⟩
 ·have:(y :: R).Perm (R ++ [y]):=(List.perm_append_singleton y R).symm
  have:=this.append_left P
  simpa using this
 ·rw [h5,AH,if_neg (by simp)]
  have:=Acd y B s (by simp at f g; omega) (A ++ P) (by simp; omega) R.length FU R B rfl (D4 (by simp at g; omega)) (by simp at g; omega)
  simp only [CM] at this ⊢
  rw [show A ++ (P ++ R) ++ y :: B = A ++ P ++ R ++ y :: B by simp,show A.length + (P.length + R.length) = A.length + P.length + R.length by omega,this]
  simp
theorem Abd {L R:List BO} (f:FX L) (e:FX R) (h:∀ x ∈ L,∀ y ∈ R,Kh x y):FX (L ++ R):=List.pairwise_append.2 ⟨f,e,h⟩
theorem M0 {L R:List BO} (h:FX (L ++ R)):FX L:=(List.pairwise_append.1 h).1
theorem LK {L R:List BO} (h:FX (L ++ R)):FX R:=(List.pairwise_append.1 h).2.1
theorem UN {L R:List BO} (h:FX (L ++ R)):∀ x ∈ L,∀ y ∈ R,Kh x y:=(List.pairwise_append.1 h).2.2
theorem Ab6 {R:Type} {p q:Bool} {a b:Ae R}:(if p = true then (if q = true then a else b) else (if false = true then a else b)) = if (p && q) = true then a else b:=by cases p <;> cases q <;> rfl
theorem Z9:∀ (d m:Nat) (A X Y B:List BO),X.length + Y.length ≤ d → d < m → X ≠ [] → Y ≠ [] → FX X → FX Y → (∀ x ∈ X ++ Y,Lx x) → A.length + X.length + Y.length < 10000 →
  ∃ Z,Z.Perm (X ++ Y) ∧ FX Z ∧ AO m (A ++ X ++ Y ++ B) (A.length:Int) ((A.length + X.length:Nat):Int) ((A.length + X.length + Y.length:Nat):Int) = some (A ++ Z ++ B):=by
 intro d
 induction d with
 | zero =>
  intro m A X Y B hd hm hX hY _ _ _ _
  exact absurd (List.length_eq_zero_iff.1 (by omega)) hX
 | succ d ih =>
  intro m A X Y B hd hm hX hY sX sY ho hl
  have bz:=List.length_pos_iff.2 hX
  have b3:=List.length_pos_iff.2 hY
  cases m with
  | zero=>omega
  | succ m =>
   show ∃ Z,Z.Perm (X ++ Y) ∧ FX Z ∧ BW (AO m) (A ++ X ++ Y ++ B) (A.length:Int) ((A.length + X.length:Nat):Int) ((A.length + X.length + Y.length:Nat):Int) = some (A ++ Z ++ B)
   unfold BW
   rw [A6 (x:=((A.length + X.length:Nat):Int) - _) (by omega) (by omega),A6 (x:=((A.length + X.length + Y.length:Nat):Int) - _) (by omega) (by omega)]
   by_cases e1:X.length = 1
   ·obtain ⟨x,rfl⟩:=List.length_eq_one_iff.1 e1
    obtain ⟨Z,z1,z2,z3⟩:=Aba (A:=A) (Y:=Y) (B:=B) (x:=x) (by omega) (ho x (by simp)) (fun y g=>ho y (by simp [g])) sY
    rw [if_pos (by simp; omega)]
    refine ⟨Z,by simpa using z1,z2,?_⟩
    rw [← z3]
    simp
   ·rw [if_neg (by simp; omega)]
    by_cases e2:Y.length = 1
    ·obtain ⟨y,rfl⟩:=List.length_eq_one_iff.1 e2
     obtain ⟨Z,z1,z2,z3⟩:=ZA (A:=A) (X:=X) (B:=B) (y:=y) (by omega) (ho y (by simp)) (fun x f=>ho x (by simp [f])) sX
     rw [if_pos (by simp; omega)]
     refine ⟨Z,z1,z2,?_⟩
     rw [← z3]
     simp
    ·rw [if_neg (by simp; omega)]
     obtain ⟨e,bq⟩:∃ e,e = (A.length + (A.length + X.length + Y.length)) / 2:=⟨_,rfl⟩
     have hh:Ag (Bs .u64 (Bh (Ag ((A.length:Int) + ((A.length + X.length + Y.length:Nat):Int)))) 1) = (e:Int):=by rw [bq]; exact R1 (by omega)
     unfold Gl
     dsimp only
     rw [hh,A6 (x:=(e:Int) + _) (by omega) (by omega),A6 (x:=(e:Int) + _ - _) (by omega) (by omega)]
     -- where the search starts
     have a3:∀ lo v:Nat,A.length ≤ lo → lo ≤ v → v ≤ A.length + X.length → A.length + X.length ≤ e + (A.length + X.length) - v → e + (A.length + X.length) - lo ≤ A.length + X.length + Y.length →
       (lo = A.length ∨ e + (A.length + X.length) - lo = A.length + X.length + Y.length) → (v = A.length + X.length ∨ e + (A.length + X.length) - v = A.length + X.length) →
       ∃ Z,Z.Perm (X ++ Y) ∧ FX Z ∧ AG (A ++ X ++ Y ++ B) (A.length:Int) ((A.length + X.length + Y.length:Nat):Int) ((A.length + X.length:Nat):Int) (AO m) FU (lo:Int) (v:Int) = some (A ++ Z ++ B):=by
      intro lo v cc a4 cf bx ca bs a6
      obtain ⟨s,h1,h2,h3,h4,h5⟩:=Us (AG (A ++ X ++ Y ++ B) (A.length:Int) ((A.length + X.length + Y.length:Nat):Int) ((A.length + X.length:Nat):Int) (AO m))
       (fun c=>!decide (FQ (CL Y (e - 1 - c)) (CL X (c - A.length)))) (fun i=>AG (A ++ X ++ Y ++ B) (A.length:Int) ((A.length + X.length + Y.length:Nat):Int) ((A.length + X.length:Nat):Int) (AO m) 1 (i:Int) (i:Int)) lo v
       (fun m' i j cd hj b7=>by
        have bw:A.length ≤ (i + j) / 2:=by omega
        have b2:(i + j) / 2 < v:=by omega
        have bk:=IX (Y:=X) (k:=(i + j) / 2 - A.length) (by omega)
        have bh:=IX (Y:=Y) (k:=e - 1 - (i + j) / 2) (by omega)
        obtain ⟨u,hu,bn,_⟩:=QW (ho _ (Bi _ bh)) (ho _ (At _ bk))
        have eX:=Tg (A:=A) (Y:=X) (B:=Y ++ B) (k:=(i + j) / 2) (by omega) (by omega)
        have eY:=Tg (A:=A ++ X) (Y:=Y) (B:=B) (k:=e + (A.length + X.length) - 1 - (i + j) / 2) (by simp; omega) (by simp; omega)
        rw [CM,show e + (A.length + X.length) - 1 - (i + j) / 2 - (A.length + X.length) = e - 1 - (i + j) / 2 by omega] at eY
        rw [show A ++ X ++ (Y ++ B) = A ++ X ++ Y ++ B by simp] at eX
        rw [AG,if_pos (by simp; omega),hh,R1 (by omega),A6 (x:=(e:Int) + _) (by omega) (by omega),A6 (x:=(e:Int) + _ - 1) (by omega) (by omega),A6 (x:=(e:Int) + _ - 1 - _) (by omega) (by omega),
         show (e:Int) + ((A.length + X.length:Nat):Int) - 1 - (((i + j) / 2:Nat):Int) = ((e + (A.length + X.length) - 1 - (i + j) / 2:Nat):Int) by omega,eY,Aa,eX,Aa,hu,Aa,bn,AD (by omega)])
       (fun m' i=>by
        rw [AG,if_neg (by simp),AG,if_neg (by simp)])
       (fun c c' hc ce cg hq=>by
        have ao:=Mh sX (i:=c - A.length) (j:=c' - A.length) (by omega) (by omega)
        have ap:=Mh sY (i:=e - 1 - c') (j:=e - 1 - c) (by omega) (by omega)
        simp only [Bool.not_eq_true',decide_eq_false_iff_not] at hq ⊢
        unfold Kh FQ at *
        omega) X.length FU lo v (by omega) (D4 (by omega)) (by omega) a4 (by omega) (fun c h1 h2=>by omega) (fun c h1 h2=>by omega)
      rw [h5]
      obtain ⟨X1,U,rfl,bu⟩:=M9 (l:=X) (k:=s - A.length) (by omega)
      obtain ⟨V,Y2,rfl,hV⟩:=M9 (l:=Y) (k:=e - s) (by omega)
      simp only [CM] at *
      -- what stands left goes ahead of what stands right
      have c1:∀ x ∈ X1,∀ y ∈ Y2,Kh x y:=fun x f y g=>by
       obtain ⟨i,bm,rfl⟩:=Mb f
       obtain ⟨j,a7,rfl⟩:=Mb g
       have a9:lo < s:=by
        rcases bs with h | h
        ·omega
        ·rcases Nat.lt_or_ge lo s with h' | h'
         ·exact h'
         ·exfalso
          have:s = lo:=by omega
          omega
       have hq:=h3 (s - 1) (by omega) (by omega)
       simp only [Bool.not_eq_true',decide_eq_false_iff_not] at hq
       rw [show e - 1 - (s - 1) = V.length + 0 by omega,OC,PY (by omega)] at hq
       have ao:=Mh (M0 sX) (i:=i) (j:=s - 1 - A.length) (by omega) (by omega)
       have ap:=Mh (LK sY) (i:=0) (j:=j) (by omega) (by omega)
       exact LP ao (LP hq ap)
      have c2:∀ x ∈ V,∀ y ∈ U,Kh x y:=fun x f y g=>by
       obtain ⟨i,bm,rfl⟩:=Mb f
       obtain ⟨j,a7,rfl⟩:=Mb g
       have a9:s < v:=by
        rcases a6 with h | h
        ·omega
        ·rcases Nat.lt_or_ge s v with h' | h'
         ·exact h'
         ·exfalso
          have:s = v:=by omega
          omega
       have hq:=h4 s (by omega) (by omega)
       simp only [Bool.not_eq_false',CC] at hq
       rw [PY (by omega),show s - A.length = X1.length + 0 by omega,OC] at hq
       have ao:=Mh (LK sX) (i:=0) (j:=j) (by omega) (by omega)
       have ap:=Mh (M0 sY) (i:=i) (j:=e - 1 - s) (by omega) (by omega)
       exact LP ap (LP (LQ hq) ao)
      have bp:∀ x ∈ X1 ++ V,∀ y ∈ U ++ Y2,Kh x y:=fun x f y g=>by
       rcases AX.1 f with f | f <;> rcases AX.1 g with g | g
       ·exact UN sX x f y g
       ·exact c1 x f y g
       ·exact c2 x f y g
       ·exact UN sY x f y g
      rw [AG,if_neg (by simp)]
      unfold Bk
      dsimp only
      rw [hh,A6 (x:=(e:Int) + _) (by omega) (by omega),A6 (x:=(e:Int) + _ - _) (by omega) (by omega),show (e:Int) + ((A.length + (X1.length + U.length):Nat):Int) - (s:Int) = ((A.length + X1.length + V.length + U.length:Nat):Int) by omega]
      simp only [Ab6]
      have b6:e = A.length + X1.length + V.length:=by omega
      have bv:∀ (K:List BO → Ae (List BO)),(if (decide ((s:Int) < ((A.length + (X1.length + U.length):Nat):Int)) && decide (((A.length + (X1.length + U.length):Nat):Int) < ((A.length + X1.length + V.length + U.length:Nat):Int))) = true then
        Option.bind (BJ (A ++ (X1 ++ U) ++ (V ++ Y2) ++ B) (s:Int) ((A.length + (X1.length + U.length):Nat):Int) ((A.length + X1.length + V.length + U.length:Nat):Int)) K else K (A ++ (X1 ++ U) ++ (V ++ Y2) ++ B)) = K (A ++ (X1 ++ V) ++ (U ++ Y2) ++ B):=by
       intro K
       by_cases hU:U = []
       ·subst hU
        rw [if_neg (by simp; omega)]
        simp
       ·by_cases ai:V = []
        ·subst ai
         rw [if_neg (by simp; omega)]
         simp
        ·have u0:=List.length_pos_iff.2 hU
         have v0:=List.length_pos_iff.2 ai
         have:=YL (A:=A ++ X1) (U:=U) (V:=V) (B:=Y2 ++ B) (x1:=s) (x2:=A.length + (X1.length + U.length)) (x3:=A.length + X1.length + V.length + U.length) hU ai (by simp; omega) (by simp; omega) (by simp; omega) (by omega)
         rw [if_pos (by simp; omega),show A ++ (X1 ++ U) ++ (V ++ Y2) ++ B = A ++ X1 ++ U ++ V ++ (Y2 ++ B) by simp,this,Aa]
         simp
      have br:∃ Z1:List BO,Z1.Perm (X1 ++ V) ∧ FX Z1 ∧ ∀ (K:List BO → Ae (List BO)),(if (decide ((A.length:Int) < (s:Int)) && decide ((s:Int) < (e:Int))) = true then
        Option.bind (AO m (A ++ (X1 ++ V) ++ (U ++ Y2) ++ B) (A.length:Int) (s:Int) (e:Int)) K else K (A ++ (X1 ++ V) ++ (U ++ Y2) ++ B)) = K (A ++ Z1 ++ (U ++ Y2) ++ B):=by
       by_cases ar:X1 = []
       ·subst ar
        exact ⟨[] ++ V,List.Perm.refl _,M0 sY,fun K=>by rw [if_neg (by simp at bu ⊢; omega)]⟩
       ·by_cases ai:V = []
        ·subst ai
         exact ⟨X1 ++ [],List.Perm.refl _,by simpa using M0 sX,fun K=>by rw [if_neg (by simp at hV ⊢; omega)]⟩
        ·have x0:=List.length_pos_iff.2 ar
         have v0:=List.length_pos_iff.2 ai
         obtain ⟨Z1,z1,z2,z3⟩:=ih m A X1 V (U ++ Y2 ++ B) (by omega) (by omega) ar ai (M0 sX) (M0 sY) (fun x f=>ho x (by
          rcases AX.1 f with h | h
          ·simp [h]
          ·simp [h])) (by omega)
         refine ⟨Z1,z1,z2,fun K=>?_⟩
         rw [show A.length + X1.length = s by omega,show s + V.length = e by omega] at z3
         rw [if_pos (by simp; omega),show A ++ (X1 ++ V) ++ (U ++ Y2) ++ B = A ++ X1 ++ V ++ (U ++ Y2 ++ B) by simp,z3,Aa]
         simp
      obtain ⟨Z1,z1,z2,z3⟩:=br
      have zl:Z1.length = X1.length + V.length:=by have:=z1.length_eq; simpa using this
      have bl:∃ Z2:List BO,Z2.Perm (U ++ Y2) ∧ FX Z2 ∧ (if (decide ((e:Int) < ((A.length + X1.length + V.length + U.length:Nat):Int)) && decide (((A.length + X1.length + V.length + U.length:Nat):Int) < ((A.length + (X1.length + U.length) + (V.length + Y2.length):Nat):Int))) = true then
        Option.bind (AO m (A ++ Z1 ++ (U ++ Y2) ++ B) (e:Int) ((A.length + X1.length + V.length + U.length:Nat):Int) ((A.length + (X1.length + U.length) + (V.length + Y2.length):Nat):Int)) (fun u=>some u) else some (A ++ Z1 ++ (U ++ Y2) ++ B)) = some (A ++ Z1 ++ Z2 ++ B):=by
       by_cases hU:U = []
       ·subst hU
        exact ⟨[] ++ Y2,List.Perm.refl _,LK sY,by rw [if_neg (by simp; omega)]⟩
       ·by_cases ay:Y2 = []
        ·subst ay
         exact ⟨U ++ [],List.Perm.refl _,by simpa using LK sX,by rw [if_neg (by simp; omega)]⟩
        ·have u0:=List.length_pos_iff.2 hU
         have y0:=List.length_pos_iff.2 ay
         obtain ⟨Z2,w1,w2,w3⟩:=ih m (A ++ Z1) U Y2 B (by omega) (by omega) hU ay (LK sX) (LK sY) (fun x f=>ho x (by
          rcases AX.1 f with h | h
          ·simp [h]
          ·simp [h])) (by simp; omega)
         refine ⟨Z2,w1,w2,?_⟩
         simp only [CM] at w3
         rw [show A.length + Z1.length = e by omega,show e + U.length = A.length + X1.length + V.length + U.length by omega,show A.length + X1.length + V.length + U.length + Y2.length = A.length + (X1.length + U.length) + (V.length + Y2.length) by omega] at w3
         rw [if_pos (by simp; omega),show A ++ Z1 ++ (U ++ Y2) ++ B = A ++ Z1 ++ U ++ Y2 ++ B by simp,w3,Aa]
      obtain ⟨Z2,w1,w2,w3⟩:=bl
      refine ⟨Z1 ++ Z2,?_,Abd z2 w2 (fun x f y g=>bp x (z1.mem_iff.1 f) y (w1.mem_iff.1 g)),?_⟩
      ·have h1:=z1.append w1
       have h2:(X1 ++ V ++ (U ++ Y2)).Perm (X1 ++ U ++ (V ++ Y2)):=by
        have h3:=((List.perm_append_comm (l₁:=V) (l₂:=U)).append_left X1).append_right Y2
        simpa using h3
       exact h1.trans h2
      ·rw [bv,z3,w3]
       simp
     by_cases b9:e < A.length + X.length
     ·rw [if_pos (by simp; omega),show (e:Int) + ((A.length + X.length:Nat):Int) - ((A.length + X.length + Y.length:Nat):Int) = ((e + (A.length + X.length) - (A.length + X.length + Y.length):Nat):Int) by omega]
      exact a3 _ _ (by omega) (by omega) (by omega) (by omega) (by omega) (by omega) (by omega)
     ·rw [if_neg (by simp; omega)]
      exact a3 _ _ (by omega) (by omega) (by omega) (by omega) (by omega) (by omega) (by omega)
theorem Xd {X Y:List BO} (u:X ≠ []) (f:Y ≠ []) (m:FX X) (s:FX Y) (e:∀ x ∈ X ++ Y,Lx x) (g:X.length + Y.length < 10000) :
  ∃ Z,Z.Perm (X ++ Y) ∧ FX Z ∧ Cb (X ++ Y) 0 (X.length:Int) ((X.length + Y.length:Nat):Int) = some Z:=by
 obtain ⟨Z,l,v,h⟩:=Z9 (X.length + Y.length) FU [] X Y [] (Nat.le_refl _) (D4 (by omega)) u f m s e (by simpa using g)
 exact ⟨Z,l,v,by simpa [Cb] using h⟩
theorem Y6 {l:List BO} (hl:l.length ≤ 40) (v:∀ x ∈ l,Lx x):∃ Z,Z.Perm l ∧ FX Z ∧ B6 l = some Z:=by
 have f1 (g:Nat):g + 1 = g.succ:=rfl
 unfold B6 C6
 by_cases a4:l.length < 20
 ·obtain ⟨Z,z1,z2,m⟩:=Md (A:=[]) (X:=l) (B:=[]) (a:=0) (b:=l.length) rfl (by simp) (by omega) v
  simp only [List.nil_append,List.append_nil] at m
  refine ⟨Z,z1,z2,?_⟩
  have e2:AE (l.length:Int) FU Z 20 = some Z:=by
   have:∀ g,AE (l.length:Int) (g + 1) Z 20 = some Z:=fun g=>by
    rw [AE,if_neg (by simp; omega)]
   exact this (FU - 1)
  have e1:AM (l.length:Int) FU l 0 20 = some Z:=by
   have:∀ g,AM (l.length:Int) (g + 1) l 0 20 = some Z:=fun g=>by
    rw [AM,if_neg (by simp; omega),show (0:Int) = ((0:Nat):Int) from rfl,m,Aa,e2]
   exact this (FU - 1)
  rw [e1,Aa]
 ·obtain ⟨X,Y,rfl,hX⟩:=M9 (l:=l) (k:=20) (by omega)
  simp only [CM] at hl a4
  obtain ⟨Z1,z1,z2,m⟩:=Md (A:=[]) (X:=X) (B:=Y) (a:=0) (b:=20) rfl (by simp [hX]) (by omega) (fun s h=>v s (by simp [h]))
  have zl:Z1.length = 20:=by rw [z1.length_eq,hX]
  obtain ⟨Z2,w1,w2,w3⟩:=Md (A:=Z1) (X:=Y) (B:=[]) (a:=20) (b:=20 + Y.length) (by omega) (by omega) (by omega) (fun s h=>v s (by simp [h]))
  have wl:Z2.length = Y.length:=w1.length_eq
  simp only [List.nil_append,List.append_nil] at m w3
  have aj:(Z1 ++ Z2).Perm (X ++ Y):=z1.append w1
  have a0:∀ x ∈ Z1 ++ Z2,Lx x:=fun x hx=>v x (aj.mem_iff.1 hx)
  have hn:(((X ++ Y).length:Nat):Int) = ((20 + Y.length:Nat):Int):=by simp [hX]
  have an:Ag ((0:Int) + 20) = ((20:Nat):Int):=by decide
  have ao:Ag (2 * 20) = ((40:Nat):Int):=by decide
  have ap:Ag ((20:Int) * 2) = ((40:Nat):Int):=by decide
  -- the merge
  have a9:∃ Z,Z.Perm (X ++ Y) ∧ FX Z ∧ AE ((20 + Y.length:Nat):Int) FU (Z1 ++ Z2) 20 = some Z:=by
   by_cases hY:Y = []
   ·subst hY
    have:Z2 = []:=List.Perm.eq_nil w1
    subst this
    refine ⟨Z1 ++ [],aj,by simpa using z2,?_⟩
    have:∀ g,AE ((20 + 0:Nat):Int) (g + 1) (Z1 ++ []) 20 = some (Z1 ++ []):=fun g=>by
     rw [AE,if_neg (by simp)]
    exact this (FU - 1)
   ·have y0:=List.length_pos_iff.2 hY
    obtain ⟨Z,v1,v2,f⟩:=Xd (X:=Z1) (Y:=Z2) (fun h=>by subst h; simp at zl) (fun h=>by subst h; simp at wl; exact hY (List.length_eq_zero_iff.1 wl.symm)) z2 w2 a0 (by omega)
    rw [zl,wl] at f
    refine ⟨Z,v1.trans aj,v2,?_⟩
    have l3:∀ (u:List BO → Int → Ae (List BO)),Bo ((20 + Y.length:Nat):Int) 20 u FU (Z1 ++ Z2) 0 ((40:Nat):Int) = u Z ((40:Nat):Int):=by
     intro u
     have:∀ g,Bo ((20 + Y.length:Nat):Int) 20 u (g + 2) (Z1 ++ Z2) 0 ((40:Nat):Int) = u Z ((40:Nat):Int):=fun g=>by
      rw [Bo]
      unfold Bk
      dsimp only
      by_cases aq:Y.length = 20
      ·have e:((40:Nat):Int) = ((20 + Y.length:Nat):Int):=by omega
       have a6:Ag (((20 + Y.length:Nat):Int) + 20) = ((60:Nat):Int):=by rw [aq]; decide
       rw [if_pos (by simp; omega),an,e,f,Aa,Bo]
       unfold Bk
       dsimp only
       rw [ao,if_neg (by rw [A6 (by omega) (by omega)]; simp; omega),a6,if_neg (by simp; omega),ap,e]
      ·rw [if_neg (by simp; omega),an,if_pos (by simp; omega),f,Aa,ap]
     exact this (FU - 2)
    have:∀ g,AE ((20 + Y.length:Nat):Int) (g + 2) (Z1 ++ Z2) 20 = some Z:=fun g=>by
     rw [AE,if_pos (by simp; omega),ao,l3,AE,if_neg (by simp; omega)]
    exact this (FU - 2)
  obtain ⟨Z,v1,v2,f⟩:=a9
  refine ⟨Z,v1,v2,?_⟩
  have l1:AM ((20 + Y.length:Nat):Int) FU (X ++ Y) 0 20 = some Z:=by
   have:∀ g,AM ((20 + Y.length:Nat):Int) (g + 3) (X ++ Y) 0 20 = some Z:=fun g=>by
    have a1:Ag ((20:Int) + 20) = ((40:Nat):Int):=by decide
    have a2:Ag (((40:Nat):Int) + 20) = ((60:Nat):Int):=by decide
    have ba:Bj (X ++ Y) 0 20 = some (Z1 ++ Y):=m
    rw [AM,if_pos (by simp; omega),ba,Aa,a1,AM]
    by_cases aq:Y.length = 20
    ·have e:((40:Nat):Int) = ((20 + Y.length:Nat):Int):=by omega
     have ac:Bj (Z1 ++ Y) 20 ((40:Nat):Int) = some (Z1 ++ Z2):=by rw [e]; exact w3
     obtain ⟨Z3,y1,_,y3⟩:=Md (A:=Z1 ++ Z2) (X:=[]) (B:=[]) (a:=40) (b:=20 + Y.length) (by simp; omega) (by simp; omega) (by omega) (fun s h=>by cases h)
     have:Z3 = []:=List.Perm.eq_nil y1
     subst this
     simp only [List.append_nil] at y3
     rw [if_pos (by simp; omega),ac,Aa,a2,AM,if_neg (by simp; omega),y3,Aa,f]
    ·have ac:Bj (Z1 ++ Y) 20 ((20 + Y.length:Nat):Int) = some (Z1 ++ Z2):=w3
     rw [if_neg (by simp; omega),ac,Aa,f]
   exact this (FU - 3)
  rw [hn,l1,Aa]
def IL (x:BO):Bool:=BM x.1 1 12 && (BM x.2.1 1 9 && (BM x.2.2.1 0 999 && BM x.2.2.2 (x.2.2.1 + 1) 1000))
theorem MW {x:BO}:IL x = true ↔ (1 ≤ x.1 ∧ x.1 ≤ 12) ∧ (1 ≤ x.2.1 ∧ x.2.1 ≤ 9) ∧ (0 ≤ x.2.2.1 ∧ x.2.2.1 ≤ 999) ∧ x.2.2.1 + 1 ≤ x.2.2.2 ∧ x.2.2.2 ≤ 1000:=by
 unfold IL
 simp only [Cg,D9]
theorem W2 (x:BO):JS x = some (IL x):=by
 unfold JS Bk
 dsimp only
 rw [CT,Aa,CT,Aa]
 cases h1:BM x.1 1 12 with
 | false=>simp [IL,h1]
 | true =>
  cases f:BM x.2.1 1 9 with
  | false=>simp [IL,h1,f]
  | true =>
   rw [if_pos rfl,if_pos rfl]
   have e:IL x = (decide (0 ≤ x.2.2.1) && (decide (x.2.2.1 < x.2.2.2) && decide (x.2.2.2 ≤ 1000))):=by
    unfold IL BM at *
    rw [h1,f,Bool.eq_iff_iff]
    simp
    omega
   rw [e]
   by_cases h:0 ≤ x.2.2.1 <;> by_cases g:x.2.2.1 < x.2.2.2 <;> simp [h,g]
theorem RY (a b:BO):HT a b = some (decide (FQ a b)):=by
 unfold HT Bk FQ
 dsimp only
 by_cases h1:a.2.2.1 < b.2.2.1
 ·simp [h1]
 ·by_cases e:a.2.2.1 = b.2.2.1 <;> simp [h1,e]
def Oh (x y:BO):Bool:=!((decide (y.2.1 = x.2.1) || decide (y.1 = x.1)) && decide (x.2.2.1 < y.2.2.2))
def Ki (l:List BO) (k:Nat):Bool:=decide (k = 0) || decide (FQ (CL l (k - 1)) (CL l k))
def WF (l:List BO) (k:Nat):Bool:=IL (CL l k) && (Ki l k && (l.take k).all (Oh (CL l k)))
def Fw (l:List BO):Bool:=(List.range l.length).all (WF l) && decide (l.length ≤ 40)
theorem RQ {l:List BO} (hl:l.length < 4611686018427387904) (ho:∀ x ∈ l,Lx x):Jh l = some (Fw l):=by
 unfold Jh Fw
 rw [O5 (Du l) l.length (WF l) (some (decide (l.length ≤ 40))) (some false) hl (fun m k s=>?_) (fun m=>?_)]
 ·cases (List.range l.length).all (WF l) <;> simp
 ·have h:l[k]? = some (CL l k):=by rw [Cp s,FR s]
  have aa:=ho _ (IX s)
  rw [Du,if_pos (by simp; omega),AY,h,Aa]
  unfold Bk Jv Jg WF
  dsimp only
  rw [CU,Aa,Aa,CU,Aa,Aa,CU,Aa,A6 (x:=(CL l k).2.2.1 + 1) (by have:=aa.2; omega) (by have:=aa.2; omega),CU,Aa]
  by_cases u:IL (CL l k) = true
  ·have e:=u
   unfold IL at e
   simp only [Cg] at e
   rw [e.1,if_neg (by simp),e.2.1,if_neg (by simp),e.2.2.1,if_neg (by simp),e.2.2.2,if_neg (by simp),u,Bool.true_and]
   have aj:(Option.bind (sl l 0 (k:Int)) fun ak=>EH ak (CL l k) (Du l m) (k:Int) FU 0) = if (l.take k).all (Oh (CL l k)) = true then Du l m ((k + 1:Nat):Int) else some false:=by
    rw [LM l (by omega),Aa]
    rw [Ny (EH (l.take k) (CL l k) (Du l m) (k:Int)) (l.take k) (Oh (CL l k)) (Du l m ((k + 1:Nat):Int)) (some false) (by simp; omega) (fun m' j x hj h=>?_) (fun m'=>?_)]
    ·rw [EH,if_pos (by simp at hj ⊢; omega),AY,h,Aa,AD (by simp at hj; omega)]
     unfold Bk Oh
     dsimp only
     by_cases f:x.2.1 = (CL l k).2.1
     ·rw [if_pos (by simpa using f)]
      by_cases v:(CL l k).2.2.1 < x.2.2.2 <;> simp [f,v]
     ·rw [if_neg (by simpa using f)]
      by_cases g:x.1 = (CL l k).1
      ·rw [if_pos (by simpa using g)]
       by_cases v:(CL l k).2.2.1 < x.2.2.2 <;> simp [f,g,v]
      ·rw [if_neg (by simpa using g)]
       simp [f,g]
    ·rw [EH,if_neg (by simp),AD (by omega)]
   rw [aj]
   by_cases h0:k = 0
   ·subst h0
    rw [if_neg (by simp)]
    simp [Ki]
   ·have ai:l[k - 1]? = some (CL l (k - 1)):=by rw [Cp (by omega),FR (by omega)]
    rw [if_pos (by simp; omega),A6 (by omega) (by omega),show (k:Int) - 1 = ((k - 1:Nat):Int) by omega,AY,ai,Aa,RY,Aa]
    unfold Ki
    by_cases hb:FQ (CL l (k - 1)) (CL l k)
    ·rw [decide_eq_true hb,Bool.or_true,Bool.true_and,if_neg (by simp)]
    ·rw [decide_eq_false hb,decide_eq_false h0]
     simp
  ·have e:IL (CL l k) = false:=by simpa using u
   rw [e,Bool.false_and,if_neg (c:=false = true) (by simp)]
   unfold IL at e
   cases b1:BM (CL l k).1 1 12 with
   | false=>simp
   | true =>
    cases b2:BM (CL l k).2.1 1 9 with
    | false=>simp
    | true =>
     cases b3:BM (CL l k).2.2.1 0 999 with
     | false=>simp
     | true =>
      rw [b1,b2,b3] at e
      simp only [Bool.true_and] at e
      rw [e]
      simp
 ·rw [Du,if_neg (by simp),show decide ((l.length:Int) ≤ 40) = decide (l.length ≤ 40) by rw [decide_eq_decide]; omega]
theorem Hm {l:List BO}:Fw l = true ↔ l.length ≤ 40 ∧ (∀ x ∈ l,IL x = true) ∧ l.Pairwise FQ ∧ ∀ k,k < l.length → (l.take k).all (Oh (CL l k)) = true:=by
 unfold Fw WF
 simp only [Cg,List.all_eq_true,List.mem_range,CC]
 constructor
 ·rintro ⟨h1,g⟩
  refine ⟨g,fun x hx=>?_,?_,fun k e=>?_⟩
  ·obtain ⟨k,e,rfl⟩:=Mb hx
   exact (h1 k e).1
  ·have s:∀ k,k + 1 < l.length → FQ (CL l k) (CL l (k + 1)):=fun k e=>by
    have:=(h1 (k + 1) e).2.1
    unfold Ki at this
    simpa using this
   have ab:∀ d i,i + d + 1 < l.length → FQ (CL l i) (CL l (i + d + 1)):=by
    intro d
    induction d with
    | zero=>intro i f; exact s i f
    | succ d ih =>
     intro i f
     have u:=ih i (by omega)
     have m:=s (i + d + 1) (by omega)
     rw [show i + (d + 1) + 1 = i + d + 1 + 1 by omega]
     unfold FQ at *
     omega
   rw [List.pairwise_iff_getElem]
   intro i j f v ae
   have:=ab (j - i - 1) i (by omega)
   rw [show i + (j - i - 1) + 1 = j by omega,FR f,FR v] at this
   exact this
  ·exact fun y h=>(h1 k e).2.2 y h
 ·rintro ⟨h1,g,u,m⟩
  refine ⟨fun k e=>⟨g _ (IX e),?_,fun y h=>m k e y h⟩,h1⟩
  unfold Ki
  by_cases h0:k = 0
  ·simp [h0]
  ·have:=(List.pairwise_iff_getElem.1 u) (k - 1) k (by omega) e (by omega)
   rw [← FR (by omega:k - 1 < l.length),← FR e] at this
   simp [this]
def Og (x y:BO):Bool:=!((decide (x.2.1 = y.2.1) || decide (x.1 = y.1)) && decide (Fy x.2.2.1 y.2.2.1 < Fn x.2.2.2 y.2.2.2))
theorem T0 {x y:BO} (f:IL x = true) (g:IL y = true) (h:FQ y x):Og x y = Oh x y:=by
 have m:=MW.1 f
 have l:=MW.1 g
 have e:decide (Fy x.2.2.1 y.2.2.1 < Fn x.2.2.2 y.2.2.2) = decide (x.2.2.1 < y.2.2.2):=by
  rw [decide_eq_decide]
  unfold Fy Fn
  unfold FQ at h
  split <;> split <;> omega
 unfold Og Oh
 rw [e,show decide (x.2.1 = y.2.1) = decide (y.2.1 = x.2.1) by rw [decide_eq_decide]; exact eq_comm,show decide (x.1 = y.1) = decide (y.1 = x.1) by rw [decide_eq_decide]; exact eq_comm]
theorem Aas {l:List BO} (h:∀ k,k < l.length → Ki l k = true):l.Pairwise FQ:=by
 have f:∀ k,k + 1 < l.length → FQ (CL l k) (CL l (k + 1)):=fun k u=>by
  have:=h (k + 1) u
  unfold Ki at this
  simpa using this
 have m:∀ d i,i + d + 1 < l.length → FQ (CL l i) (CL l (i + d + 1)):=by
  intro d
  induction d with
  | zero=>intro i e; exact f i e
  | succ d s =>
   intro i e
   have h3:=s i (by omega)
   have v:=f (i + d + 1) (by omega)
   rw [show i + (d + 1) + 1 = i + d + 1 + 1 by omega]
   unfold FQ at *
   omega
 rw [List.pairwise_iff_getElem]
 intro i j e g aa
 have:=m (j - i - 1) i (by omega)
 rw [show i + (j - i - 1) + 1 = j by omega,FR e,FR g] at this
 exact this
theorem X5 {l:List BO} (h:l.Pairwise FQ) {k:Nat} (e:k < l.length) {y:BO} (f:y ∈ l.take k):FQ y (CL l k):=by
 obtain ⟨i,g,rfl⟩:=List.mem_take_iff_getElem.1 f
 rw [FR e]
 exact (List.pairwise_iff_getElem.1 h) i k (by omega) e (by omega)
theorem O6 {l:List BO} (hl:l.length < 4611686018427387904) (ho:∀ x ∈ l,Lx x):FV l = some (Fw l):=by
 unfold FV
 by_cases ah:l.length ≤ 40
 ·rw [if_neg (by simp; omega)]
  rw [Ny (Eg l) l IL (CG l FU 0) (some false) hl (fun m k x hx e=>?_) (fun m=>?_)]
  ·cases ha:l.all IL with
   | false =>
    rw [if_neg (by simp)]
    have:Fw l = false:=by
     rw [← Bool.not_eq_true]
     intro h
     rw [List.all_eq_true.2 (Hm.1 h).2.1] at ha
     cases ha
    rw [this]
   | true =>
    have g:=List.all_eq_true.1 ha
    rw [if_pos rfl]
    rw [O5 (CG l) l.length (fun k=>Ki l k && (l.take k).all (Og (CL l k))) (some true) (some false) hl (fun m k e=>?_) (fun m=>?_)]
    ·have:(List.range l.length).all (fun k=>Ki l k && (l.take k).all (Og (CL l k))) = Fw l:=by
      rw [Bool.eq_iff_iff,Hm]
      simp only [List.all_eq_true,List.mem_range,Cg]
      constructor
      ·intro h
       have v:=Aas fun k e=>(h k e).1
       refine ⟨ah,g,v,fun k e y f=>?_⟩
       rw [← T0 (g _ (IX e)) (g y (List.mem_of_mem_take f)) (X5 v e f)]
       exact (h k e).2 y f
      ·rintro ⟨_,_,v,h⟩ k e
       refine ⟨?_,fun y f=>?_⟩
       ·unfold Ki
        by_cases h0:k = 0
        ·simp [h0]
        ·have:=(List.pairwise_iff_getElem.1 v) (k - 1) k (by omega) e (by omega)
         rw [← FR (by omega:k - 1 < l.length),← FR e] at this
         simp [this]
       ·rw [T0 (g _ (IX e)) (g y (List.mem_of_mem_take f)) (X5 v e f)]
        exact h k e y f
     rw [this]
     cases Fw l <;> rfl
    ·have hx:l[k]? = some (CL l k):=by rw [Cp e,FR e]
     rw [CG,if_pos (by simp; omega),AY,hx,Aa]
     unfold Bk
     dsimp only
     have ap:(Option.bind (sl l 0 (k:Int)) fun aq=>D3 aq (CL l k) (CG l m) (k:Int) FU 0) = if (l.take k).all (Og (CL l k)) = true then CG l m ((k + 1:Nat):Int) else some false:=by
      rw [LM l (by omega),Aa]
      rw [Ny (D3 (l.take k) (CL l k) (CG l m) (k:Int)) (l.take k) (Og (CL l k)) (CG l m ((k + 1:Nat):Int)) (some false) (by simp; omega) (fun m' j x hj hx=>?_) (fun m'=>?_)]
      ·rw [D3,if_pos (by simp at hj ⊢; omega),AY,hx,Aa,AD (by simp at hj; omega)]
       unfold Bk Og
       dsimp only
       by_cases s:(CL l k).2.1 = x.2.1
       ·rw [if_pos (by simpa using s)]
        by_cases a3:Fy (CL l k).2.2.1 x.2.2.1 < Fn (CL l k).2.2.2 x.2.2.2 <;> simp [s,a3]
       ·rw [if_neg (by simpa using s)]
        by_cases a2:(CL l k).1 = x.1
        ·rw [if_pos (by simpa using a2)]
         by_cases a3:Fy (CL l k).2.2.1 x.2.2.1 < Fn (CL l k).2.2.2 x.2.2.2 <;> simp [s,a2,a3]
        ·rw [if_neg (by simpa using a2)]
         simp [s,a2]
      ·rw [D3,if_neg (by simp),AD (by omega)]
     rw [ap]
     by_cases h0:k = 0
     ·subst h0
      rw [if_neg (by simp)]
      simp [Ki]
     ·have ao:l[k - 1]? = some (CL l (k - 1)):=by rw [Cp (by omega),FR (by omega)]
      obtain ⟨u,hu,_,an⟩:=QW (ho _ (IX (Y:=l) (k:=k - 1) (by omega))) (ho _ (IX e))
      rw [if_pos (by simp; omega),A6 (by omega) (by omega),show (k:Int) - 1 = ((k - 1:Nat):Int) by omega,AY,ao,Aa,hu,Aa,an]
      unfold Ki
      by_cases hb:FQ (CL l (k - 1)) (CL l k)
      ·rw [decide_eq_true hb,Bool.or_true,Bool.true_and,if_neg (by simp)]
      ·rw [decide_eq_false hb,decide_eq_false h0]
       simp
    ·rw [CG,if_neg (by simp)]
  ·rw [Eg,if_pos (by simp; have:=(List.getElem?_eq_some_iff.1 e).1; omega),AY,e,Aa,W2,Aa,AD (by have:=(List.getElem?_eq_some_iff.1 e).1; omega)]
   cases IL x <;> simp
  ·rw [Eg,if_neg (by simp)]
 ·rw [if_pos (by simp; omega)]
  have:Fw l = false:=by
   rw [← Bool.not_eq_true]
   intro h
   exact ah (Hm.1 h).1
  rw [this]
theorem Adu {l:List BO} {x:BO} {K:List BO → Ae (List BO × Bool)} (hl:l.length < 100000) (hs:FX l):∀ (k m:Nat),k ≤ l.length → k < m → (∀ s ∈ l.drop k,FQ x s) →
  ∃ Z,Z.Perm (x :: l) ∧ FX Z ∧ FG l x K m (k:Int) = K Z:=by
 intro k
 have ad:∀ (k:Nat),k ≤ l.length → (∀ s ∈ l.drop k,FQ x s) → (k = 0 ∨ ¬ FQ x (CL l (k - 1))) → (Option.bind (sl l 0 (k:Int)) fun ag=>Option.bind (sl l (k:Int) (List.length l:Int)) fun am=>Option.bind (Cm [] ag) fun an=>Option.bind (Cm an [x]) fun ap=>Option.bind (Cm ap am) fun ak=>K ak) = K (l.take k ++ x :: l.drop k) ∧ FX (l.take k ++ x :: l.drop k) ∧ (l.take k ++ x :: l.drop k).Perm (x :: l):=by
  intro k e h1 h2
  refine ⟨?_,?_,?_⟩
  ·rw [LM l e,Aa,SY l e,Aa,Bt (by simp; omega),Aa,Bt (by simp; omega),Aa,Bt (by simp; omega),Aa]
   simp
  ·refine Pk (by rw [List.take_append_drop]; exact hs) (fun s h=>LQ (h1 s h)) ?_
   rcases h2 with h | h
   ·left; rw [h,List.take_zero]
   ·refine TT fun y hy=>?_
    obtain ⟨i,hi,rfl⟩:=List.mem_take_iff_getElem.1 hy
    have h3:=Mh hs (i:=i) (j:=k - 1) (by omega) (by omega)
    rw [FR (by omega)] at h3
    exact LP h3 h
  ·have:(l.take k ++ x :: l.drop k).Perm (x :: (l.take k ++ l.drop k)):=List.perm_middle
   rwa [List.take_append_drop] at this
 induction k with
 | zero =>
  intro m e hm h1
  cases m with
  | zero=>omega
  | succ m =>
   obtain ⟨v,u,f3⟩:=ad 0 e h1 (.inl rfl)
   refine ⟨_,f3,u,?_⟩
   rw [FG]
   unfold Bk
   dsimp only
   rw [if_neg (by simp),if_neg (by simp)]
   exact v
 | succ k ih =>
  intro m e hm h1
  cases m with
  | zero=>omega
  | succ m =>
   have f:k < l.length:=by omega
   have hx:l[k]? = some (CL l k):=by rw [Cp f,FR f]
   have ek:Ag (((k + 1:Nat):Int) - 1) = (k:Int):=by rw [A6 (by omega) (by omega)]; omega
   rw [FG]
   unfold Bk
   dsimp only
   rw [if_pos (by simp <;> omega),ek,AY,hx,Aa,RY,Aa]
   by_cases g:FQ x (CL l k)
   ·rw [if_pos (by simpa using g)]
    refine ih m (by omega) (by omega) (fun s h=>?_)
    rw [List.drop_eq_getElem_cons f] at h
    rcases List.mem_cons.1 h with rfl | h
    ·rw [← FR f]; exact g
    ·exact h1 s h
   ·obtain ⟨v,u,f3⟩:=ad (k + 1) e h1 (.inr (by simpa using g))
    refine ⟨_,f3,u,?_⟩
    rw [if_neg (by simpa using g)]
    exact v
theorem Zu {l:List BO} (hl:l.length < 50000) (ho:∀ x ∈ l,Lx x):∃ Z,Z.Perm l ∧ FX Z ∧ Jf l = some (if Fw Z = true then (Z,true) else ([],false)):=by
 unfold Jf
 have u:∀ (d k m:Nat) (S:List BO),l.length - k = d → k ≤ l.length → d < m → S.Perm (l.take k) → FX S → ∃ Z,Z.Perm l ∧ FX Z ∧ EG l m S (k:Int) = some (if Fw Z = true then (Z,true) else ([],false)):=by
  intro d
  induction d with
  | zero =>
   intro k m S hd hk hm e f
   have:k = l.length:=by omega
   subst this
   rw [List.take_length] at e
   cases m with
   | zero=>omega
   | succ m =>
    refine ⟨S,e,f,?_⟩
    rw [EG,if_neg (by simp),RQ (by have:=e.length_eq; omega) (fun x hx=>ho x (e.mem_iff.1 hx)),Aa]
    cases Fw S <;> rfl
  | succ d ih =>
   intro k m S hd hk hm e f
   have g:k < l.length:=by omega
   have ao:S.length = k:=by rw [e.length_eq]; simp; omega
   cases m with
   | zero=>omega
   | succ m =>
    obtain ⟨Z,z1,z2,z3⟩:=Adu (l:=S) (x:=l[k]) (K:=fun aa=>EG l m aa (Ag ((k:Int) + 1))) (by omega) f S.length FU (Nat.le_refl _) (D4 (by omega)) (fun s h=>by rw [List.drop_length] at h; cases h)
    rw [EG,if_pos (by simp; omega)]
    unfold Bk
    dsimp only
    rw [Jo g,Aa]
    obtain ⟨W,w1,v,w3⟩:=ih (k + 1) m Z (by omega) (by omega) (by omega) (by
     rw [List.take_succ_eq_append_getElem g]
     exact z1.trans ((List.Perm.cons _ e).trans (List.perm_append_singleton _ _).symm)) z2
    refine ⟨W,w1,v,?_⟩
    rw [z3,AD (by omega)]
    exact w3
 exact u l.length 0 FU [] rfl (by omega) (D4 (by omega)) (by simp) List.Pairwise.nil
theorem Sg:∀ {Z W:List BO},Z.Perm W → Z.Pairwise FQ → FX W → Z = W
 | [],W,h,_,_=>(List.Perm.nil_eq h)
 | a :: Z,[],h,_,_=>by have:=h.length_eq; simp at this
 | a :: Z,b :: W,h,h1,h2=>by
  have e:a = b:=by
   have f:a ∈ b :: W:=h.mem_iff.1 (List.mem_cons_self ..)
   have g:b ∈ a :: Z:=h.mem_iff.2 (List.mem_cons_self ..)
   rcases List.mem_cons.1 f with e | f
   ·exact e
   ·rcases List.mem_cons.1 g with e | g
    ·exact e.symm
    ·have l:=(List.pairwise_cons.1 h1).1 b g
     have m:=(List.pairwise_cons.1 h2).1 a f
     exact absurd l m
  subst e
  rw [Sg (List.Perm.cons_inv h) (List.pairwise_cons.1 h1).2 (List.pairwise_cons.1 h2).2]
theorem Aal {Z W:List BO} (h:Z.Perm W) (h1:FX Z) (g:FX W):(if Fw Z = true then (Z,true) else ([],false)) = (if Fw W = true then (W,true) else (([]:List BO),false)):=by
 by_cases e:Fw Z = true
 ·rw [Sg h (Hm.1 e).2.2.1 g]
 ·by_cases f:Fw W = true
  ·exact absurd (by rw [← Sg h.symm (Hm.1 f).2.2.1 h1]; exact f) e
  ·rw [if_neg e,if_neg f]
theorem Yt {l:List BO} (m:l.length ≤ 40) (f:∀ x ∈ l,Lx x):∃ Z,Z.Perm l ∧ B6 l = some Z ∧ FV Z = some (Fw Z) ∧ Jf l = some (if Fw Z = true then (Z,true) else ([],false)):=by
 obtain ⟨Z,e,z2,s⟩:=Y6 m f
 obtain ⟨W,u,g,v⟩:=Zu (by omega) f
 refine ⟨Z,e,s,O6 (by rw [e.length_eq]; omega) (fun x h=>f x (e.mem_iff.1 h)),?_⟩
 rw [v,Aal (u.trans e.symm) g z2]
def PC:Int:=4611686018427387904
theorem Aco (c d:Nat):(c:Int) * ((d + 1:Nat):Int) = (c:Int) * (d:Int) + (c:Int):=by
 rw [Int.natCast_add,Int.mul_add]
 simp
theorem Adr {α:Type} {S:α → Prop} (f:Nat → List α → Int → Int → Ae (Int × List α)) (h:List α → Nat → Int → Int → Ae Int) (c:Nat) (l:List α)
  (hs:∀ (m j:Nat) (s:List α) (k:Int) (u:α),s.length = l.length → j < l.length → s[j]? = some u → S u → 0 ≤ k → k + c ≤ PC → ∃ (k1:Int) (u':α),k ≤ k1 ∧ k1 ≤ k + c ∧ f (m + 1) s k (j:Int) = f m (s.set j u') k1 ((j + 1:Nat):Int) ∧
   ∀ (v:Nat) (g:List α),g.length = l.length → g[j]? = some u' → h g (v + 1) k (j:Int) = h g v k1 ((j + 1:Nat):Int))
  (he:∀ m s k,s.length = l.length → f (m + 1) s k (l.length:Int) = some (k,s)) (hh:∀ g m k,g.length = l.length → h g (m + 1) k (l.length:Int) = some k)
  (hl:l.length < 4611686018427387904) (hS:∀ u ∈ l,S u) (k:Int) (h0:0 ≤ k) (hb:k + c * l.length ≤ PC) :
  ∃ k' g,f FU l k 0 = some (k',g) ∧ k ≤ k' ∧ k' ≤ k + c * l.length ∧ g.length = l.length ∧ h g FU k 0 = some k':=by
 have an:∀ (d j m:Nat) (s:List α) (k:Int),l.length - j = d → j ≤ l.length → d < m → s.length = l.length → (∀ i,j ≤ i → s[i]? = l[i]?) → 0 ≤ k → k + (c:Int) * (d:Int) ≤ PC →
   ∃ k' g,f m s k (j:Int) = some (k',g) ∧ k ≤ k' ∧ k' ≤ k + (c:Int) * (d:Int) ∧ g.length = l.length ∧ (∀ i,i < j → g[i]? = s[i]?) ∧ ∀ v,d < v → h g v k (j:Int) = some k':=by
  intro d
  induction d with
  | zero =>
   intro j m s k hd hj hm hc hr h0 hb
   have:j = l.length:=by omega
   subst this
   cases m with
   | zero=>omega
   | succ m =>
    refine ⟨k,s,he m s k hc,by omega,by simp,hc,fun i _=>rfl,fun v a5=>?_⟩
    cases v with
    | zero=>omega
    | succ v=>exact hh s v k hc
  | succ d ih =>
   intro j m s k hd hj hm hc hr h0 hb
   rw [Aco] at hb
   have a8:0 ≤ (c:Int) * (d:Int):=Int.mul_nonneg (by omega) (by omega)
   cases m with
   | zero=>omega
   | succ m =>
    have aj:j < l.length:=by omega
    have hu:s[j]? = some l[j]:=by rw [hr j (Nat.le_refl _)]; exact Cp aj
    obtain ⟨k1,u',a1,a2,a3,a4⟩:=hs m j s k l[j] hc aj hu (hS _ (List.getElem_mem aj)) h0 (by omega)
    obtain ⟨k',g,b1,b2,b3,b4,b5,b6⟩:=ih (j + 1) m (s.set j u') k1 (by omega) (by omega) (by omega) (by simpa using hc) (fun i hi=>by rw [List.getElem?_set_ne (by omega)]; exact hr i (by omega)) (by omega) (by omega)
    refine ⟨k',g,a3.trans b1,by omega,by rw [Aco]; omega,b4,fun i hi=>?_,fun v a5=>?_⟩
    ·rw [b5 i (by omega),List.getElem?_set_ne (by omega)]
    ·cases v with
     | zero=>omega
     | succ v =>
      have e:g[j]? = some u':=by rw [b5 j (by omega),List.getElem?_set_self (by omega)]
      rw [a4 v g b4 e]
      exact b6 v (by omega)
 obtain ⟨k',g,b1,b2,b3,b4,_,b6⟩:=an l.length 0 FU l k (by omega) (by omega) (D4 (by omega)) rfl (fun _ _=>rfl) h0 hb
 exact ⟨k',g,b1,b2,b3,b4,b6 FU (D4 (by omega))⟩
end Go.Proofs.YtellehgihceicaaGreatDoor
