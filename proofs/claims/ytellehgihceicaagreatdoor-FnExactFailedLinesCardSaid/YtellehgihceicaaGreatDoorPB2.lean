/-
 REPAIRS, PLAIN: both sides tell the same kind.
-/
import Derived.Test.YtellehgihceicaaGreatDoorCore20
import Derived.Test.YtellehgihceicaaGreatDoorF
import Derived.Test.YtellehgihceicaaGreatDoorLibF
import Derived.Lib.Mul64
set_option linter.unusedVariables false
set_option linter.unusedSimpArgs false
set_option maxHeartbeats 1600000
namespace Go.Proofs.YtellehgihceicaaGreatDoor
open Go
theorem A8 {x:Int} (h1:-9223372036854775808 ≤ x) (e:x ≤ 9223372036854775807):Ag x = x:=by
 unfold Ag IntKind.wrap
 simp only [IntKind.bits,IntKind.signed]
 simp only [ge_iff_le,Bool.true_and,C9]
 split <;> omega
theorem AC {k:Nat} (h:k < 4611686018427387904):Ag ((k:Int) + 1) = ((k + 1:Nat):Int):=by
 rw [A8 (by omega) (by omega)]; omega
theorem AX {α:Type} (l:List α) (k:Nat):AL l (k:Int) = l[k]?:=by unfold AL; simp
theorem S8 {α:Type} (l:List α):AL l 0 = l[0]?:=by unfold AL; simp
theorem Iy {α:Type} {l:List α} {i:Int} (e:0 ≤ i):AL l i = l[i.toNat]?:=by unfold AL; rw [if_pos e]
theorem D1 {n:Nat} (h:n < 4611686018427387904):n < FU:=h
theorem Ll {α:Type} (l:List α) {k:Nat} (h:k ≤ l.length):sl l 0 (k:Int) = some (l.take k):=by
 unfold sl
 rw [if_pos (by omega)]
 simp
theorem OA {R:Type} (f:Nat → Int → Af R) (n:Nat) (p:Nat → Bool) (rest e:Af R) (hn:n < 4611686018427387904)
  (v:∀ m k,k < n → f (m + 1) (k:Int) = if p k = true then f m ((k + 1:Nat):Int) else e) (h:∀ m,f (m + 1) (n:Int) = rest):f FU 0 = if (List.range n).all p = true then rest else e:=by
 have l:∀ d k m,n - k = d → k ≤ n → n - k < m → f m (k:Int) = if (List.range' k (n - k)).all p = true then rest else e:=by
  intro d
  induction d with
  | zero =>
   intro k m g hk u
   have:k = n:=by omega
   subst this
   cases m with
   | zero=>omega
   | succ m=>simp [h]
  | succ d s =>
   intro k m g hk u
   cases m with
   | zero=>omega
   | succ m =>
    rw [v m k (by omega),g,List.range'_succ,List.all_cons]
    cases hp:p k with
    | false=>simp
    | true =>
     simp only [if_true,Bool.true_and]
     rw [s (k + 1) m (by omega) (by omega) (by omega),show n - (k + 1) = d by omega]
 have:=l n 0 FU (by omega) (by omega) (D1 (by omega))
 simpa [List.range_eq_range'] using this
theorem YV {α:Type} (l:List α) (p:Nat → Bool) (q:α → Bool) (h:∀ k x,l[k]? = some x → p k = q x):(List.range l.length).all p = l.all q:=by
 rw [Bool.eq_iff_iff,List.all_eq_true,List.all_eq_true]
 constructor
 ·intro h1 x g
  obtain ⟨k,e⟩:=List.getElem?_of_mem g
  rw [← h k x e]
  exact h1 k (List.mem_range.2 (List.getElem?_eq_some_iff.1 e).1)
 ·intro h1 k e
  have f:=List.mem_range.1 e
  rw [h k l[k] (by simp [f])]
  exact h1 _ (List.getElem_mem f)
theorem N5 {α R:Type} (f:Nat → Int → Af R) (l:List α) (q:α → Bool) (rest g:Af R) (u:l.length < 4611686018427387904)
  (v:∀ m k x,k < l.length → l[k]? = some x → f (m + 1) (k:Int) = if q x = true then f m ((k + 1:Nat):Int) else g) (s:∀ m,f (m + 1) (l.length:Int) = rest):f FU 0 = if l.all q = true then rest else g:=by
 rw [OA f l.length (fun k=>match l[k]? with | some x=>q x | none=>true) rest g u (fun m k h=>?_) s,YV l _ q (fun k x e=>by simp [e])]
 have e:l[k]? = some l[k]:=by simp [h]
 rw [v m k l[k] h e]
 simp [e]
def Szd (o:Af Int) (n:Int) (Q:Prop):Prop:=∃ r,o = some r ∧ (r < 0 ∨ (0 ≤ r ∧ r ≤ n ∧ Q))
def Adn {α:Type} (S:α → Prop) (l:List α):Prop:=l.length ≤ 1048576 ∧ ∀ x ∈ l,S x
theorem Js {α:Type} {l:List α} {k:Nat} (h:k < l.length):AL l (k:Int) = some l[k]:=by rw [AX]; simp [h]
theorem J8 {α:Type} (l:List α) (k:Nat) (x:α):BE l (k:Int) x = l.set k x:=by unfold BE; simp
theorem Szd.imp {o:Af Int} {n:Int} {Q R:Prop} (h:Szd o n Q) (f:Q → R):Szd o n R:=by
 obtain ⟨r,h1,e⟩:=h
 exact ⟨r,h1,e.imp id fun h=>⟨h.1,h.2.1,f h.2.2⟩⟩
theorem NH {α:Type} {n:Nat} (h:n ≤ 1073741824) (z:α):Sf (n:Int) z = some (List.replicate n z):=by
 unfold Sf
 rw [if_pos (by omega)]
 simp
theorem Aeo {α:Type} [BEq α] {S:α → Prop} (h:∀ x:α,(x != x) = false) (f:Nat → Int → Af Bool) (l:List α)
  (e:∀ m k,f (m + 1) k = if (decide (k < (List.length l:Int))) = true then Option.bind (AL l k) fun u=>Option.bind (AL l k) fun v=>(if (u != v) = true then some false else f m (Ag (k + 1))) else some true)
  (s:Adn S l):(if ((List.length l:Int) != (List.length l:Int)) = true then some false else f FU 0) = some true:=by
 have aa:=s.1
 rw [if_neg (by simp)]
 have:=N5 f l (fun _=>true) (some true) (some false) (by omega) (fun m k x hk g=>?_) (fun m=>by rw [e,if_neg (by simp)])
 ·simpa using this
 ·rw [e,if_pos (by simp; omega),AX,g,Aa,Aa,if_neg (by rw [h x]; exact Bool.false_ne_true),AC (by omega),if_pos rfl]
theorem neI (x:Int):(x != x) = false:=by simp
theorem W6 {α S R:Type} (f:Nat → S → Int → Af R) (l:List α) (g:S → α → S) (rest:S → Af R) (hn:l.length < 4611686018427387904)
  (hs:∀ m s k x,k < l.length → l[k]? = some x → f (m + 1) s (k:Int) = f m (g s x) ((k + 1:Nat):Int)) (v:∀ m s,f (m + 1) s (l.length:Int) = rest s) (h:S):f FU h 0 = rest (l.foldl g h):=by
 have aa:∀ d k m s,l.length - k = d → k ≤ l.length → l.length - k < m → f m s (k:Int) = rest ((l.drop k).foldl g s):=by
  intro d
  induction d with
  | zero =>
   intro k m s u hk hm
   have:k = l.length:=by omega
   subst this
   cases m with
   | zero=>omega
   | succ m=>rw [v]; simp
  | succ d ih =>
   intro k m s u hk hm
   cases m with
   | zero=>omega
   | succ m =>
    have e:k < l.length:=by omega
    rw [hs m s k l[k] e (by simp [e]),ih (k + 1) m _ (by omega) (by omega) (by omega),List.drop_eq_getElem_cons e,List.foldl_cons]
 have:=aa _ 0 FU h rfl (by omega) (D1 (by omega))
 simpa using this
theorem Tx {α:Type} (l:List α) {k:Nat} (h:k ≤ l.length):sl l 0 (k:Int) = some (l.take k):=Ll l h
theorem Bm {α:Type} {l m:List α} (h:l.length + m.length ≤ 1073741824):Cg l m = some (l ++ m):=by
 unfold Cg
 rw [if_pos h]
def PY (l:List Aj):Nat:=l.count 10
theorem ten:(10:Int).toNat.toUInt8 = 10:=by decide
def GU (l:List Aj):Bool:=decide (l.length ≤ 2000) && (decide (l = []) || decide (l.getLast? = some 10)) && decide (PY l ≤ 40)
theorem Ud {l:List Aj} (h:l ≠ []):∃ b,AL l ((l.length:Int) - 1) = some b ∧ l.getLast? = some b ∧ l = l.take (l.length - 1) ++ [b]:=by
 have f:0 < l.length:=List.length_pos_iff.2 h
 have e:l.length - 1 < l.length:=by omega
 refine ⟨l[l.length - 1],?_,?_,?_⟩
 ·rw [show (l.length:Int) - 1 = ((l.length - 1:Nat):Int) by omega,Js e]
 ·rw [List.getLast?_eq_getElem?,Cb e]
 ·conv=>lhs; rw [← List.take_append_drop (l.length - 1) l]
  rw [List.drop_eq_getElem_cons e,List.drop_eq_nil_of_le (by omega)]
def Hw (b:Aj):Bool:=decide (48 ≤ b.toNat) && decide (b.toNat ≤ 57)
def OZ (l:List Aj):Int:=l.foldl (fun a b=>10 * a + ((b.toNat:Int) - 48)) 0
theorem Sk {d:Nat} (h:d < 10):(UInt8.ofNat (48 + d)).toNat = 48 + d:=by
 rw [UInt8.toNat_ofNat']
 omega
theorem Rf {u:Nat} (h:u < 10):Lib.decDigits u = [UInt8.ofNat (48 + u)]:=Lib.decDigits_one h
theorem XP {u:Nat} (h:¬ u < 10):Lib.decDigits u = Lib.decDigits (u / 10) ++ [UInt8.ofNat (48 + u % 10)]:=by
 rw [Lib.decDigits,dif_neg h]
theorem Vp:∀ (k u:Nat),u < 10 ^ (k + 1) → (∀ b ∈ Lib.decDigits u,Hw b = true) ∧ OZ (Lib.decDigits u) = u ∧ 1 ≤ (Lib.decDigits u).length ∧ (Lib.decDigits u).length ≤ k + 1 ∧
  (0 < u → ∀ b,(Lib.decDigits u)[0]? = some b → b.toNat ≠ 48):=by
 intro k
 induction k with
 | zero =>
  intro u m
  have h:u < 10:=by simpa using m
  rw [Rf h]
  have:=Sk h
  refine ⟨fun b e=>?_,?_,by simp,by simp,fun h0 b e=>?_⟩
  ·rw [List.mem_singleton.1 e]
   unfold Hw
   rw [this]
   simp
   omega
  ·unfold OZ
   simp only [List.foldl_cons,List.foldl_nil,this]
   omega
  ·rw [List.getElem?_cons_zero,Option.some.injEq] at e
   rw [← e,this]
   omega
 | succ k v =>
  intro u m
  by_cases h:u < 10
  ·obtain ⟨g,f,s,a4,l⟩:=v u (Nat.lt_of_lt_of_le h (by rw [Nat.pow_succ]; have:=Nat.pow_pos (n:=k) (show 0 < 10 by omega); omega))
   exact ⟨g,f,s,by omega,l⟩
  ·have hd:u / 10 < 10 ^ (k + 1):=by rw [Nat.pow_succ] at m; omega
   obtain ⟨g,f,s,a4,l⟩:=v (u / 10) hd
   have hm:u % 10 < 10:=by omega
   have:=Sk hm
   rw [XP h]
   refine ⟨fun b e=>?_,?_,by simp,by simp; omega,fun h0 b e=>?_⟩
   ·rcases AP.1 e with e | e
    ·exact g b e
    ·rw [List.mem_singleton.1 e]
     unfold Hw
     rw [this]
     simp
     omega
   ·unfold OZ at f ⊢
    rw [List.foldl_append,List.foldl_cons,List.foldl_nil,f,this]
    omega
   ·rw [List.getElem?_append_left (by omega)] at e
    exact l (by omega) b e
theorem Zk:∀ (l:List Aj) (a:Int),(∀ b ∈ l,Hw b = true) → 0 ≤ a → 0 ≤ l.foldl (fun a b=>10 * a + ((b.toNat:Int) - 48)) a ∧ l.foldl (fun a b=>10 * a + ((b.toNat:Int) - 48)) a < (a + 1) * 10 ^ l.length
 | [],a,_,h=>by simp; omega
 | b :: l,a,hd,h=>by
  have e:=hd b (by simp)
  unfold Hw at e
  simp only [Ck,C9] at e
  obtain ⟨h1,m⟩:=Zk l (10 * a + ((b.toNat:Int) - 48)) (fun c g=>hd c (by simp [g])) (by omega)
  rw [List.foldl_cons,List.length_cons,Int.pow_succ]
  refine ⟨h1,Int.lt_of_lt_of_le m ?_⟩
  have f:(0:Int) ≤ 10 ^ l.length:=Int.le_of_lt (Int.pow_pos (by omega))
  have u:(10 * a + ((b.toNat:Int) - 48) + 1) * 10 ^ l.length ≤ ((a + 1) * 10) * 10 ^ l.length:=Int.mul_le_mul_of_nonneg_right (by omega) f
  have s:(a + 1) * (10 ^ l.length * 10) = ((a + 1) * 10) * 10 ^ l.length:=by rw [Int.mul_comm (10 ^ l.length) 10,Int.mul_assoc]
  omega
def CZ (c:Aj):List Aj → List (List Aj)
 | []=>[[]]
 | b :: l=>if b = c then [] :: CZ c l else match CZ c l with
  | []=>[[b]]
  | h :: t=>(b :: h) :: t
theorem OR {c:Aj}:∀ {l:List Aj},c ∉ l → CZ c l = [l]
 | [],_=>rfl
 | b :: l,h=>by
  rw [List.mem_cons,not_or] at h
  rw [CZ,if_neg (fun e=>h.1 e.symm),OR h.2]
theorem OS {c:Aj}:∀ {A B:List Aj},c ∉ A → CZ c (A ++ c :: B) = A :: CZ c B
 | [],B,_=>by rw [List.nil_append,CZ,if_pos rfl]
 | b :: A,B,h=>by
  rw [List.mem_cons,not_or] at h
  rw [List.cons_append,CZ,if_neg (fun e=>h.1 e.symm),OS h.2]
theorem Jo (c:Aj):∀ l:List Aj,(CZ c l).length = l.count c + 1
 | []=>rfl
 | b :: l=>by
  have e:=Jo c l
  rw [CZ]
  by_cases h:b = c
  ·rw [if_pos h,List.length_cons,e,List.count_cons,if_pos (by simp [h])]
  ·rw [if_neg h,List.count_cons,if_neg (by simpa using h)]
   cases f:CZ c l with
   | nil=>rw [f] at e; simp at e
   | cons a t=>rw [f] at e; simpa using e
theorem YP {α:Type} (l:List α) {k:Nat} (h:k ≤ l.length):sl l 0 (k:Int) = some (l.take k):=Ll l h
theorem QO {α:Type} (l:List α) {k:Nat} (h:k ≤ l.length):sl l (k:Int) (List.length l:Int) = some (l.drop k):=by
 unfold sl
 rw [if_pos (by omega)]
 simp
theorem YQ (c:Aj):(UInt8.toNat c:Int).toNat.toUInt8 = c:=by
 rw [Int.toNat_natCast]
 exact UInt8.ofNat_toNat
theorem MX {b c:Aj} (h:b ≠ c):((b.toNat:Nat):Int) ≠ (c.toNat:Int):=fun e=>h (UInt8.toNat_inj.1 (by omega))
theorem Aa9 (l:List Aj) (c:Aj):(Qb l (c.toNat:Int) = -1 ∧ c ∉ l) ∨ ∃ A B,l = A ++ c :: B ∧ c ∉ A ∧ Qb l (c.toNat:Int) = (A.length:Int):=by
 unfold Qb
 rw [YQ]
 cases h:(List.range l.length).find? (fun i=>l[i]? == some c) with
 | none =>
  left
  refine ⟨rfl,fun g=>?_⟩
  obtain ⟨k,f,e⟩:=List.getElem_of_mem g
  have:=List.find?_eq_none.1 h k (List.mem_range.2 f)
  rw [Cb f,e] at this
  simp at this
 | some i =>
  right
  have m:=List.find?_some h
  have hi:i < l.length:=List.mem_range.1 (List.mem_of_find?_eq_some h)
  have v:l[i] = c:=by
   rw [Cb hi] at m
   simpa using m
  have ac:c ∉ l.take i:=by
   intro g
   obtain ⟨k,f,e⟩:=List.getElem_of_mem g
   rw [List.getElem_take] at e
   have aa:k < i:=by simp at f; omega
   have u:k < l.length:=by omega
   have s:=(List.find?_range_eq_some.1 h).2.2 k aa
   rw [Cb u,e] at s
   simp at s
  have hl:l = l.take i ++ c :: l.drop (i + 1):=by
   conv=>rhs; rw [← v]
   rw [List.getElem_cons_drop,List.take_append_drop]
  exact ⟨l.take i,l.drop (i + 1),hl,ac,by simp; omega⟩
theorem WO {c:Aj}:∀ {A A' B B':List Aj},c ∉ A → c ∉ A' → A ++ c :: B = A' ++ c :: B' → A = A' ∧ B = B'
 | [],[],B,B',_,_,e=>by simpa using e
 | [],a :: A',B,B',_,h,e=>by
  rw [List.nil_append,List.cons_append,List.cons.injEq] at e
  exact absurd (by rw [e.1]; simp) h
 | a :: A,[],B,B',h,_,e=>by
  rw [List.nil_append,List.cons_append,List.cons.injEq] at e
  exact absurd (by rw [e.1]; simp) h
 | a :: A,a' :: A',B,B',h,h',e=>by
  rw [List.cons_append,List.cons_append,List.cons.injEq] at e
  rw [List.mem_cons,not_or] at h h'
  obtain ⟨g,f⟩:=WO h.2 h'.2 e.2
  exact ⟨by rw [e.1,g],f⟩
theorem ZP {A B:List Aj} {c:Aj} (h:c ∉ A):Qb (A ++ c :: B) (c.toNat:Int) = (A.length:Int):=by
 rcases Aa9 (A ++ c :: B) c with ⟨_,f⟩ | ⟨A',B',e,g,l⟩
 ·exact absurd (by simp) f
 ·rw [l,(WO h g e).1]
theorem Abp (l:List Aj) (c:Aj):HT l [c] = some (Qb l (c.toNat:Int)):=by
 unfold HT IR Hs Bj
 dsimp only
 by_cases h:l = [c]
 ·subst h
  have:=ZP (A:=[]) (B:=[]) (c:=c) (by simp)
  rw [List.nil_append] at this
  rw [this]
  simp
 ·have f:([c] == l) = false:=by
   rw [beq_eq_false_iff_ne]
   exact fun e=>h e.symm
  rw [if_neg (by simp),f,if_neg (by simp),if_pos (by simp)]
  rfl
theorem Abq (l:List Aj) (c:Aj):Jv l [c] = some ((l.count c:Nat):Int):=by
 unfold Jv
 rw [if_neg (by simp),if_pos (by simp)]
 show some (Yt l (UInt8.toNat c:Int)) = _
 unfold Yt
 rw [YQ]
theorem Aa8 {α:Type} (L:List α) (i:Nat) (x:α) (h:i < L.length):(BE L (i:Int) x).take (i + 1) = L.take i ++ [x]:=by
 unfold BE
 rw [Int.toNat_natCast,List.take_add_one,List.getElem?_set_self h,List.take_set_of_le (Nat.le_refl _)]
 rfl
theorem XB (l:List Aj) (c:Aj) (hl:l.length ≤ 4194304):Ge l [c] = some (CZ c l):=by
 have hc:l.count c ≤ l.length:=List.count_le_length
 unfold Ge Ju Bj WB
 dsimp only
 have h:Fr ((l.count c:Int) + 1) ((l.length:Int) + 1) = ((l.count c + 1:Nat):Int):=by
  unfold Fr
  split <;> omega
 rw [if_neg (by simp),if_neg (by simp),if_pos (by simp),Abq,Aa,A8 (x:=((l.count c:Nat):Int) + 1) (by omega) (by omega),A8 (x:=(List.length l:Int) + 1) (by omega) (by omega),h,NH (by omega),Aa]
 have ag:∀ (d i m:Nat) (y:List Aj) (L:List (List Aj)),l.count c - i = d → i ≤ l.count c → d < m → y.count c = d → L.length = l.count c + 1 → y.length ≤ 4194304 →
   DK ((l.count c:Int) + 1) l [c] (fun ad u g=>Option.bind (AL u g) fun aq=>Option.bind (sl (BE u g ad) 0 (Ag (g + 1))) fun an=>some an) 0 m y L (i:Int) = some (L.take i ++ CZ c y):=by
  intro d
  induction d with
  | zero =>
   intro i m y L hd hi hm f s al
   have:i = l.count c:=by omega
   subst this
   cases m with
   | zero=>omega
   | succ m =>
    rw [DK,A8 (x:=(List.length l:Int) + 1) (by omega) (by omega),h,A8 (x:=((l.count c + 1:Nat):Int) - 1) (by omega) (by omega),if_neg (by simp <;> omega),Js (by omega),Aa,AC (by omega),YP _ (by simp [BE]; omega),Aa,Aa8 _ _ _ (by omega),OR (List.count_eq_zero.1 f)]
  | succ d ih =>
   intro i m y L hd hi hm f s al
   cases m with
   | zero=>omega
   | succ m =>
    rcases Aa9 y c with ⟨_,h0⟩ | ⟨A,B,e,v,hx⟩
    ·rw [List.count_eq_zero.2 h0] at f; omega
    ·have au:y.length = A.length + (B.length + 1):=by rw [e]; simp
     have hB:y.drop (A.length + 1) = B:=by rw [e,show A ++ c :: B = (A ++ [c]) ++ B by simp]; exact List.drop_left' (by simp)
     have ap:y.take A.length = A:=by rw [e]; exact List.take_left' rfl
     have ai:B.count c = d:=by
      rw [e,List.count_append,List.count_eq_zero.2 v,List.count_cons_self] at f
      omega
     rw [DK,A8 (x:=(List.length l:Int) + 1) (by omega) (by omega),h,A8 (x:=((l.count c + 1:Nat):Int) - 1) (by omega) (by omega),if_pos (by simp <;> omega),Abp,Aa,hx,if_neg (by simp),A8 (x:=(A.length:Int) + 0) (by omega) (by omega),Int.add_zero,YP _ (by omega),Aa,Js (by omega),Aa]
     rw [show (List.length ([c]:List Aj):Int) = 1 by rfl,AC (by omega),QO _ (by omega),Aa,AC (by omega),hB,ap]
     rw [ih (i + 1) m B _ (by omega) (by omega) (by omega) ai (by simp [BE]; exact s) (by omega),Aa8 _ _ _ (by omega)]
     conv=>rhs; rw [e]
     rw [OS v,List.append_assoc]
     rfl
 have hr:=ag (l.count c) 0 FU l (List.replicate (l.count c + 1) []) (by omega) (by omega) (D1 (by omega)) rfl (by simp) hl
 rw [show ((0:Nat):Int) = 0 by rfl] at hr
 rw [hr]
 rfl
def BK (a lo hi:Int):Bool:=decide (lo ≤ a) && decide (a ≤ hi)
theorem CU (a e f:Int):BR a e f = some (BK a e f):=by
 unfold BR Bj BK
 by_cases h:e ≤ a <;> simp [h]
theorem CT (a e f:Int):BZ a e f = some (BK a e f):=by
 unfold BZ Bj BK
 by_cases h:e ≤ a <;> simp [h]
def CX (s:Int × Int):Bool:=BK s.1 0 1280 && BK s.2 0 672
theorem OU (s:Int × Int):Ia s = some (CX s):=by
 unfold Ia Bj CX
 dsimp only
 rw [CU,Aa,CU]
 cases BK s.1 0 1280 <;> simp
theorem L6 (s:Int × Int):Gx s = some (CX s):=by
 unfold Gx Bj CX
 dsimp only
 rw [CT,Aa,CT]
 cases BK s.1 0 1280 <;> simp
theorem Sj (x y:Int × Int):MG x y = decide (x = y):=by
 obtain ⟨a,b⟩:=x
 obtain ⟨c,d⟩:=y
 simp [MG]
 by_cases h1:a = c <;> by_cases e:b = d <;> simp [h1,e]
def PV (l:List (Int × Int)) (k:Nat):Bool:=match l[k]? with
 | some s=>CX s && (l.take k).all (fun u=>!decide (s = u))
 | none=>true
theorem Oh {l:List (Int × Int)} {k:Nat} {s:Int × Int} (h:l[k]? = some s):PV l k = (CX s && (l.take k).all (fun u=>!decide (s = u))):=by
 unfold PV
 rw [h]
def Cv (l:List (Int × Int)):Bool:=BK (l.length:Int) 1 12 && (List.range l.length).all (PV l)
theorem J7 (l:List (Int × Int)) (v:l.length < 4611686018427387904):FN l = some (Cv l):=by
 unfold FN
 rw [OA (Em l) l.length (PV l) (some (BK (l.length:Int) 1 12)) (some false) v (fun m k hk=>?_) (fun m=>?_)]
 ·unfold Cv
  cases (List.range l.length).all (PV l) <;> simp
 ·obtain ⟨s,e⟩:∃ s,l[k]? = some s:=⟨_,Cb hk⟩
  rw [Em,if_pos (by simp; omega),AX,e,Aa,OU,Aa,Oh e]
  cases CX s with
  | false=>simp
  | true =>
   rw [if_neg (by simp),Ll l (by omega),Aa,Bool.true_and]
   have ab:(l.take k).length = k:=by simp; omega
   rw [N5 (FI (l.take k) s (Em l m) (k:Int)) (l.take k) (fun u=>!decide (s = u)) (Em l m ((k + 1:Nat):Int)) (some false) (by omega) (fun f j x hj g=>?_) (fun f=>?_)]
   ·rw [FI,if_pos (by simp; omega),AX,g,Aa,Sj,AC (by omega)]
    by_cases h:s = x <;> simp [h]
   ·rw [FI,if_neg (by simp),AC (by omega)]
 ·rw [Em,if_neg (by simp),CU]
  rfl
theorem V1 (l:List (Int × Int)) (s:Int × Int) (hl:l.length < 4611686018427387904):Dk l s = some (!l.all (fun u=>!decide (s = u))):=by
 unfold Dk E1
 have v:∀ d k m,l.length - k = d → k ≤ l.length → l.length - k < m → ∃ i,Cq l s m (k:Int) = some i ∧ decide (0 ≤ i) = !(l.drop k).all (fun u=>!decide (s = u)):=by
  intro d
  induction d with
  | zero =>
   intro k m h hk hm
   cases m with
   | zero=>omega
   | succ m =>
    rw [Cq,if_neg (by simp; omega)]
    exact ⟨-1,rfl,by rw [List.drop_eq_nil_of_le (by omega)]; simp⟩
  | succ d ih =>
   intro k m h hk hm
   cases m with
   | zero=>omega
   | succ m =>
    have g:k < l.length:=by omega
    rw [Cq,if_pos (by simp; omega),Js g,Aa,Sj,AC (by omega),List.drop_eq_getElem_cons g,List.all_cons]
    by_cases e:s = l[k]
    ·exact ⟨k,by simp [e],by simp [e]⟩
    ·rw [if_neg (by simp [e])]
     obtain ⟨i,h1,f⟩:=ih (k + 1) m (by omega) (by omega) (by omega)
     exact ⟨i,h1,by simp [e,f]⟩
 obtain ⟨i,h1,f⟩:=v _ 0 FU rfl (by omega) (D1 (by omega))
 rw [show ((0:Nat):Int) = 0 from rfl] at h1
 rw [h1,Aa,f]
 simp
theorem GV (l:List (Int × Int)) (f:l.length < 4611686018427387904):Ec l = some (Cv l):=by
 unfold Ec Cv
 rw [CT,Aa]
 cases h:BK (l.length:Int) 1 12 with
 | false=>simp
 | true =>
  rw [if_neg (by simp),OA (Fq l) l.length (PV l) (some true) (some false) f (fun m k g=>?_) (fun m=>?_)]
  ·cases (List.range l.length).all (PV l) <;> simp
  ·obtain ⟨s,e⟩:∃ s,l[k]? = some s:=⟨_,Cb g⟩
   rw [Fq,if_pos (by simp; omega),AX,e,Aa]
   unfold Bj
   dsimp only
   rw [Oh e,L6,Aa]
   rw [Ll l (by omega),Aa,V1 _ _ (by simp; omega),Aa,AC (by omega)]
   cases CX s with
   | false=>simp
   | true=>simp only [Bool.not_true,Bool.false_eq_true,if_false,Bool.true_and]; cases (List.take k l).all (fun u=>!decide (s = u)) <;> simp
  ·rw [Fq,if_neg (by simp)]
def Wx (l:List Int):Bool:=l.all fun u=>BK u 1 64
theorem O4 (x:Int):Hk x = some (BK x 0 80):=by
 unfold Hk
 rw [CU]; rfl
theorem QY (x:Int):I5 x = some (BK x 0 80):=by
 unfold I5
 rw [CT]; rfl
def Wk (cs:List Ae4):Bool:=cs.all fun c=>Cv c && (match cs[0]? with | some d=>decide (c.length = d.length) | none=>true)
abbrev TC:=(List Ae4) × (List Int) × Int × Int
def Zj (x:TC):Bool:=BK (x.1.length:Int) 2 8 && decide (x.2.1.length + 1 = x.1.length) && Wk x.1 && Wx x.2.1 && BK x.2.2.1 0 80 && BK x.2.2.2 1 24
theorem Kf {b:Aj}:Hw b = true ↔ 48 ≤ b.toNat ∧ b.toNat ≤ 57:=by
 unfold Hw
 simp
theorem UX {b:Aj} (h:Hw b = true):Ag (M1 ((b.toNat:Int) - 48)) = (b.toNat:Int) - 48:=by
 have:=Kf.1 h
 have e:M1 ((b.toNat:Int) - 48) = (b.toNat:Int) - 48:=by
  unfold M1
  show ((b.toNat:Int) - 48) % 256 = _
  omega
 rw [e,A8 (by omega) (by omega)]
def Mh (l:List Aj):Int × Bool:=if l = [] ∨ 9 < l.length ∨ (1 < l.length ∧ l[0]? = some 48) then (0,false) else if l.all Hw then (OZ l,true) else (0,false)
theorem WF (l:List Aj) (n:Int) (i:Nat) (g:0 ≤ n) (h:n < 10 ^ i) (m:i + l.length ≤ 9):n ≤ 1000000000:=by
 have:(10:Nat) ^ i ≤ 10 ^ 9:=Nat.pow_le_pow_right (by omega) (by omega)
 have f:((10 ^ i:Nat):Int) ≤ ((10 ^ 9:Nat):Int):=Int.ofNat_le.2 this
 rw [Int.natCast_pow] at f
 have e:((10 ^ 9:Nat):Int) = 1000000000:=by decide
 rw [e] at f
 exact Int.le_of_lt (Int.lt_of_lt_of_le h f)
theorem Aad (l:List Aj) (h9:l.length ≤ 9):∀ (d i m:Nat) (n:Int),l.length - i = d → i ≤ l.length → d < m → 0 ≤ n → n < 10 ^ i →
  Fn l m n (i:Int) = some (if (l.drop i).all Hw then ((l.drop i).foldl (fun a b=>10 * a + ((b.toNat:Int) - 48)) n,true) else (0,false)):=by
 intro d
 induction d with
 | zero =>
  intro i m n h v hm f h1
  have:i = l.length:=by omega
  subst this
  cases m with
  | zero=>omega
  | succ m =>
   rw [Fn,if_neg (by simp),List.drop_length]
   rfl
 | succ d s =>
  intro i m n h v hm f h1
  cases m with
  | zero=>omega
  | succ m =>
   have g:i < l.length:=by omega
   have hb:=WF (l.drop i) n i f h1 (by simp; omega)
   rw [Fn,if_pos (by simp; omega)]
   unfold Bj
   dsimp only
   rw [Js g,Aa,Aa]
   rw [List.drop_eq_getElem_cons g,List.all_cons,List.foldl_cons]
   by_cases e:Hw l[i] = true
   ·have ab:=Kf.1 e
    rw [if_neg (by simp; omega),Aa,if_neg (by simp; omega),e,Bool.true_and,UX e,A8 (x:=10 * n) (by omega) (by omega),A8 (x:=10 * n + _) (by omega) (by omega),AC (by omega)]
    refine s (i + 1) m _ (by omega) (by omega) (by omega) (by omega) ?_
    rw [Int.pow_succ]
    omega
   ·have ab:¬ (48 ≤ l[i].toNat ∧ l[i].toNat ≤ 57):=fun x=>e (Kf.2 x)
    have u:Hw l[i] = false:=by simpa using e
    rw [u,Bool.false_and,if_neg (c:=false = true) (by simp)]
    by_cases ae:l[i].toNat < 48
    ·rw [if_pos (by simp; omega),if_pos rfl]
    ·rw [if_neg (by simp; omega),Aa,if_pos (by simp; omega)]
theorem WC (l:List Aj) (h:l.length < 4611686018427387904):JT l = some (Mh l):=by
 unfold JT Mh Bj
 dsimp only
 by_cases f:l = []
 ·rw [if_pos (by simp [f]),if_pos rfl,if_pos (Or.inl f)]
 ·rw [if_neg (by simpa using f)]
  by_cases g:9 < l.length
  ·rw [if_pos (by simp; omega),if_pos rfl,if_pos (Or.inr (Or.inl g))]
  ·rw [if_neg (by simp; omega)]
   have v:0 < l.length:=List.length_pos_iff.2 f
   have u:=Aad l (by omega) l.length 0 FU 0 rfl (by omega) (D1 (by omega)) (by omega) (by simp)
   rw [show ((0:Nat):Int) = 0 by rfl] at u
   by_cases h1:1 < l.length
   ·rw [if_pos (by simp; omega),S8,Cb v,Aa]
    by_cases m:l[0] = 48
    ·rw [m,if_pos (by decide),if_pos (Or.inr (Or.inr ⟨h1,rfl⟩))]
    ·have:((l[0].toNat:Int) == 48) = false:=by
      rw [beq_eq_false_iff_ne]
      exact MX (c:=48) m
     have s:¬ (l = [] ∨ 9 < l.length ∨ (1 < l.length ∧ some l[0] = some 48)):=by
      rintro (e | e | ⟨_,e⟩)
      ·exact f e
      ·exact g e
      ·exact m (Option.some.inj e)
     rw [this,if_neg (by simp),u,if_neg s]
     rfl
   ·have s:¬ (l = [] ∨ 9 < l.length ∨ (1 < l.length ∧ l[0]? = some 48)):=by
     rintro (e | e | ⟨e,_⟩)
     ·exact f e
     ·exact g e
     ·exact h1 e
    rw [if_neg (by simp; omega),if_neg (by simp),u,if_neg s]
    rfl
theorem DB {a f e:Int}:BK a f e = true ↔ f ≤ a ∧ a ≤ e:=by simp [BK]
theorem FP {s:Int × Int}:CX s = true ↔ (0 ≤ s.1 ∧ s.1 ≤ 1280) ∧ 0 ≤ s.2 ∧ s.2 ≤ 672:=by
 unfold CX
 rw [Ck,DB,DB]
theorem O9 {α:Type} {l m:List α} (h:l.length + m.length ≤ 1073741824):Cg l m = some (l ++ m):=by
 unfold Cg
 rw [if_pos h]
def MV (n:Int):List Aj:=Lib.decDigits (n.toNat / 8) ++ if 0 < n.toNat % 8 then 43 :: Lib.decDigits (n.toNat % 8) else []
def PL (s:Int × Int):List Aj:=MV s.1 ++ 44 :: MV s.2
theorem Hy {k u:Nat} (h:u < 10 ^ (k + 1)):(Lib.decDigits u).length ≤ k + 1:=(Vp k u h).2.2.2.1
theorem LI {n:Int} (h:0 ≤ n) (e:n ≤ 9223372036854775807):CY n = some (Lib.decDigits n.toNat):=by
 unfold CY Lib.itoa
 rw [if_pos (by omega),if_neg (by omega)]
theorem LR {n:Int} (h:0 ≤ n ∧ n ≤ 1280):(MV n).length ≤ 5:=by
 unfold MV
 have h1:=Hy (k:=2) (u:=n.toNat / 8) (by omega)
 have e:=Hy (k:=0) (u:=n.toNat % 8) (by omega)
 rw [CH]
 split
 ·rw [List.length_cons]; omega
 ·simp; omega
theorem P1 {n:Int} (h:0 ≤ n ∧ n ≤ 1280):H5 n = some (MV n):=by
 have h1:=Hy (k:=2) (u:=n.toNat / 8) (by omega)
 have f:=Hy (k:=0) (u:=n.toNat % 8) (by omega)
 unfold H5 MV Bj
 dsimp only
 rw [Int.tdiv_eq_ediv_of_nonneg h.1,Int.tmod_eq_emod_of_nonneg h.1,A8 (by omega) (by omega),LI (by omega) (by omega),Aa,show (n / 8).toNat = n.toNat / 8 by omega]
 by_cases e:0 < n.toNat % 8
 ·rw [if_pos (by simp; omega),LI (by omega) (by omega),Aa,show (n % 8).toNat = n.toNat % 8 by omega,O9 (by simp; omega),Aa,O9 (by simp; omega),Aa,if_pos e]
  rfl
 ·rw [if_neg (by simp; omega),if_neg e,List.append_nil]
theorem V0 {s:Int × Int} (h:CX s = true):J4 s = some (PL s,true):=by
 unfold J4
 rw [L6,Aa,h,if_neg (by simp)]
 have f:=FP.1 h
 have g:=LR (n:=s.1) (by omega)
 have e:=LR (n:=s.2) (by omega)
 rw [P1 (by omega),Aa,O9 (by simp; omega),Aa,P1 (by omega),Aa,O9 (by simp; omega),Aa]
 unfold PL
 rw [List.append_assoc]
 rfl
theorem YE {s:Int × Int} (h:CX s = true):(PL s).length ≤ 11:=by
 have f:=FP.1 h
 have g:=LR (n:=s.1) (by omega)
 have e:=LR (n:=s.2) (by omega)
 unfold PL
 rw [CH,List.length_cons]
 omega
theorem PU {a f e:Int}:BK a f e = true ↔ f ≤ a ∧ a ≤ e:=by simp [BK]
structure ZD (x:TC):Prop where
 n0:2 ≤ x.1.length
 n1:x.1.length ≤ 8
 nc:x.2.1.length + 1 = x.1.length
 ch:∀ c ∈ x.1,Cv c = true
 cl:∀ c ∈ x.1,1 ≤ c.length ∧ c.length ≤ 12
 ce:∀ c ∈ x.1,∀ d,x.1[0]? = some d → c.length = d.length
 cn:∀ u ∈ x.2.1,1 ≤ u ∧ u ≤ 64
 le:0 ≤ x.2.2.1 ∧ x.2.2.1 ≤ 80
 st:1 ≤ x.2.2.2 ∧ x.2.2.2 ≤ 24
theorem Xv {c:List (Int × Int)} (h:Cv c = true):1 ≤ c.length ∧ c.length ≤ 12:=by
 unfold Cv at h
 rw [Ck,PU] at h
 omega
theorem Ae1 {x:TC} (h:Zj x = true):ZD x:=by
 unfold Zj Wk Wx at h
 simp only [Ck,PU,C9,List.all_eq_true] at h
 obtain ⟨⟨⟨⟨⟨h1,u⟩,f⟩,s⟩,l⟩,m⟩:=h
 refine ⟨by omega,by omega,u,fun c e=>(f c e).1,fun c e=>Xv (f c e).1,fun c e d g=>?_,s,l,m⟩
 have:=(f c e).2
 rw [g] at this
 simpa using this
theorem Xa {α:Type} {l m:List α} (h:l.length + m.length ≤ 1073741824):Cg l m = some (l ++ m):=by
 unfold Cg
 rw [if_pos h]
abbrev Gd:=(Int × Int) × (Int × Int) × Int
def GP (a b:Int × Int):Int:=Ag ((Ag ((Ag (a.1 - b.1)) * (Ag (a.1 - b.1)))) + (Ag ((Ag (a.2 - b.2)) * (Ag (a.2 - b.2)))))
theorem LD (a b:Int × Int):GX a b = some (GP a b):=rfl
theorem Hp (a b:Int × Int):Eg a b = some (GP a b):=rfl
def Td (m:Gd):Int:=GP m.1 m.2.1
theorem Mi {x y A B:Int} (h1:-A ≤ x) (g:x ≤ A) (f:-B ≤ y) (l:y ≤ B):-(A * B) ≤ x * y ∧ x * y ≤ A * B:=by
 have h:(x * y).natAbs ≤ A.toNat * B.toNat:=by rw [Int.natAbs_mul]; exact Nat.mul_le_mul (by omega) (by omega)
 have e:((A.toNat * B.toNat:Nat):Int) = A * B:=by
  rw [Int.natCast_mul,Int.toNat_of_nonneg (by omega),Int.toNat_of_nonneg (by omega)]
 omega
def Ir (a b:Int):Int × Int:=(Ag (Int.tdiv a (Nat.gcd a.toNat b.toNat:Int)),Ag (Int.tdiv b (Nat.gcd a.toNat b.toNat:Int)))
theorem Aak:∀ (y x m:Nat),y < m → Ha m (x:Int) (y:Int) = some ((Nat.gcd x y:Nat):Int):=by
 intro y
 induction y using Nat.strongRecOn with
 | _ y ih =>
  intro x m g
  cases m with
  | zero=>omega
  | succ m =>
   rw [Ha]
   by_cases h:y = 0
   ·subst h
    simp
   ·have f:((y:Int) != 0) = true:=by simp; omega
    have e:¬ (y:Int) = 0:=by omega
    rw [if_pos f,if_neg e,← Int.ofNat_tmod,ih (x % y) (Nat.mod_lt _ (by omega)) y m (by have:=Nat.mod_lt x (show 0 < y by omega); omega)]
    congr 2
    rw [Nat.gcd_comm x y,Nat.gcd_rec y x]
    exact Nat.gcd_comm _ _
theorem Zf (a b:Int):∀ (y x m:Nat),y < m → 0 < Nat.gcd x y → G4 a b m (x:Int) (y:Int) = some (Ag (Int.tdiv a (Nat.gcd x y:Int)),Ag (Int.tdiv b (Nat.gcd x y:Int))):=by
 intro y
 induction y using Nat.strongRecOn with
 | _ y ih =>
  intro x m u f
  cases m with
  | zero=>omega
  | succ m =>
   rw [G4]
   by_cases h:y = 0
   ·subst h
    have l:¬ x = 0:=by simp at f; omega
    simp [l]
   ·have s:decide (0 < (y:Int)) = true:=by simp; omega
    have g:¬ (y:Int) = 0:=by omega
    have e:Nat.gcd x y = Nat.gcd y (x % y):=by rw [Nat.gcd_comm x y,Nat.gcd_rec y x]; exact Nat.gcd_comm _ _
    rw [if_pos s,if_neg g,← Int.ofNat_tmod,ih (x % y) (Nat.mod_lt _ (by omega)) y m (by have:=Nat.mod_lt x (show 0 < y by omega); omega) (by rw [← e]; exact f),e]
theorem LJ (a b:Int) (s:0 ≤ a) (l:a ≤ 4000000000000000000) (u:0 < b) (h:b ≤ 1000000000000000):FK a b = some (Ir a b):=by
 unfold FK Mw Ir
 have g:FB a (Ag (0 - a)) = ((a.toNat:Nat):Int):=by unfold FB; rw [A8 (by omega) (by omega)]; split <;> omega
 have f:FB b (Ag (0 - b)) = ((b.toNat:Nat):Int):=by unfold FB; rw [A8 (by omega) (by omega)]; split <;> omega
 rw [g,f,Aak b.toNat a.toNat FU (D1 (by omega)),Aa]
 have m:0 < Nat.gcd a.toNat b.toNat:=Nat.gcd_pos_of_pos_right _ (by omega)
 have e:¬ ((Nat.gcd a.toNat b.toNat:Nat):Int) = 0:=by omega
 rw [if_neg e,if_neg e]
theorem RZ (a b:Int) (s:0 ≤ a) (m:a ≤ 4000000000000000000) (u:0 < b) (l:b ≤ 1000000000000000):Jf a b = some (Ir a b):=by
 unfold Jf Mu Hq Ir
 have f:(if decide (Ag (0 - a) < a) = true then some a else some (Ag (0 - a))) = some ((a.toNat:Nat):Int):=by
  rw [A8 (by omega) (by omega)]
  by_cases h:0 - a < a
  ·rw [if_pos (by simp; omega)]; congr 1; omega
  ·rw [if_neg (by simp; omega)]; congr 1; omega
 have e:b = ((b.toNat:Nat):Int):=by omega
 rw [f,Aa,Aa]
 have g:0 < Nat.gcd a.toNat b.toNat:=Nat.gcd_pos_of_pos_right _ (by omega)
 have:=Zf a b b.toNat a.toNat FU (D1 (by omega)) g
 rw [← e] at this
 exact this
def Yg (px py qx qy:Int):Int × Int :=
 if 0 ≤ px * (qx - px) + py * (qy - py) then (px * px + py * py,1)
 else if (qx - px) * (qx - px) + (qy - py) * (qy - py) ≤ 0 - (px * (qx - px) + py * (qy - py)) then (qx * qx + qy * qy,1)
 else Ir ((px * qy - py * qx) * (px * qy - py * qx)) ((qx - px) * (qx - px) + (qy - py) * (qy - py))
def Uc (a b:Gd):Int × Int:=Yg (a.1.1 - b.1.1) (a.1.2 - b.1.2) (a.2.1.1 - b.2.1.1) (a.2.1.2 - b.2.1.2)
structure InB (px py qx qy:Int):Prop where
 a1:-1280 ≤ px
 a2:px ≤ 1280
 b1:-672 ≤ py
 b2:py ≤ 672
 c1:-1280 ≤ qx
 c2:qx ≤ 1280
 d1:-672 ≤ qy
 d2:qy ≤ 672
theorem M4 {x A:Int} (h1:-A ≤ x) (e:x ≤ A):0 ≤ x * x ∧ x * x ≤ A * A:=by
 have:=Mi h1 e h1 e
 refine ⟨?_,this.2⟩
 have:(0:Int) ≤ ((x.natAbs * x.natAbs:Nat):Int):=Int.natCast_nonneg _
 rwa [Int.natAbs_mul_self] at this
structure Ad7 (px py qx qy:Int):Prop where
 m1:-3276800 ≤ px * (qx - px) ∧ px * (qx - px) ≤ 3276800
 m2:-903168 ≤ py * (qy - py) ∧ py * (qy - py) ≤ 903168
 m3:0 ≤ (qx - px) * (qx - px) ∧ (qx - px) * (qx - px) ≤ 6553600
 m4:0 ≤ (qy - py) * (qy - py) ∧ (qy - py) * (qy - py) ≤ 1806336
 m5:0 ≤ px * px ∧ px * px ≤ 1638400
 m6:0 ≤ py * py ∧ py * py ≤ 451584
 m7:0 ≤ qx * qx ∧ qx * qx ≤ 1638400
 m8:0 ≤ qy * qy ∧ qy * qy ≤ 451584
 m9:-860160 ≤ px * qy ∧ px * qy ≤ 860160
 m10:-860160 ≤ py * qx ∧ py * qx ≤ 860160
 m11:0 ≤ (px * qy - py * qx) * (px * qy - py * qx) ∧ (px * qy - py * qx) * (px * qy - py * qx) ≤ 2959500902400
theorem Abd {v e m s:Int} (h:InB v e m s):Ad7 v e m s:=by
 obtain ⟨l,u,f,g,c1,c2,d1,d2⟩:=h
 have m9:=Mi l u d1 d2
 have ag:=Mi f g c1 c2
 have ah:=M4 (x:=v * s - e * m) (A:=1720320) (by omega) (by omega)
 exact ⟨Mi (A:=1280) (B:=2560) l u (by omega) (by omega),Mi (A:=672) (B:=1344) f g (by omega) (by omega),M4 (A:=2560) (by omega) (by omega),M4 (A:=1344) (by omega) (by omega),M4 l u,M4 f g,M4 c1 c2,M4 d1 d2,by omega,by omega,by omega⟩
theorem inB {a b:Gd} (h:CX a.1 = true) (f:CX a.2.1 = true) (e:CX b.1 = true) (g:CX b.2.1 = true):InB (a.1.1 - b.1.1) (a.1.2 - b.1.2) (a.2.1.1 - b.2.1.1) (a.2.1.2 - b.2.1.2):=by
 unfold CX at h f e g
 rw [Ck,PU,PU] at h f e g
 refine ⟨by omega,by omega,by omega,by omega,by omega,by omega,by omega,by omega⟩
theorem T1 (a b:Gd) (g:CX a.1 = true) (v:CX a.2.1 = true) (h:CX b.1 = true) (l:CX b.2.1 = true):Ik a b = some (Uc a b):=by
 have f:=inB g v h l
 unfold Ik Lt Eg Uc
 generalize a.1.1 - b.1.1 = px at *
 generalize a.1.2 - b.1.2 = py at *
 generalize a.2.1.1 - b.2.1.1 = qx at *
 generalize a.2.1.2 - b.2.1.2 = qy at *
 obtain ⟨m1,m2,m3,m4,m5,m6,m7,m8,m9,ae,ao⟩:=Abd f
 obtain ⟨s,u,b1,m,c1,c2,d1,d2⟩:=f
 have k:(px * (qy - py) - py * (qx - px)) = px * qy - py * qx:=by
  rw [Int.mul_sub,Int.mul_sub,Int.mul_comm px py]; omega
 have ad:=Mi (x:=px) (y:=qy - py) (A:=1280) (B:=1344) s u (by omega) (by omega)
 have ag:=Mi (x:=py) (y:=qx - px) (A:=672) (B:=2560) b1 m (by omega) (by omega)
 simp only [Aa,A8 (x:=px) (by omega) (by omega),A8 (x:=py) (by omega) (by omega),A8 (x:=qx) (by omega) (by omega),A8 (x:=qy) (by omega) (by omega),
  A8 (x:=qx - px) (by omega) (by omega),A8 (x:=qy - py) (by omega) (by omega),A8 (x:=px * (qx - px)) (by omega) (by omega),A8 (x:=py * (qy - py)) (by omega) (by omega),
  A8 (x:=px * (qx - px) + py * (qy - py)) (by omega) (by omega),A8 (x:=0 - (px * (qx - px) + py * (qy - py))) (by omega) (by omega),
  A8 (x:=(qx - px) * (qx - px)) (by omega) (by omega),A8 (x:=(qy - py) * (qy - py)) (by omega) (by omega),A8 (x:=(qx - px) * (qx - px) + (qy - py) * (qy - py)) (by omega) (by omega),
  A8 (x:=px * px) (by omega) (by omega),A8 (x:=py * py) (by omega) (by omega),A8 (x:=px * px + py * py) (by omega) (by omega),
  A8 (x:=qx * qx) (by omega) (by omega),A8 (x:=qy * qy) (by omega) (by omega),A8 (x:=qx * qx + qy * qy) (by omega) (by omega),
  A8 (x:=px * (qy - py)) (by omega) (by omega),A8 (x:=py * (qx - px)) (by omega) (by omega),k,A8 (x:=px * qy - py * qx) (by omega) (by omega),A8 (x:=(px * qy - py * qx) * (px * qy - py * qx)) (by omega) (by omega)]
 unfold Yg
 by_cases h1:0 ≤ px * (qx - px) + py * (qy - py)
 ·rw [if_pos (by simpa using h1),if_pos h1]
 ·rw [if_neg (by simpa using h1),if_neg h1]
  by_cases e:(qx - px) * (qx - px) + (qy - py) * (qy - py) ≤ 0 - (px * (qx - px) + py * (qy - py))
  ·rw [if_pos (by simpa using e),if_pos e]
  ·rw [if_neg (by simpa using e),if_neg e,LJ _ _ (by omega) (by omega) (by omega) (by omega)]
   rfl
theorem Wf (a b:Gd) (l:CX a.1 = true) (u:CX a.2.1 = true) (m:CX b.1 = true) (s:CX b.2.1 = true):JQ a b = some (Uc a b):=by
 have h:=inB l u m s
 unfold JQ Ls Ku Uc Bj
 generalize a.1.1 - b.1.1 = px at *
 generalize a.1.2 - b.1.2 = py at *
 generalize a.2.1.1 - b.2.1.1 = qx at *
 generalize a.2.1.2 - b.2.1.2 = qy at *
 obtain ⟨m1,m2,m3,m4,m5,m6,m7,m8,m9,ac,aq⟩:=Abd h
 obtain ⟨a1,a2,b1,b2,c1,c2,d1,v⟩:=h
 simp only [Aa,A8 (x:=px) (by omega) (by omega),A8 (x:=py) (by omega) (by omega),A8 (x:=qx) (by omega) (by omega),A8 (x:=qy) (by omega) (by omega),
  A8 (x:=qx - px) (by omega) (by omega),A8 (x:=qy - py) (by omega) (by omega),A8 (x:=px * (qx - px)) (by omega) (by omega),A8 (x:=py * (qy - py)) (by omega) (by omega),
  A8 (x:=px * (qx - px) + py * (qy - py)) (by omega) (by omega),A8 (x:=0 - (px * (qx - px) + py * (qy - py))) (by omega) (by omega),
  A8 (x:=(qx - px) * (qx - px)) (by omega) (by omega),A8 (x:=(qy - py) * (qy - py)) (by omega) (by omega),A8 (x:=(qx - px) * (qx - px) + (qy - py) * (qy - py)) (by omega) (by omega),
  A8 (x:=px * px) (by omega) (by omega),A8 (x:=py * py) (by omega) (by omega),A8 (x:=px * px + py * py) (by omega) (by omega),
  A8 (x:=qx * qx) (by omega) (by omega),A8 (x:=qy * qy) (by omega) (by omega),A8 (x:=qx * qx + qy * qy) (by omega) (by omega),
  A8 (x:=px * qy) (by omega) (by omega),A8 (x:=py * qx) (by omega) (by omega),A8 (x:=px * qy - py * qx) (by omega) (by omega),A8 (x:=(px * qy - py * qx) * (px * qy - py * qx)) (by omega) (by omega)]
 have q1:qx * qx = px * px + 2 * (px * (qx - px)) + (qx - px) * (qx - px):=by
  have:qx * qx = (px + (qx - px)) * (px + (qx - px)):=by rw [show px + (qx - px) = qx by omega]
  rw [this,Int.add_mul,Int.mul_add,Int.mul_add,Int.mul_comm (qx - px) px]; omega
 have q2:qy * qy = py * py + 2 * (py * (qy - py)) + (qy - py) * (qy - py):=by
  have:qy * qy = (py + (qy - py)) * (py + (qy - py)):=by rw [show py + (qy - py) = qy by omega]
  rw [this,Int.add_mul,Int.mul_add,Int.mul_add,Int.mul_comm (qy - py) py]; omega
 unfold Yg EU
 generalize hd:px * (qx - px) + py * (qy - py) = dot at *
 generalize hz:(qx - px) * (qx - px) + (qy - py) * (qy - py) = size at *
 by_cases h1:0 ≤ dot
 ·have f:0 - dot ≤ 0:=by omega
  rw [if_pos h1]
  simp only [f,decide_true,if_true,Aa]
  rw [if_neg (by simp)]
  by_cases g:px * px + py * py < qx * qx + qy * qy
  ·rw [if_pos (by simpa using g)]; rfl
  ·rw [if_neg (by simpa using g),Aa]
   have:qx * qx + qy * qy = px * px + py * py:=by omega
   rw [this]
 ·have f:¬ 0 - dot ≤ 0:=by omega
  rw [if_neg h1]
  by_cases e:size ≤ 0 - dot
  ·rw [if_pos e]
   simp only [f,e,decide_true,decide_false,Bool.false_eq_true,if_false,if_true,Aa]
   rw [if_neg (by simp),if_neg (by simp; omega)]
   rfl
  ·rw [if_neg e]
   simp only [f,e,decide_true,decide_false,Bool.false_eq_true,if_false,if_true,Aa]
   rw [if_pos (by simp; omega),RZ _ _ (by omega) (by omega) (by omega) (by omega)]
   rfl
theorem Aae {β R:Type} (f:Nat → List β → Int → Af R) (n B:Nat) (p:Nat → Bool) (g:Nat → β) (rest:List β → Af R) (hn:n < 4611686018427387904)
  (hs:∀ m s k,k < n → s.length < B → f (m + 1) s (k:Int) = f m (if p k then s ++ [g k] else s) ((k + 1:Nat):Int)) (v:∀ m s,f (m + 1) s (n:Int) = rest s) :
  ∀ (k:Nat) (s:List β),k ≤ n → s.length + (n - k) ≤ B → f FU s (k:Int) = rest (s ++ ((List.range' k (n - k)).filter p).map g):=by
 have aa:∀ d k m s,n - k = d → k ≤ n → n - k < m → s.length + (n - k) ≤ B → f m s (k:Int) = rest (s ++ ((List.range' k (n - k)).filter p).map g):=by
  intro d
  induction d with
  | zero =>
   intro k m s l h hm e
   have:k = n:=by omega
   subst this
   cases m with
   | zero=>omega
   | succ m=>rw [v]; simp
  | succ d u =>
   intro k m s l h hm e
   cases m with
   | zero=>omega
   | succ m =>
    rw [hs m s k (by omega) (by omega),l,List.range'_succ,List.filter_cons]
    cases hp:p k with
    | false =>
     simp only [Bool.false_eq_true,if_false]
     rw [u (k + 1) m s (by omega) (by omega) (by omega) (by omega),show n - (k + 1) = d by omega]
    | true =>
     simp only [if_true,List.map_cons]
     rw [u (k + 1) m (s ++ [g k]) (by omega) (by omega) (by omega) (by simp; omega),show n - (k + 1) = d by omega]
     simp
 exact fun k s h e=>aa _ k FU s rfl h (D1 (by omega)) e
def Su (u v:Gd) (least:Int):Bool:=decide (Ag (Ag (least * least) * (Uc u v).2) ≤ (Uc u v).1)
def IA (u:Gd):Prop:=CX u.1 = true ∧ CX u.2.1 = true
theorem Ug (u v:Gd) (e:Int) (g:IA u) (f:IA v):IG u v e = some (Su u v e):=by
 unfold IG Su
 rw [T1 u v g.1 g.2 f.1 f.2]
 rfl
theorem Xs (u v:Gd) (e:Int) (g:IA u) (f:IA v):Ks u v e = some (Su u v e):=by
 unfold Ks Su
 rw [Wf u v g.1 g.2 f.1 f.2]
 rfl
theorem LW {a f e:Int}:BK a f e = true ↔ f ≤ a ∧ a ≤ e:=by simp [BK]
abbrev GA:=List (Int × Int)
abbrev Adt:=Int × (List Aj)
def G7 (u:Int × Int):Bool:=BK u.1 1 12 && BK u.2 40 220
def Gi (x:GA):Bool:=BK (x.length:Int) 1 40 && x.all G7
theorem TU (u:Int × Int):ID u = some (G7 u):=by
 unfold ID Bj G7
 dsimp only
 rw [CU,Aa,CU,Aa]
 cases BK u.1 1 12 <;> simp
theorem Sa (x:GA) (h:x.length < 4611686018427387904):Jg x = some (Gi x):=by
 unfold Jg Gi
 rw [N5 (FG x) x G7 (some (BK (x.length:Int) 1 40)) (some false) h (fun m k u f e=>?_) (fun m=>?_)]
 ·cases x.all G7 <;> simp
 ·rw [FG,if_pos (by simp; omega),AX,e,Aa,TU,Aa,AC (by omega)]
  cases G7 u <;> simp
 ·rw [FG,if_neg (by simp),CU]
  rfl
theorem QZ (x:GA) (h:x.length < 4611686018427387904):I6 x = some (Gi x):=by
 unfold I6 Gi
 rw [N5 (Fp x) x G7 (some (BK (x.length:Int) 1 40)) (some false) h (fun m k u f e=>?_) (fun m=>?_)]
 ·cases x.all G7 <;> simp
 ·rw [Fp,if_pos (by simp; omega),AX,e,Aa]
  unfold Bj G7
  dsimp only
  rw [CT,Aa,CT,Aa,AC (by omega)]
  cases BK u.1 1 12 <;> cases BK u.2 40 220 <;> simp
 ·rw [Fp,if_neg (by simp),CT]
  rfl
def Ss (x:GA):Int:=x.foldl (fun a u=>Ag (a + u.1)) 0
theorem Vx (x:GA) (h:x.length < 4611686018427387904):Jx x = some (Ss x):=by
 unfold Jx Ss
 rw [W6 (EB x) x (fun a u=>Ag (a + u.1)) some h (fun m s k u f e=>?_) (fun m s=>?_)]
 ·rw [EB,if_pos (by simp; omega),AX,e,Aa,AC (by omega)]
 ·rw [EB,if_neg (by simp)]
theorem Vz (x:GA) (h:x.length < 4611686018427387904):J3 x = some (Ss x):=by
 unfold J3 Ss
 rw [W6 (EF x) x (fun a u=>Ag (a + u.1)) some h (fun m s k u f e=>?_) (fun m s=>?_)]
 ·rw [EF,if_pos (by simp; omega),AX,e,Aa,AC (by omega)]
 ·rw [EF,if_neg (by simp)]
theorem Na {x:GA} (h:Gi x = true):1 ≤ x.length ∧ x.length ≤ 40 ∧ x.all G7 = true:=by
 unfold Gi at h
 rw [Ck,LW] at h
 exact ⟨by omega,by omega,h.2⟩
structure CueLens (x:GA) (l:List Adt):Prop where
 hx:x.length < 4611686018427387904
 hl:l.length < 1073741824
 hn:∀ c ∈ l,c.2.length < 4611686018427387904
theorem CueLens.hl' {x:GA} {l:List Adt} (h:CueLens x l):l.length < 4611686018427387904:=by have:=h.hl; omega
theorem YB (x:GA):∀ (m:Nat) (a b c:Int),G5 x m a b c = Di x m a b c:=by
 intro m
 induction m with
 | zero=>intro a b c; rfl
 | succ m e =>
  intro a b c
  rw [G5,Di]
  split
  ·cases AL x c with
   | none=>rfl
   | some u =>
    simp only [Aa,H1,e]
    by_cases h:u.2 = 0 <;> simp [h]
  ·rfl
theorem Uf (x:GA) (c:Int):Jm x c = FM x c:=by
 unfold Jm FM
 exact YB x FU c 0 0
theorem YA (x:GA) (h:x.all G7 = true) (hl:x.length < 4611686018427387904) (c:Int):∃ t,FM x c = some t:=by
 unfold FM
 have l:∀ d k m (a b:Int),x.length - k = d → k ≤ x.length → x.length - k < m → ∃ t,Di x m a b (k:Int) = some t:=by
  intro d
  induction d with
  | zero =>
   intro k m a b g hk v
   cases m with
   | zero=>omega
   | succ m =>
    rw [Di,if_neg (by simp; omega)]
    exact ⟨_,rfl⟩
  | succ d s =>
   intro k m a b g hk v
   cases m with
   | zero=>omega
   | succ m =>
    have e:k < x.length:=by omega
    have f:=List.all_eq_true.1 h x[k] (List.getElem_mem e)
    unfold G7 at f
    rw [Ck,LW,LW] at f
    have u:¬ x[k].2 = 0:=by omega
    rw [Di,if_pos (by simp; omega),Js e,Aa]
    simp only [H1,if_neg u,Aa,AC (k:=k) (by omega)]
    split
    ·exact ⟨_,rfl⟩
    ·exact s (k + 1) m _ _ (by omega) (by omega) (by omega)
 exact l _ 0 FU c 0 rfl (by omega) (D1 (by omega))
def R1 (x:GA) (c:Int):Int:=(FM x c).getD 0
theorem OV (x:GA) (h:Gi x = true) (c:Int):FM x c = some (R1 x c):=by
 obtain ⟨h1,g,e⟩:=Na h
 obtain ⟨t,f⟩:=YA x e (by omega) c
 unfold R1
 rw [f]
 rfl
theorem Xx (x:GA) (h:Gi x = true) (c:Int):Jm x c = some (R1 x c):=by
 rw [Uf,OV x h]
def rd (x c:Int):Int:=Int.tdiv (2 * x + c) (2 * c)
def KI (L:List (List Aj)):List Aj:=(L.map (· ++ [10])).flatten
theorem Yk (a:List Aj) (L:List (List Aj)):KI (a :: L) = a ++ 10 :: KI L:=by
 unfold KI
 rw [List.map_cons,List.flatten_cons,List.append_assoc]
 rfl
theorem W9 (L M:List (List Aj)):KI (L ++ M) = KI L ++ KI M:=by
 unfold KI
 rw [List.map_append,List.flatten_append]
theorem Vm (B:Nat):∀ (L:List (List Aj)),(∀ a ∈ L,a.length ≤ B) → (KI L).length ≤ (B + 1) * L.length
 | [],_=>by simp [KI]
 | a :: L,h=>by
  have f:=Vm B L fun b e=>h b (List.mem_cons_of_mem _ e)
  have g:=h a (by simp)
  rw [Yk,CH,List.length_cons,List.length_cons,Nat.mul_add]
  omega
theorem Ac3 {α:Type} (l:List α) {j k:Nat} (h:j ≤ k) (e:k ≤ l.length):sl l (j:Int) (k:Int) = some ((l.take k).drop j):=by
 unfold sl
 rw [if_pos (by omega)]
 simp
theorem Ad2 {α:Type} {l:List α} {k:Nat} (h:k < l.length) {e:Nat} (f:e ≤ k):l.drop e = (l.take k).drop e ++ l[k] :: l.drop (k + 1):=by
 conv=>lhs; rw [← List.take_append_drop k l]
 rw [List.drop_append_of_le_length (by simp; omega),List.drop_eq_getElem_cons h]
theorem Tf (l:List Aj) (c:Aj) (hl:l.length ≤ 4194304):FQ l (c.toNat:Int) = some (CZ c l):=by
 unfold FQ
 have ah:∀ (d k m f:Nat) (s:List (List Aj)),l.length - k = d → k ≤ l.length → d < m → f ≤ k → c ∉ (l.take k).drop f → s ++ CZ c (l.drop f) = CZ c l →
   Fg l (c.toNat:Int) m s (f:Int) (k:Int) = some (CZ c l):=by
  have hn:(CZ c l).length ≤ l.length + 1:=by
   have:=List.count_le_length (a:=c) (l:=l)
   rw [Jo]; omega
  intro d
  induction d with
  | zero =>
   intro k m f s hd hk hm v u g
   have:k = l.length:=by omega
   subst this
   have ai:s.length ≤ l.length + 1:=by rw [← g,CH] at hn; omega
   rw [List.take_length] at u
   cases m with
   | zero=>omega
   | succ m=>rw [Fg,if_neg (by simp),QO _ v,Aa,Bm (by simp; omega),Aa,← g,OR u]
  | succ d ih =>
   intro k m f s hd hk hm v u g
   have aa:k < l.length:=by omega
   have ai:s.length ≤ l.length + 1:=by rw [← g,CH] at hn; omega
   have ab:=Ad2 aa v
   cases m with
   | zero=>omega
   | succ m =>
    rw [Fg,if_pos (by simp; omega)]
    unfold FT
    dsimp only
    rw [Js aa,Aa]
    by_cases h:l[k] = c
    ·rw [h,if_pos (by simp),Ac3 _ v hk,Aa,Bm (by simp; omega),Aa,AC (by omega)]
     refine ih (k + 1) m (k + 1) _ (by omega) (by omega) (by omega) (by omega) ?_ ?_
     ·rw [List.drop_eq_nil_of_le (by simp; omega)]; simp
     ·rw [h] at ab
      rw [← g,ab,OS u,List.append_assoc]
      rfl
    ·rw [if_neg (by simpa using MX h),AC (by omega)]
     refine ih (k + 1) m f s (by omega) (by omega) (by omega) (by omega) ?_ g
     rw [List.take_succ_eq_append_getElem aa,List.drop_append_of_le_length (by simp; omega),AP,not_or]
     exact ⟨u,by simpa using fun e=>h e.symm⟩
 exact ah l.length 0 FU 0 [] rfl (by omega) (D1 (by omega)) (by omega) (by simp) (by simp)
def D7 (l:List Aj):List (List Aj):=if l = [] then [] else CZ 10 (l.take (l.length - 1))
theorem Te (c:Aj):∀ A:List Aj,CZ c (A ++ [c]) = CZ c A ++ [[]]
 | []=>by simp [CZ]
 | b :: A=>by
  rw [List.cons_append,CZ,CZ,Te c A]
  by_cases h:b = c
  ·rw [if_pos h,if_pos h]; rfl
  ·rw [if_neg h,if_neg h]
   cases e:CZ c A with
   | nil=>have:=Jo c A; rw [e] at this; simp at this
   | cons a t=>rfl
theorem Sg {l:List Aj} (h:l = [] ∨ l.getLast? = some 10):CZ 10 l = D7 l ++ [[]]:=by
 unfold D7
 by_cases e:l = []
 ·rw [if_pos e,e]; rfl
 ·rw [if_neg e]
  obtain ⟨b,_,m,g⟩:=Ud e
  have f:b = 10:=by
   rcases h with h | h
   ·exact absurd h e
   ·rw [m] at h; exact Option.some.inj h
  subst f
  conv=>lhs; rw [g]
  exact Te 10 _
theorem PX {l:List Aj} (h:l = [] ∨ l.getLast? = some 10):(D7 l).length = PY l:=by
 have h1:=congrArg List.length (Sg h)
 rw [Jo,CH] at h1
 unfold PY
 simpa using h1.symm
theorem Yi {l a:List Aj} (h:a ∈ D7 l):a.length ≤ l.length:=by
 have s:∀ (m:List Aj),∀ b ∈ CZ 10 m,b.length ≤ m.length:=by
  intro m
  induction m with
  | nil=>intro b e; simp [CZ] at e; simp [e]
  | cons x m f =>
   intro b e
   rw [CZ] at e
   split at e
   ·rcases List.mem_cons.1 e with rfl | e
    ·simp
    ·have:=f b e; simp; omega
   ·cases g:CZ 10 m with
    | nil=>have:=Jo 10 m; rw [g] at this; simp at this
    | cons a t =>
     rw [g] at e f
     rcases List.mem_cons.1 e with rfl | e
     ·have:=f a (List.mem_cons_self ..); simp; omega
     ·have:=f b (List.mem_cons_of_mem _ e); simp; omega
 unfold D7 at h
 split at h
 ·cases h
 ·have:=s _ a h
  simp at this
  omega
def NF (l:List Aj):List (List Aj) × Bool:=if GU l = true then (D7 l,true) else ([],false)
theorem GT {l:List Aj}:GU l = true ↔ l.length ≤ 2000 ∧ (l = [] ∨ l.getLast? = some 10) ∧ PY l ≤ 40:=by
 unfold GU
 simp [and_assoc]
theorem Yr (l:List Aj) (hl:l.length ≤ 4194304):JM l = some (NF l):=by
 unfold JM Bj NF
 dsimp only
 by_cases h1:l.length ≤ 2000
 ·rw [if_neg (by simp; omega)]
  have g (e:l = [] ∨ l.getLast? = some 10):(Option.bind (FQ l 10) fun m=>Option.bind (sl m 0 (Ag ((List.length m:Int) - 1))) fun u=>(if (decide (40 < (List.length u:Int))) = true then some (([]:List (List Aj)),false) else some (u,true))) = some (if GU l = true then (D7 l,true) else ([],false)):=by
   have hs:FQ l 10 = some (CZ 10 l):=Tf l 10 hl
   have hc:PY l ≤ l.length:=List.count_le_length
   have hL:=PX e
   rw [hs,Aa,Sg e,CH,List.length_singleton,A8 (by omega) (by omega),show (((D7 l).length + 1:Nat):Int) - 1 = ((D7 l).length:Int) by omega,Tx _ (by simp),Aa,List.take_left']
   ·by_cases v:PY l ≤ 40
    ·rw [if_neg (by simp; omega),if_pos (GT.2 ⟨h1,e,v⟩)]
    ·rw [if_pos (by simp; omega),if_neg (fun h=>v (GT.1 h).2.2)]
   ·rfl
  by_cases e:l = []
  ·rw [if_neg (by simp [e]),if_neg (by simp)]
   exact g (.inl e)
  ·obtain ⟨b,hb,s,_⟩:=Ud e
   rw [if_pos (by simp [e]),A8 (by omega) (by omega),hb,Aa]
   by_cases f:b = 10
   ·subst f
    rw [if_neg (by decide)]
    exact g (.inr s)
   ·have aa:((b.toNat:Nat):Int) ≠ 10:=MX (c:=10) f
    rw [if_pos (by simpa using aa),if_neg (fun h=>?_)]
    rcases (GT.1 h).2.1 with h | h
    ·exact e h
    ·rw [s] at h; exact f (Option.some.inj h)
 ·rw [if_pos (by simp; omega),if_pos rfl,if_neg (fun h=>h1 (GT.1 h).1)]
theorem Yh (l:List Aj) (hl:l.length ≤ 4194304):JU l = some (if l = [] ∨ l.getLast? = some 10 then (D7 l,true) else ([],false)):=by
 unfold JU D7
 by_cases e:l = []
 ·rw [if_pos (by simp [e]),if_pos (.inl e),if_pos e]
 ·obtain ⟨b,s,g,hd⟩:=Ud e
  have v:0 < l.length:=List.length_pos_iff.2 e
  rw [if_neg (by simpa using e),A8 (by omega) (by omega),s,Aa,if_neg e]
  by_cases f:b = 10
  ·subst f
   have u:Ge (l.take (l.length - 1)) [10] = some (CZ 10 (l.take (l.length - 1))):=XB _ 10 (by simp; omega)
   rw [if_neg (by decide),show (l.length:Int) - 1 = ((l.length - 1:Nat):Int) by omega,Tx _ (by omega),Aa,u,Aa,if_pos (.inr g)]
  ·have m:((b.toNat:Nat):Int) ≠ 10:=MX (c:=10) f
   rw [if_pos (by simpa using m),if_neg]
   rintro (h | h)
   ·exact e h
   ·rw [g] at h; exact f (Option.some.inj h)
theorem TY (l:List Aj) (g:l.length ≤ 4194304):HJ l = some (NF l):=by
 unfold HJ Bj NF
 rw [Yh l g,Aa]
 by_cases e:l = [] ∨ l.getLast? = some 10
 ·rw [if_pos e]
  dsimp only
  rw [if_neg (by simp)]
  have m:=PX e
  by_cases h1:l.length ≤ 2000
  ·rw [if_neg (by simp; omega)]
   by_cases f:PY l ≤ 40
   ·rw [if_neg (by simp; omega),if_pos (GT.2 ⟨h1,e,f⟩)]
   ·rw [if_pos (by simp; omega),if_neg (fun h=>f (GT.1 h).2.2)]
  ·rw [if_pos (by simp; omega),if_pos rfl,if_neg (fun h=>h1 (GT.1 h).1)]
 ·rw [if_neg e]
  dsimp only
  rw [if_pos (by simp),if_pos rfl,if_neg (fun h=>e (GT.1 h).2.1)]
def Lm (l:List Aj):Int:=if l = [] ∨ 6 < l.length ∨ (1 < l.length ∧ l[0]? = some 48) then -1 else if l.all Hw then OZ l else -1
theorem YU (l:List Aj) (h9:l.length ≤ 6):∀ (d i m:Nat) (n:Int),l.length - i = d → i ≤ l.length → d < m → 0 ≤ n → n < 10 ^ i →
  FH l m n (i:Int) = some (if (l.drop i).all Hw then (l.drop i).foldl (fun a b=>10 * a + ((b.toNat:Int) - 48)) n else -1):=by
 intro d
 induction d with
 | zero =>
  intro i m n h v hm f h1
  have:i = l.length:=by omega
  subst this
  cases m with
  | zero=>omega
  | succ m =>
   rw [FH,if_neg (by simp),List.drop_length]
   rfl
 | succ d s =>
  intro i m n h v hm f h1
  cases m with
  | zero=>omega
  | succ m =>
   have g:i < l.length:=by omega
   have hb:=WF (l.drop i) n i f h1 (by simp; omega)
   rw [FH,if_pos (by simp; omega)]
   unfold Bj
   dsimp only
   rw [Js g,Aa,Aa]
   rw [List.drop_eq_getElem_cons g,List.all_cons,List.foldl_cons]
   by_cases e:Hw l[i] = true
   ·have ab:=Kf.1 e
    rw [if_neg (by simp; omega),Aa,if_neg (by simp; omega),e,Bool.true_and,UX e,A8 (x:=10 * n) (by omega) (by omega),A8 (x:=10 * n + _) (by omega) (by omega),AC (by omega)]
    refine s (i + 1) m _ (by omega) (by omega) (by omega) (by omega) ?_
    rw [Int.pow_succ]
    omega
   ·have ab:¬ (48 ≤ l[i].toNat ∧ l[i].toNat ≤ 57):=fun x=>e (Kf.2 x)
    have u:Hw l[i] = false:=by simpa using e
    rw [u,Bool.false_and,if_neg (c:=false = true) (by simp)]
    by_cases ae:l[i].toNat < 48
    ·rw [if_pos (by simp; omega),if_pos rfl]
    ·rw [if_neg (by simp; omega),Aa,if_pos (by simp; omega)]
theorem Zr (l:List Aj) (h:l.length < 4611686018427387904):Kq l = some (Lm l):=by
 unfold Kq Lm Bj
 dsimp only
 rw [CU,Aa]
 by_cases f:l = []
 ·rw [if_pos (by simp [f,BK]),if_pos rfl,if_pos (Or.inl f)]
 ·have v:0 < l.length:=List.length_pos_iff.2 f
  by_cases g:6 < l.length
  ·have e:BK (l.length:Int) 1 6 = false:=by rw [← Bool.not_eq_true,DB]; omega
   rw [e,if_pos (c:=(!false) = true) rfl,if_pos rfl,if_pos (Or.inr (Or.inl g))]
  ·have e:BK (l.length:Int) 1 6 = true:=by rw [DB]; omega
   rw [e,if_neg (by simp),S8,Cb v,Aa]
   have u:=YU l (by omega) l.length 0 FU 0 rfl (by omega) (D1 (by omega)) (by omega) (by simp)
   rw [show ((0:Nat):Int) = 0 by rfl] at u
   by_cases m:l[0] = 48
   ·rw [m,if_pos (by decide)]
    by_cases h1:1 < l.length
    ·rw [if_pos (by simp; omega),if_pos (Or.inr (Or.inr ⟨h1,rfl⟩))]
    ·have s:¬ (l = [] ∨ 6 < l.length ∨ (1 < l.length ∧ some (48:Aj) = some 48)):=by
      rintro (e | e | ⟨e,_⟩)
      ·exact f e
      ·exact g e
      ·exact h1 e
     rw [if_neg (by simp; omega),u,if_neg s]
     rfl
   ·have:((l[0].toNat:Int) == 48) = false:=by
     rw [beq_eq_false_iff_ne]
     exact MX (c:=48) m
    have s:¬ (l = [] ∨ 6 < l.length ∨ (1 < l.length ∧ some l[0] = some 48)):=by
     rintro (e | e | ⟨_,e⟩)
     ·exact f e
     ·exact g e
     ·exact m (Option.some.inj e)
    rw [this,if_neg (by simp),if_neg (by simp),u,if_neg s]
    rfl
theorem XI:∀ (l:List Aj) (a:Int),(∀ b ∈ l,Hw b = true) → 0 ≤ a → a * (10:Int) ^ l.length ≤ l.foldl (fun a b=>10 * a + ((b.toNat:Int) - 48)) a
 | [],a,_,_=>by simp
 | b :: l,a,h,h0=>by
  have g:=Kf.1 (h b (List.mem_cons_self ..))
  have e:=XI l (10 * a + ((b.toNat:Int) - 48)) (fun x f=>h x (List.mem_cons_of_mem _ f)) (by omega)
  rw [List.foldl_cons,List.length_cons]
  refine Int.le_trans ?_ e
  rw [Int.pow_succ,Int.mul_comm ((10:Int) ^ l.length) 10,← Int.mul_assoc,Int.mul_comm a 10]
  exact Int.mul_le_mul_of_nonneg_right (by omega) (Int.pow_nonneg (by omega))
def Pu (l:List Aj):Af Int:=if BK (Lm l) 0 99999 = true then some (Lm l) else none
theorem Xw {l:List Aj} (h:BK (Lm l) 0 99999 = true):Mh l = (Lm l,true) ∧ Lm l ≤ 99999:=by
 have e:=DB.1 h
 refine ⟨?_,e.2⟩
 unfold Mh
 unfold Lm at e ⊢
 split at e
 ·omega
 ·rename_i f
  rw [not_or,not_or] at f
  split at e
  ·rename_i g
   rw [if_neg (by rw [not_or,not_or]; exact ⟨f.1,by omega,f.2.2⟩),if_pos g,if_neg (by rw [not_or,not_or]; exact f),if_pos g]
  ·omega
theorem Wy {l:List Aj} (h:BK (Lm l) 0 99999 = false):(Mh l).2 = false ∨ 99999 < (Mh l).1:=by
 unfold Mh
 split
 ·exact .inl rfl
 ·rename_i g
  rw [not_or,not_or] at g
  split
  ·rename_i s
   right
   show 99999 < OZ l
   have m:∀ b ∈ l,Hw b = true:=List.all_eq_true.1 s
   by_cases u:6 < l.length
   ·cases l with
    | nil=>exact absurd rfl g.1
    | cons b t =>
     have hb:=Kf.1 (m b (List.mem_cons_self ..))
     have ac:b ≠ 48:=fun e=>g.2.2 ⟨by omega,by rw [e]; rfl⟩
     have ai:49 ≤ b.toNat:=by
      rcases Nat.lt_or_ge b.toNat 49 with f | f
      ·exact absurd (UInt8.toNat_inj.1 (show b.toNat = (48:Aj).toNat by show b.toNat = 48; omega)) ac
      ·exact f
     have hl:=XI t (10 * 0 + ((b.toNat:Int) - 48)) (fun x hx=>m x (List.mem_cons_of_mem _ hx)) (by omega)
     unfold OZ
     rw [List.foldl_cons]
     refine Int.lt_of_lt_of_le ?_ hl
     have hp:(10:Int) ^ 6 ≤ (10:Int) ^ t.length:=by
      have h2:(10:Nat) ^ 6 ≤ 10 ^ t.length:=Nat.pow_le_pow_right (by omega) (by simp at u; omega)
      have v:=Int.ofNat_le.2 h2
      rw [Int.natCast_pow,Int.natCast_pow] at v
      exact v
     have e6:(10:Int) ^ 6 = 1000000:=by decide
     have hm:1 * (10:Int) ^ t.length ≤ (10 * 0 + ((b.toNat:Int) - 48)) * (10:Int) ^ t.length:=Int.mul_le_mul_of_nonneg_right (by omega) (by omega)
     omega
   ·have e:Lm l = OZ l:=by
     unfold Lm
     rw [if_neg (by rw [not_or,not_or]; exact ⟨g.1,u,g.2.2⟩),if_pos s]
    have h0:=(Zk l 0 m (by omega)).1
    rw [e] at h
    rcases Int.lt_or_le 99999 (OZ l) with f | f
    ·exact f
    ·rw [show BK (OZ l) 0 99999 = true from DB.2 ⟨h0,f⟩] at h; cases h
  ·exact .inl rfl
def IW {α β:Type} (g:α → Af β):List α → Af (List β)
 | []=>some []
 | x :: t=>(g x).bind fun y=>(IW g t).map (y :: ·)
theorem W5 {α β:Type} {g:α → Af β}:∀ {l:List α} {m:List β},IW g l = some m → m.length = l.length
 | [],m,h=>by cases h; rfl
 | x :: t,m,h=>by
  rw [IW,Option.bind_eq_some_iff] at h
  obtain ⟨y,_,h⟩:=h
  rw [Option.map_eq_some_iff] at h
  obtain ⟨f,e,rfl⟩:=h
  simp [W5 e]
theorem W4 {α β:Type} {g:α → Af β} {p:β → Prop} (f:∀ x y,g x = some y → p y):∀ {l:List α} {m:List β},IW g l = some m → ∀ y ∈ m,p y
 | [],m,h,y,e=>by cases h; cases e
 | x :: t,m,h,y,e=>by
  rw [IW,Option.bind_eq_some_iff] at h
  obtain ⟨z,u,h⟩:=h
  rw [Option.map_eq_some_iff] at h
  obtain ⟨v,s,rfl⟩:=h
  rcases List.mem_cons.1 e with rfl | e
  ·exact f _ _ u
  ·exact W4 f s y e
theorem VL {α β R:Type} (f:Nat → List β → Int → Af R) (l:List α) (g:α → Af β) (rest:List β → Af R) (u:Af R) (hn:l.length < 4611686018427387904)
  (hs:∀ (m k:Nat) e x,l[k]? = some x → e.length = k → f (m + 1) e (k:Int) = match g x with
   | none=>u
   | some y=>f m (e ++ [y]) ((k + 1:Nat):Int))
  (he:∀ m e,e.length = l.length → f (m + 1) e (l.length:Int) = rest e):f FU [] 0 = match IW g l with
   | none=>u
   | some s=>rest s:=by
 have ac:∀ d k m e,l.length - k = d → k ≤ l.length → d < m → e.length = k → f m e (k:Int) = match IW g (l.drop k) with
   | none=>u
   | some s=>rest (e ++ s):=by
  intro d
  induction d with
  | zero =>
   intro k m e hd hk hm h
   have:k = l.length:=by omega
   subst this
   cases m with
   | zero=>omega
   | succ m=>rw [he m e h,List.drop_length,IW]; simp
  | succ d ih =>
   intro k m e hd hk hm h
   have v:k < l.length:=by omega
   cases m with
   | zero=>omega
   | succ m =>
    rw [hs m k e l[k] (Cb v) h,List.drop_eq_getElem_cons v,IW]
    cases hg:g l[k] with
    | none=>rfl
    | some y =>
     dsimp only
     rw [ih (k + 1) m _ (by omega) (by omega) (by omega) (by simp [h]),Aa]
     cases IW g (l.drop (k + 1)) with
     | none=>rfl
     | some s=>simp
 have:=ac l.length 0 FU [] rfl (by omega) (D1 hn) rfl
 simpa using this
def Ph (w:List Aj):Int:=(GC w).getD 0
theorem Adf {R:Type} {c:Prop} [Decidable c] {a b:Af R} (f:∃ n,a = some n) (e:∃ n,b = some n):∃ n,(if c then a else b) = some n:=by
 split
 ·exact f
 ·exact e
theorem Ade {A R:Type} {rest:A → Af R} {e:(A → Af R) → Af R} (h:∀ y,∃ n,rest y = some n) (f:∀ k,(∀ y,∃ n,k y = some n) → ∃ n,e k = some n):∃ n,Bj rest e = some n:=f rest h
theorem T5 (w:List Aj):GC w = some (Ph w):=by
 have:∃ n,GC w = some n:=by
  unfold GC
  repeat' first
   | refine Adf ?_ ?_
   | exact e _
   | refine Ade (fun y=>?_) (fun k e=>?_)
   | exact ⟨_,rfl⟩
 obtain ⟨n,h⟩:=this
 unfold Ph
 rw [h]
 rfl
theorem TR (w:List Aj):J2 w = some (Ph w):=T5 w
def SX:List Aj:=[115,112,111,116]
def QE:List Aj:=[112,108,97,99,101]
def Pp:List Aj:=[109,105,114,114,111,114]
def SZ:List Aj:=[107,101,101,112]
def Pq:List Aj:=[99,111,117,110,116,115]
def NQ:List Aj:=[109,101,97,115,117,114,101]
def QH:List Aj:=[99,97,114,114,121]
def NO:List Aj:=[118,101,114,115,105,111,110]
def VT:List Aj:=[115,117,109]
def QG:List Aj:=[99,108,111,115,101]
def SY:List Aj:=[107,105,110,100]
def QF:List Aj:=[108,101,97,115,116]
def SV:List Aj:=[116,105,109,101]
def VS:List Aj:=[119,104,111]
def QD:List Aj:=[115,116,97,116,101]
def SW:List Aj:=[116,101,120,116]
def NP:List Aj:=[115,111,117,110,100]
def Ja:List (List Aj):=[SX,QE,Pp,SZ,Pq]
def Pi:List (List Aj):=[NQ,QH,NO]
def LQ:List (List Aj):=[VT,QG,SY,QF,SV,VS,QD,SW,NP]
theorem Aag {w:List Aj} (h:Ph w ≠ -1):w ∈ Ja ++ Pi ++ LQ:=by
 refine Classical.byContradiction fun f=>h ?_
 simp only [Ja,Pi,LQ,SX,QE,Pp,SZ,Pq,NQ,QH,NO,VT,QG,SY,QF,SV,VS,QD,SW,NP,List.cons_append,List.nil_append,List.mem_cons,List.not_mem_nil,or_false,not_or] at f
 obtain ⟨h1,h2,h3,h4,g,v,h7,h8,l,ab,ah,ae,ai,m,s,u,ac⟩:=f
 have e {a:List Aj} (h:¬ w = a):(w == a) = false:=beq_eq_false_iff_ne.2 h
 unfold Ph GC Bj
 rw [e h1,e h2,e h3,e h4,e g,e v,e h7,e h8,e l,e ab,e ah,e ae,e ai,e m,e s,e u,e ac]
 rfl
theorem I9 {l:List (Int × Int)}:Cv l = true ↔ (1 ≤ l.length ∧ l.length ≤ 12) ∧ (∀ s ∈ l,CX s = true) ∧ l.Nodup:=by
 unfold Cv
 rw [Ck,DB,List.all_eq_true]
 constructor
 ·rintro ⟨h1,g⟩
  refine ⟨by omega,fun s hs=>?_,?_⟩
  ·obtain ⟨k,h⟩:=List.getElem?_of_mem hs
   have:=g k (List.mem_range.2 (List.getElem?_eq_some_iff.1 h).1)
   rw [Oh h,Ck] at this
   exact this.1
  ·rw [List.nodup_iff_pairwise_ne,List.pairwise_iff_getElem]
   intro i j hi v ad e
   have:=g j (List.mem_range.2 v)
   rw [Oh (Cb v),Ck,List.all_eq_true] at this
   have f:=this.2 l[i] (List.mem_take_iff_getElem.2 ⟨i,by omega,rfl⟩)
   simp [e] at f
 ·rintro ⟨h1,g,f⟩
  refine ⟨by omega,fun k h=>?_⟩
  have m:=List.mem_range.1 h
  rw [Oh (Cb m),Ck,List.all_eq_true]
  refine ⟨g _ (List.getElem_mem m),fun u hu=>?_⟩
  obtain ⟨i,hi,rfl⟩:=List.mem_take_iff_getElem.1 hu
  rw [List.nodup_iff_pairwise_ne,List.pairwise_iff_getElem] at f
  have:=f i k (by omega) m (by omega)
  simpa using fun e=>this e.symm
theorem Dc {l:List (Int × Int)} (h:Cv l = true):1 ≤ l.length ∧ l.length ≤ 12:=(I9.1 h).1
def P4 (l:List (Int × Int)):List (Int × Int) × Bool:=if Cv l = true then (l,true) else ([],false)
theorem Va (l:List (Int × Int)) (e:l.length < 4611686018427387904):Hj l = some (P4 l):=by
 unfold Hj P4
 rw [J7 l e,Aa]
 cases Cv l <;> rfl
theorem Si (l:List (Int × Int)) (e:l.length < 4611686018427387904):Gn l = some (P4 l):=by
 unfold Gn P4
 rw [GV l e,Aa]
 cases Cv l <;> rfl
def Nk (s:Int × Int):Int × Int:=(1280 - s.1,s.2)
theorem Ac0 {l:List (Int × Int)} (h:Cv l = true):Cv (l.map Nk) = true:=by
 obtain ⟨h1,m,f⟩:=I9.1 h
 refine I9.2 ⟨by simpa using h1,fun s v=>?_,?_⟩
 ·obtain ⟨u,g,rfl⟩:=List.mem_map.1 v
  have:=FP.1 (m u g)
  exact FP.2 ⟨by unfold Nk; dsimp only; omega,this.2⟩
 ·rw [List.nodup_iff_pairwise_ne,List.pairwise_map]
  rw [List.nodup_iff_pairwise_ne] at f
  refine f.imp fun {a b} hab e=>hab ?_
  obtain ⟨a1,a2⟩:=a
  obtain ⟨b1,b2⟩:=b
  simp only [Nk,Prod.mk.injEq] at e ⊢
  omega
theorem Sw {l:List (Int × Int)} (h:Cv l = true):HH l = some (l.map Nk,true):=by
 obtain ⟨h1,g,h3⟩:=I9.1 h
 unfold HH
 rw [J7 l (by omega),Aa,h,if_neg (by simp)]
 rw [VL (DM l) l (fun s=>if CX s = true then some (Nk s) else none) (fun m=>some (m,true)) none (by omega) (fun m k u x f ha=>?_) (fun m u ha=>?_)]
 ·have:IW (fun s=>if CX s = true then some (Nk s) else none) l = some (l.map Nk):=by
   clear h h1 h3
   induction l with
   | nil=>rfl
   | cons a t v=>rw [IW,if_pos (g a (List.mem_cons_self ..)),Aa,v (fun s e=>g s (List.mem_cons_of_mem _ e))]; rfl
  rw [this]
 ·have hk:=(List.getElem?_eq_some_iff.1 f).1
  have e:=g x (List.mem_of_getElem? f)
  have ac:=FP.1 e
  rw [DM,if_pos (by simp; omega),AX,f,Aa,if_pos e]
  unfold KJ
  rw [Aa,Bm (by simp; omega),Aa,AC (by omega),A8 (by omega) (by omega)]
  rfl
 ·rw [DM,if_neg (by simp)]
theorem S6 {l:List (Int × Int)} (h:Cv l = true):HN l = some (l.map Nk,true):=by
 obtain ⟨h1,g,h3⟩:=I9.1 h
 unfold HN
 rw [GV l (by omega),Aa,h,if_neg (by simp)]
 rw [VL (DU l) l (fun s=>if CX s = true then some (Nk s) else none) (fun m=>some (m,true)) none (by omega) (fun m k u x f ha=>?_) (fun m u ha=>?_)]
 ·have:IW (fun s=>if CX s = true then some (Nk s) else none) l = some (l.map Nk):=by
   clear h h1 h3
   induction l with
   | nil=>rfl
   | cons a t v=>rw [IW,if_pos (g a (List.mem_cons_self ..)),Aa,v (fun s e=>g s (List.mem_cons_of_mem _ e))]; rfl
  rw [this]
 ·have hk:=(List.getElem?_eq_some_iff.1 f).1
  have e:=g x (List.mem_of_getElem? f)
  have ac:=FP.1 e
  rw [DU,if_pos (by simp; omega),AX,f,Aa,if_pos e]
  rw [Bm (by simp; omega),Aa,AC (by omega),A8 (by omega) (by omega)]
  rfl
 ·rw [DU,if_neg (by simp)]
def L4 (l:List (Int × Int)) (p:Int) (s:Int × Int):List (Int × Int) × Bool:=if BK p 0 ((l.length:Int) - 1) = true then P4 (BE l p s) else ([],false)
theorem Q3 {l:List (Int × Int)} (h:Cv l = true) (p:Int) (s:Int × Int):GF l p s = some (L4 l p s):=by
 have m:=Dc h
 unfold GF Mv Bj Gr L4
 dsimp only
 rw [J7 l (by omega),h,Aa,if_pos rfl,CU,A8 (by omega) (by omega),Aa,Aa]
 cases f:BK p 0 ((l.length:Int) - 1) with
 | false=>rfl
 | true =>
  have g:=DB.1 f
  have e:p.toNat < l.length:=by omega
  rw [if_neg (by simp),Bm (by simp; omega),Aa,Aa,List.nil_append,Iy g.1,Cb e,Aa,Va _ (by unfold BE; simp; omega),Aa,if_pos rfl]
theorem Ab7 {l:List (Int × Int)} {p:Int} {s:Int × Int} (e:p.toNat < l.length) (f:CX s = false):P4 (BE l p s) = ([],false):=by
 unfold P4 BE
 rw [if_neg]
 intro h
 have:=(I9.1 h).2.1 s (List.mem_iff_getElem.2 ⟨p.toNat,by simpa using e,by simp⟩)
 rw [f] at this
 cases this
theorem Q4 {l:List (Int × Int)} (h:Cv l = true) (p:Int) (s:Int × Int):GG l p s = some (L4 l p s):=by
 have u:=Dc h
 unfold GG Bj L4
 dsimp only
 rw [GV l (by omega),h,Aa,if_neg (by simp),CT,A8 (by omega) (by omega),Aa,L6]
 cases f:BK p 0 ((l.length:Int) - 1) with
 | false=>rfl
 | true =>
  have m:=DB.1 f
  have e:p.toNat < l.length:=by omega
  rw [if_neg (by simp),Aa,if_pos rfl]
  cases g:CX s with
  | false=>rw [Ab7 e g]; rfl
  | true=>rw [if_neg (by simp),Bm (by simp; omega),Aa,List.nil_append,Iy m.1,Cb e,Aa,Si _ (by unfold BE; simp; omega),Aa]
theorem ER {x:Int} (h1:0 ≤ x) (e:x < 18446744073709551616):Bh x = x:=by
 unfold Bh IntKind.wrap
 simp only [IntKind.bits,IntKind.signed]
 simp only [ge_iff_le,Bool.false_and,Bool.false_eq_true,if_false]
 omega
theorem ZE (x:Int):Bh x = x % 18446744073709551616:=by
 unfold Bh IntKind.wrap
 simp only [IntKind.bits,IntKind.signed]
 simp only [ge_iff_le,Bool.false_and,Bool.false_eq_true,if_false]
 omega
theorem Ti (n:Nat):Br .u64 (n:Int) 32 = ((n / 4294967296:Nat):Int):=by
 unfold Br
 have e:(2:Int) ^ (min (32:Int).toNat IntKind.u64.bits) = 4294967296:=by decide
 rw [e,Int.fdiv_eq_ediv_of_nonneg _ (by decide)]
 omega
theorem Y5 (n:Nat) (h:n < 18446744073709551616):B3 .u64 (n:Int) 4294967295 = ((n % 4294967296:Nat):Int):=by
 have f:BitVec.ofInt 64 (n:Int) = BitVec.ofNat 64 n:=BitVec.ofInt_natCast ..
 have e:BitVec.ofInt 64 4294967295 = BitVec.ofNat 64 4294967295:=rfl
 have g:(BitVec.ofNat 64 n &&& BitVec.ofNat 64 4294967295).toNat = n % 4294967296:=by
  rw [BitVec.toNat_and,BitVec.toNat_ofNat,BitVec.toNat_ofNat,Nat.mod_eq_of_lt (show n < 2 ^ 64 by omega),Nat.mod_eq_of_lt (show 4294967295 < 2 ^ 64 by omega)]
  exact Nat.and_two_pow_sub_one_eq_mod n 32
 show Bh ((BitVec.ofInt 64 (n:Int) &&& BitVec.ofInt 64 4294967295).toNat:Int) = _
 rw [f,e,g,ER (by omega) (by omega)]
theorem T8 (x y:Nat) (e:x < 18446744073709551616) (f:y < 18446744073709551616):JX (x:Int) (y:Int) = some (((x * y / 18446744073709551616:Nat):Int),((x * y % 18446744073709551616:Nat):Int)):=by
 obtain ⟨h1,g,u,s⟩:=Go.Lib.mul64_hi x y e f
 have h:x * y / 18446744073709551616 < 18446744073709551616:=by
  have:x * y < 18446744073709551616 * 18446744073709551616:=Nat.mul_lt_mul'' e f
  omega
 unfold JX
 rw [Ti,Ti,Y5 x e,Y5 y f]
 simp only [← Int.natCast_mul,ER (x:=((x % 4294967296 * (y % 4294967296):Nat):Int)) (by omega) (by omega),Ti]
 have m:=Go.Lib.half_mul_le (a:=x / 4294967296) (b:=y / 4294967296) (by omega) (by omega)
 have v:=Go.Lib.half_mul_le (a:=x / 4294967296) (b:=y % 4294967296) (by omega) (by omega)
 have l:=Go.Lib.half_mul_le (a:=x % 4294967296) (b:=y / 4294967296) (by omega) (by omega)
 rw [ZE ((x * y:Nat):Int)]
 generalize (x / 4294967296) * (y / 4294967296) = A at *
 generalize (x / 4294967296) * (y % 4294967296) = B at *
 generalize (x % 4294967296) * (y / 4294967296) = C at *
 generalize (x % 4294967296) * (y % 4294967296) = D at *
 rw [ER (x:=(A:Int)) (by omega) (by omega),ER (x:=(B:Int)) (by omega) (by omega),ER (x:=(C:Int)) (by omega) (by omega)]
 simp only [← Int.natCast_add]
 rw [ER (x:=((B + D / 4294967296:Nat):Int)) (by omega) (by omega),Ti,Y5 _ g]
 simp only [← Int.natCast_add]
 rw [ER (x:=(((B + D / 4294967296) % 4294967296 + C:Nat):Int)) (by omega) (by omega),Ti,ER (x:=((A + (B + D / 4294967296) / 4294967296:Nat):Int)) (by omega) (by omega)]
 simp only [← Int.natCast_add]
 rw [ER (by omega) (by omega)]
 congr 2
 omega
theorem Adi (P Q:Nat):(if decide (((P / 18446744073709551616:Nat):Int) < ((Q / 18446744073709551616:Nat):Int)) = true then some true
  else if (((P / 18446744073709551616:Nat):Int) == ((Q / 18446744073709551616:Nat):Int)) = true then some (decide (((P % 18446744073709551616:Nat):Int) < ((Q % 18446744073709551616:Nat):Int))) else some false) = some (decide ((P:Int) < (Q:Int))):=by
 by_cases h1:P / 18446744073709551616 < Q / 18446744073709551616
 ·rw [if_pos (by simp; omega)]
  congr 1
  symm
  simp
  omega
 ·rw [if_neg (by simp; omega)]
  by_cases e:P / 18446744073709551616 = Q / 18446744073709551616
  ·rw [if_pos (by simp; omega)]
   congr 1
   rw [Bool.eq_iff_iff]
   simp
   omega
  ·rw [if_neg (by simp; omega)]
   congr 1
   symm
   simp
   omega
def RB (a b c d:Int):Bool:=decide (a * d < c * b)
theorem RH (a b c d:Int) (g:0 ≤ a) (m:a < 18446744073709551616) (h:0 ≤ b) (l:b < 18446744073709551616) (f:0 ≤ c) (s:c < 18446744073709551616) (e:0 ≤ d) (u:d < 18446744073709551616) :
  Ft a b c d = some (RB a b c d):=by
 obtain ⟨a,rfl⟩:=Int.eq_ofNat_of_zero_le g
 obtain ⟨b,rfl⟩:=Int.eq_ofNat_of_zero_le h
 obtain ⟨c,rfl⟩:=Int.eq_ofNat_of_zero_le f
 obtain ⟨d,rfl⟩:=Int.eq_ofNat_of_zero_le e
 unfold Ft Bj RB
 rw [ER g m,ER e u,ER f s,ER h l,T8 a d (by omega) (by omega),Aa,T8 c b (by omega) (by omega),Aa]
 simp only [← Int.natCast_mul]
 exact Adi _ _
theorem Xt (a b c d:Int) (e:0 ≤ a) (av:a ≤ 4000000000000000000) (f:0 < b) (ad:b ≤ 3000000000) (m:0 ≤ c) (ak:c ≤ 4000000000000000000) (l:0 < d) (ah:d ≤ 3000000000) :
  Kt a b c d = some (RB a b c d):=by
 have g:¬ b = 0:=by omega
 have u:¬ d = 0:=by omega
 unfold Kt RB
 rw [if_neg g,if_neg u,if_neg g,if_neg u,if_neg g,if_neg u,Int.tdiv_eq_ediv_of_nonneg e,Int.tdiv_eq_ediv_of_nonneg m,Int.tmod_eq_emod_of_nonneg e,Int.tmod_eq_emod_of_nonneg m]
 have e1:=Int.emod_add_mul_ediv a b
 have e2:=Int.emod_add_mul_ediv c d
 have r1:=Int.emod_nonneg a g
 have r2:=Int.emod_lt_of_pos a f
 have r3:=Int.emod_nonneg c u
 have r4:=Int.emod_lt_of_pos c l
 have q1:=Int.ediv_nonneg e (Int.le_of_lt f)
 have q2:=Int.ediv_nonneg m (Int.le_of_lt l)
 have q3:a / b ≤ a:=Int.ediv_le_self _ e
 have q4:c / d ≤ c:=Int.ediv_le_self _ m
 generalize a / b = p at *
 generalize c / d = q at *
 generalize a % b = r at *
 generalize c % d = s at *
 have hP:0 < b * d:=Int.mul_pos f l
 have ao:b * d ≤ 3000000000 * 3000000000:=Int.mul_le_mul ad ah (by omega) (by omega)
 have f1:a * d = r * d + b * d * p:=by rw [← e1,Int.add_mul,Int.mul_assoc,Int.mul_assoc,Int.mul_comm p d]
 have f2:c * b = s * b + b * d * q:=by rw [← e2,Int.add_mul,Int.mul_comm b d,Int.mul_assoc,Int.mul_assoc,Int.mul_comm q b]
 have g1:0 ≤ r * d:=Int.mul_nonneg r1 (by omega)
 have g2:r * d < b * d:=Int.mul_lt_mul_of_pos_right r2 l
 have g3:0 ≤ s * b:=Int.mul_nonneg r3 (by omega)
 have g4:s * b < d * b:=Int.mul_lt_mul_of_pos_right r4 f
 rw [Int.mul_comm d b] at g4
 have v:∀ x y:Int,x + 1 ≤ y → b * d * x + b * d ≤ b * d * y:=fun x y h=>by
  have:=Int.mul_le_mul_of_nonneg_left h (Int.le_of_lt hP)
  rwa [Int.mul_add,Int.mul_one] at this
 rw [A8 (x:=p) (by omega) (by omega),A8 (x:=q) (by omega) (by omega),A8 (x:=r * d) (by omega) (by omega),A8 (x:=s * b) (by omega) (by omega)]
 by_cases h1:p = q
 ·subst h1
  rw [if_neg (by simp)]
  congr 1
  rw [Bool.eq_iff_iff]
  simp
  omega
 ·rw [if_pos (by simpa using h1)]
  congr 1
  rw [Bool.eq_iff_iff]
  simp
  rcases Int.lt_or_gt_of_ne h1 with h2 | h2
  ·have:=v p q (by omega)
   omega
  ·have:=v q p (by omega)
   omega
def Dh (n s:Nat):Nat:=(List.range n).foldl (fun a k=>a + (s.testBit k).toNat) 0
theorem Iq (n s:Nat):Dh (n + 1) s = Dh n s + (s.testBit n).toNat:=by
 unfold Dh
 rw [List.range_succ,List.foldl_append]
 rfl
theorem Vg (n:Nat):Dh n 0 = 0:=by
 induction n with
 | zero=>rfl
 | succ n e=>rw [Iq,e]; simp
theorem LV (n s:Nat):Dh n s ≤ n:=by
 induction n with
 | zero=>exact Nat.le_refl _
 | succ n e =>
  rw [Iq]
  have:(s.testBit n).toNat ≤ 1:=by cases s.testBit n <;> simp
  omega
theorem VY (s k i:Nat):(s ^^^ 2 ^ k).testBit i = (s.testBit i ^^ decide (k = i)):=by
 rw [Nat.testBit_xor,Nat.testBit_two_pow]
theorem YZ {n s t:Nat} (h:∀ i,i < n → s.testBit i = t.testBit i):Dh n s = Dh n t:=by
 induction n with
 | zero=>rfl
 | succ n e=>rw [Iq,Iq,e (fun i f=>h i (by omega)),h n (by omega)]
theorem NX {n s k:Nat} (l:k < n) (h:s.testBit k = true):Dh n (s ^^^ 2 ^ k) + 1 = Dh n s:=by
 induction n with
 | zero=>omega
 | succ n f =>
  rw [Iq,Iq,VY]
  by_cases e:k = n
  ·subst e
   rw [h,YZ (t:=s) (fun i g=>by rw [VY,decide_eq_false (by omega)]; simp)]
   simp
  ·have:=f (by omega)
   simp [e]
   omega
theorem L2:∀ {k s:Nat},s.testBit k = true → s ^^^ 2 ^ k < s
 | 0,s,h=>by
  have h1:=Nat.xor_div_two (a:=s) (b:=2 ^ 0)
  have f:s % 2 = 1:=by simpa [Nat.testBit_zero] using h
  have e:¬ ((s ^^^ 2 ^ 0) % 2 = 1):=by rw [Nat.xor_mod_two_eq_one,f]; simp
  simp only [Nat.pow_zero] at h1 e ⊢
  rw [show (1:Nat) / 2 = 0 by rfl,Nat.xor_zero] at h1
  omega
 | k + 1,s,h=>by
  rw [Nat.testBit_succ] at h
  have g:=L2 h
  have h1:=Nat.xor_div_two (a:=s) (b:=2 ^ (k + 1))
  rw [show 2 ^ (k + 1) / 2 = 2 ^ k by rw [Nat.pow_succ]; omega] at h1
  omega
theorem N7 {n s:Nat} (f:s < 2 ^ n) (g:0 < s):∃ k,k < n ∧ s.testBit k = true:=by
 obtain ⟨k,e⟩:=Nat.exists_testBit_of_ne_zero (by omega:s ≠ 0)
 refine ⟨k,?_,e⟩
 rcases Nat.lt_or_ge k n with h | h
 ·exact h
 ·have:=Nat.testBit_lt_two_pow (Nat.lt_of_lt_of_le f (Nat.pow_le_pow_right (by omega) h))
  rw [e] at this
  cases this
theorem Abs {n s:Nat} (f:s < 2 ^ n) (h:0 < Dh n s):0 < s:=by
 rcases Nat.eq_zero_or_pos s with e | e
 ·rw [e,Vg] at h; omega
 ·exact e
theorem P3 {n s i:Nat} (f:s < 2 ^ n) (e:i < n):(2 ^ n - 1 - s).testBit i = !s.testBit i:=by
 rw [show 2 ^ n - 1 - s = 2 ^ n - (s + 1) by omega,Nat.testBit_two_pow_sub_succ f]
 simp [e]
theorem U2 {n s:Nat} (e:s < 2 ^ n):∀ m,m ≤ n → Dh m (2 ^ n - 1 - s) + Dh m s = m
 | 0,_=>rfl
 | m + 1,h=>by
  have:=U2 e m (by omega)
  rw [Iq,Iq,P3 e (by omega)]
  cases s.testBit m <;> simp <;> omega
theorem WQ {n s k:Nat} (g:s < 2 ^ n) (m:k < n) (h:s.testBit k = true):(2 ^ n - 1 - s) ||| 2 ^ k = 2 ^ n - 1 - (s ^^^ 2 ^ k):=by
 have l:=L2 h
 apply Nat.eq_of_testBit_eq
 intro i
 rw [Nat.testBit_or,Nat.testBit_two_pow]
 rcases Nat.lt_or_ge i n with f | f
 ·rw [P3 g f,P3 (by omega) f,VY]
  by_cases e:k = i
  ·subst e; simp [h]
  ·simp [e]
 ·have p:=Nat.pow_le_pow_right (n:=2) (by omega) f
  rw [Nat.testBit_lt_two_pow (by omega:2 ^ n - 1 - s < 2 ^ i),Nat.testBit_lt_two_pow (by omega:2 ^ n - 1 - (s ^^^ 2 ^ k) < 2 ^ i)]
  simp
  omega
def mf (g:Nat → Bool) (v:Nat → Int) (a:Int) (n:Nat):Int:=(List.range n).foldl (fun a k=>if g k then min a (v k) else a) a
theorem NI (g:Nat → Bool) (v:Nat → Int) (a:Int) (n:Nat):mf g v a (n + 1) = if g n then min (mf g v a n) (v n) else mf g v a n:=by
 unfold mf
 rw [List.range_succ,List.foldl_append]
 rfl
theorem RA (g:Nat → Bool) (v:Nat → Int) (a:Int):∀ (n k:Nat),k < n → g k = true → mf g v a n ≤ v k
 | n + 1,k,hk,hg=>by
  rw [NI]
  by_cases e:k = n
  ·subst e; rw [if_pos hg]; omega
  ·have:=RA g v a n k (by omega) hg
   split <;> omega
theorem Tu (g:Nat → Bool) (v:Nat → Int) (a:Int):∀ (n:Nat),mf g v a n = a ∨ ∃ k,k < n ∧ g k = true ∧ mf g v a n = v k
 | 0=>.inl rfl
 | n + 1=>by
  rw [NI]
  have m:=Tu g v a n
  by_cases f:g n = true
  ·rw [if_pos f]
   rcases Int.le_total (mf g v a n) (v n) with h | h
   ·rw [Int.min_eq_left h]
    exact m.imp id fun ⟨k,h1,l,e⟩=>⟨k,by omega,l,e⟩
   ·rw [Int.min_eq_right h]
    exact .inr ⟨n,by omega,f,rfl⟩
  ·rw [if_neg f]
   exact m.imp id fun ⟨k,h1,l,e⟩=>⟨k,by omega,l,e⟩
theorem Ac1 {g:Nat → Bool} {v:Nat → Int} {a b:Int} {n k:Nat} (f:k < n) (e:g k = true) (ha:v k < a) (hb:v k < b):mf g v a n = mf g v b n:=by
 have h1:=RA g v a n k f e
 have h2:=RA g v b n k f e
 rcases Tu g v a n with h | ⟨i,s,aa,h⟩
 ·omega
 ·rcases Tu g v b n with l | ⟨j,u,m,l⟩
  ·omega
  ·have h3:=RA g v a n j u m
   have h4:=RA g v b n i s aa
   omega
theorem W3 {g f:Nat → Bool} {v l:Nat → Int} {a:Int}:∀ {n:Nat},(∀ k,k < n → g k = f k ∧ (g k = true → v k = l k)) → mf g v a n = mf f l a n
 | 0,_=>rfl
 | n + 1,h=>by
  have h1:=h n (by omega)
  rw [NI,NI,W3 (fun k m=>h k (by omega)),← h1.1]
  by_cases e:g n = true
  ·rw [if_pos e,if_pos e,h1.2 e]
  ·rw [if_neg e,if_neg e]
def Vu:Int:=1000000000
def Qo (n:Nat) (c:Nat → Nat → Int):Nat → List Int
 | 0=>[0]
 | m + 1=>Qo n c m ++ [mf (m + 1).testBit (fun k=>c (n - Dh n (m + 1)) k + (Qo n c m).getD ((m + 1) ^^^ 2 ^ k) 0) Vu n]
def VV (n:Nat) (c:Nat → Nat → Int) (s:Nat):Int:=(Qo n c s).getD s 0
theorem HO (n:Nat) (c:Nat → Nat → Int):∀ m,(Qo n c m).length = m + 1
 | 0=>rfl
 | m + 1=>by rw [Qo,CH,HO n c m]; rfl
theorem R5 (n:Nat) (c:Nat → Nat → Int) {s:Nat}:∀ {m:Nat},s ≤ m → (Qo n c m)[s]? = some (VV n c s)
 | 0,h=>by
  have:s = 0:=by omega
  subst this; rfl
 | m + 1,h=>by
  by_cases e:s = m + 1
  ·subst e
   have f:=HO n c (m + 1)
   unfold VV
   rw [List.getD_eq_getElem?_getD,Cb (by omega)]
   rfl
  ·rw [Qo,List.getElem?_append_left (by rw [HO]; omega)]
   exact R5 n c (by omega)
theorem RG (n:Nat) (c:Nat → Nat → Int):VV n c 0 = 0:=rfl
theorem VN (n:Nat) (c:Nat → Nat → Int) {s:Nat} (h:0 < s):VV n c s = mf s.testBit (fun k=>c (n - Dh n s) k + VV n c (s ^^^ 2 ^ k)) Vu n:=by
 cases s with
 | zero=>omega
 | succ m =>
  conv=>lhs; unfold VV
  rw [Qo,List.getD_eq_getElem?_getD,List.getElem?_append_right (by rw [HO]; omega),HO]
  simp only [Nat.sub_self,List.getElem?_cons_zero,Option.getD_some]
  refine W3 fun k f=>⟨rfl,fun e=>?_⟩
  have:=L2 e
  rw [List.getD_eq_getElem?_getD,R5 n c (by omega)]
  rfl
theorem XT {n:Nat} (hn:n ≤ 12) {c:Nat → Nat → Int} (hc:∀ i k,i < n → k < n → 0 ≤ c i k ∧ c i k ≤ 2100000):∀ (d s:Nat),s ≤ d → s < 2 ^ n → (0 ≤ VV n c s ∧ VV n c s ≤ 2100000 * (Dh n s:Int)) ∧ (0 < s → ∃ k,k < n ∧ s.testBit k = true ∧ c (n - Dh n s) k + VV n c (s ^^^ 2 ^ k) = VV n c s):=by
 intro d
 induction d with
 | zero =>
  intro s h v
  have:s = 0:=by omega
  subst this
  exact ⟨⟨by rw [RG]; omega,by rw [RG]; omega⟩,fun h=>by omega⟩
 | succ d ih =>
  intro s h v
  by_cases l:0 < s
  ·obtain ⟨k,f,e⟩:=N7 v l
   have ak:=LV n s
   have aa:∀ k,k < n → s.testBit k = true → (0 ≤ c (n - Dh n s) k + VV n c (s ^^^ 2 ^ k)) ∧ c (n - Dh n s) k + VV n c (s ^^^ 2 ^ k) ≤ 2100000 * (Dh n s:Int):=by
    intro k f e
    have hx:=L2 e
    have hp:=NX f e
    have h1:=(ih (s ^^^ 2 ^ k) (by omega) (by omega)).1
    have h2:=hc (n - Dh n s) k (by omega) f
    omega
   have ad:=RA s.testBit (fun k=>c (n - Dh n s) k + VV n c (s ^^^ 2 ^ k)) Vu n k f e
   rw [← VN n c l] at ad
   have ht:=aa k f e
   have m:=Tu s.testBit (fun k=>c (n - Dh n s) k + VV n c (s ^^^ 2 ^ k)) Vu n
   rw [← VN n c l] at m
   rcases m with g | ⟨j,hj,u,g⟩
   ·unfold Vu at g; omega
   ·have aj:=aa j hj u
    exact ⟨by omega,fun _=>⟨j,hj,u,g.symm⟩⟩
  ·have:s = 0:=by omega
   subst this
   exact ⟨⟨by rw [RG]; omega,by rw [RG]; omega⟩,fun h=>by omega⟩
theorem VO {n:Nat} (e:n ≤ 12) {c:Nat → Nat → Int} (f:∀ i k,i < n → k < n → 0 ≤ c i k ∧ c i k ≤ 2100000) {s:Nat} (g:s < 2 ^ n):0 ≤ VV n c s ∧ VV n c s ≤ 25200000:=by
 have h1:=(XT e f s s (Nat.le_refl _) g).1
 have h:=LV n s
 omega
def KE (n:Nat) (c:Nat → Nat → Int) (m:Nat):List Int:=List.replicate (2 ^ n - 1 - m) 0 ++ (Qo n c m).reverse
theorem Qe (n:Nat) (c:Nat → Nat → Int) {m:Nat} (h:m < 2 ^ n):(KE n c m).length = 2 ^ n:=by
 unfold KE
 rw [CH,List.length_replicate,List.length_reverse,HO]
 omega
theorem MJ (n:Nat) (c:Nat → Nat → Int) {m s:Nat} (h:m < 2 ^ n) (e:s ≤ m):(KE n c m)[2 ^ n - 1 - s]? = some (VV n c s):=by
 unfold KE
 rw [List.getElem?_append_right (by simp; omega),List.length_replicate,List.getElem?_reverse (by rw [HO]; omega),HO,show m + 1 - 1 - (2 ^ n - 1 - s - (2 ^ n - 1 - m)) = s by omega]
 exact R5 n c e
theorem Aax (n:Nat) (c:Nat → Nat → Int) {m:Nat} (h:m + 1 < 2 ^ n):(KE n c m).set (2 ^ n - 1 - (m + 1)) (VV n c (m + 1)) = KE n c (m + 1):=by
 apply List.ext_getElem?
 intro i
 have s:=Qe n c (m:=m) (by omega)
 have l:=Qe n c h
 rcases Nat.lt_trichotomy i (2 ^ n - 1 - (m + 1)) with g | g | g
 ·rw [List.getElem?_set_ne (by omega)]
  unfold KE
  rw [List.getElem?_append_left (by simp; omega),List.getElem?_append_left (by simp; omega)]
  rw [List.getElem?_replicate,List.getElem?_replicate,if_pos (by omega),if_pos (by omega)]
 ·subst g
  rw [List.getElem?_set_self (by omega),MJ n c h (Nat.le_refl _)]
 ·rw [List.getElem?_set_ne (by omega)]
  rcases Nat.lt_or_ge i (2 ^ n) with f | f
  ·have e:i = 2 ^ n - 1 - (2 ^ n - 1 - i):=by omega
   rw [e,MJ n c (by omega) (by omega),MJ n c h (by omega)]
  ·rw [List.getElem?_eq_none (by rw [s]; exact f),List.getElem?_eq_none (by rw [l]; exact f)]
theorem T7 (n:Nat):BitVec.ofInt 64 (n:Int) = BitVec.ofNat 64 n:=BitVec.ofInt_natCast ..
theorem Z8 (k:Nat):((2:Int) ^ k) = ((2 ^ k:Nat):Int):=by rw [Int.natCast_pow]; rfl
theorem L7 {k:Nat} (h:k ≤ 30):KD .i64 1 (k:Int) = ((2 ^ k:Nat):Int):=by
 have e:2 ^ k ≤ 2 ^ 30:=Nat.pow_le_pow_right (by omega) h
 show Ag (1 * 2 ^ (min ((k:Int).toNat) 64)) = _
 rw [Int.toNat_natCast,Nat.min_eq_left (by omega),Int.one_mul,Z8]
 generalize 2 ^ k = P at e ⊢
 exact A8 (by omega) (by omega)
theorem Adj {s k:Nat} (h:k ≤ 30):Br .i64 (s:Int) (k:Int) = ((s / 2 ^ k:Nat):Int):=by
 show Int.fdiv (s:Int) (2 ^ (min ((k:Int).toNat) 64)) = _
 rw [Int.toNat_natCast,Nat.min_eq_left (by omega),Z8,Int.fdiv_eq_ediv_of_nonneg _ (Int.natCast_nonneg _)]
 rfl
theorem Ab1 {x:Nat} (h:x < 4611686018427387904):B3 .i64 (x:Int) 1 = ((x % 2:Nat):Int):=by
 have e:(BitVec.ofNat 64 x &&& BitVec.ofNat 64 1).toNat = x % 2:=by
  rw [BitVec.toNat_and,BitVec.toNat_ofNat,BitVec.toNat_ofNat,Nat.mod_eq_of_lt (show x < 2 ^ 64 by omega),Nat.mod_eq_of_lt (show 1 < 2 ^ 64 by omega)]
  exact Nat.and_two_pow_sub_one_eq_mod x 1
 show Ag ((BitVec.ofInt 64 (x:Int) &&& BitVec.ofInt 64 1).toNat:Int) = _
 rw [T7,show BitVec.ofInt 64 1 = BitVec.ofNat 64 1 by rfl,e,A8 (by omega) (by omega)]
theorem Y1 {x y:Nat} (g:x < 1073741824) (f:y < 1073741824):Tr .i64 (x:Int) (y:Int) = ((x ||| y:Nat):Int):=by
 have e:x ||| y < 2 ^ 30:=Nat.or_lt_two_pow (by omega) (by omega)
 show Ag ((BitVec.ofInt 64 (x:Int) ||| BitVec.ofInt 64 (y:Int)).toNat:Int) = _
 rw [T7,T7,BitVec.toNat_or,BitVec.toNat_ofNat,BitVec.toNat_ofNat,Nat.mod_eq_of_lt (show x < 2 ^ 64 by omega),Nat.mod_eq_of_lt (show y < 2 ^ 64 by omega),A8 (by omega) (by omega)]
theorem WV {x y:Nat} (g:x < 1073741824) (f:y < 1073741824):Sq .i64 (x:Int) (y:Int) = ((x ^^^ y:Nat):Int):=by
 have e:x ^^^ y < 2 ^ 30:=Nat.xor_lt_two_pow (by omega) (by omega)
 show Ag ((BitVec.ofInt 64 (x:Int) ^^^ BitVec.ofInt 64 (y:Int)).toNat:Int) = _
 rw [T7,T7,BitVec.toNat_xor,BitVec.toNat_ofNat,BitVec.toNat_ofNat,Nat.mod_eq_of_lt (show x < 2 ^ 64 by omega),Nat.mod_eq_of_lt (show y < 2 ^ 64 by omega),A8 (by omega) (by omega)]
theorem WW {s k:Nat} (f:s < 1073741824) (h:k ≤ 30):B3 .i64 (Br .i64 (s:Int) (k:Int)) 1 = (((s.testBit k).toNat:Nat):Int):=by
 have:s / 2 ^ k ≤ s:=Nat.div_le_self _ _
 rw [Adj h,Ab1 (by omega),Nat.testBit_eq_decide_div_mod_eq]
 have:s / 2 ^ k % 2 < 2:=Nat.mod_lt _ (by omega)
 by_cases e:s / 2 ^ k % 2 = 1
 ·simp [e]
 ·have:s / 2 ^ k % 2 = 0:=by omega
  simp [this]
theorem U6 {s k:Nat} (e:s < 1073741824) (h:k ≤ 30):(B3 .i64 (Br .i64 (s:Int) (k:Int)) 1 == 1) = s.testBit k:=by
 rw [WW e h]; cases s.testBit k <;> rfl
theorem XS {s k:Nat} (e:s < 1073741824) (h:k ≤ 30):(B3 .i64 (Br .i64 (s:Int) (k:Int)) 1 == 0) = !s.testBit k:=by
 rw [WW e h]; cases s.testBit k <;> rfl
theorem EI {S R:Type} (f:Nat → S → Int → Af R) (n:Nat) (e:Nat → S) (rest:Af R) (hn:n < 4611686018427387904) {j:Nat} (hj:j ≤ n)
  (hs:∀ m k,j ≤ k → k < n → f (m + 1) (e k) (k:Int) = f m (e (k + 1)) ((k + 1:Nat):Int)) (s:∀ m,f (m + 1) (e n) (n:Int) = rest):f FU (e j) (j:Int) = rest:=by
 have u:∀ d k m,n - k = d → j ≤ k → k ≤ n → d < m → f m (e k) (k:Int) = rest:=by
  intro d
  induction d with
  | zero =>
   intro k m l g h hm
   have:k = n:=by omega
   subst this
   cases m with
   | zero=>omega
   | succ m=>exact s m
  | succ d v =>
   intro k m l g h hm
   cases m with
   | zero=>omega
   | succ m=>rw [hs m k g (by omega)]; exact v (k + 1) m (by omega) (by omega) (by omega) (by omega)
 exact u (n - j) j FU rfl (Nat.le_refl _) hj (D1 (by omega))
theorem Ac2 {S R:Type} (f:Nat → S → Int → Af R) (n:Nat) (g:Nat → Bool) (l:Nat → S) (rest u:Af R) (hn:n < 4611686018427387904)
  (hs:∀ m k,k < n → (∀ i,i < k → g i = true) → f (m + 1) (l k) (k:Int) = if g k = true then f m (l (k + 1)) ((k + 1:Nat):Int) else u) (he:∀ m,f (m + 1) (l n) (n:Int) = rest):f FU (l 0) 0 = if (List.range n).all g = true then rest else u:=by
 have ac:∀ d k m,n - k = d → k ≤ n → d < m → (∀ i,i < k → g i = true) → f m (l k) (k:Int) = if (List.range n).all g = true then rest else u:=by
  intro d
  induction d with
  | zero =>
   intro k m hd hk hm s
   have:k = n:=by omega
   subst this
   cases m with
   | zero=>omega
   | succ m=>rw [he,if_pos (List.all_eq_true.2 fun i v=>s i (List.mem_range.1 v))]
  | succ d ih =>
   intro k m hd hk hm s
   cases m with
   | zero=>omega
   | succ m =>
    rw [hs m k (by omega) s]
    by_cases h:g k = true
    ·rw [if_pos h]
     exact ih (k + 1) m (by omega) (by omega) (by omega) (fun i v=>by
      by_cases e:i = k
      ·subst e; exact h
      ·exact s i (by omega))
    ·rw [if_neg h,if_neg]
     intro ha
     exact h (List.all_eq_true.1 ha k (List.mem_range.2 (by omega)))
 exact ac n 0 FU rfl (by omega) (D1 hn) (fun i v=>by omega)
theorem Tv {R:Type} (f:Nat → Int → Af R) (n:Nat) (p:Nat → Bool) (e:Nat → Af R) (g:Af R) (hn:n < 4611686018427387904)
  (hs:∀ m k,k < n → f (m + 1) (k:Int) = if p k = true then e k else f m ((k + 1:Nat):Int)) (s:∀ m,f (m + 1) (n:Int) = g):f FU 0 = match (List.range n).find? p with
   | some k=>e k
   | none=>g:=by
 have u:∀ d k m,n - k = d → k ≤ n → d < m → f m (k:Int) = match (List.range' k d).find? p with
   | some k=>e k
   | none=>g:=by
  intro d
  induction d with
  | zero =>
   intro k m l hk hm
   have:k = n:=by omega
   subst this
   cases m with
   | zero=>omega
   | succ m=>rw [s]; rfl
  | succ d v =>
   intro k m l hk hm
   cases m with
   | zero=>omega
   | succ m =>
    rw [hs m k (by omega),List.range'_succ,List.find?_cons]
    by_cases h:p k = true
    ·rw [if_pos h,h]
    ·have h':p k = false:=by simpa using h
     rw [if_neg h,h']
     exact v (k + 1) m (by omega) (by omega) (by omega)
 have:=u n 0 FU rfl (by omega) (D1 hn)
 rw [List.range_eq_range']
 exact this
theorem Yf (u:Nat) (h:u < 4096):H9 (u:Int) = some (Dh 12 u:Int):=by
 have:∀ a:Nat,a < 64 → ∀ b:Nat,b < 64 → H9 ((64 * a + b:Nat):Int) = some (Dh 12 (64 * a + b):Int):=by decide +kernel
 have:=this (u / 64) (by omega) (u % 64) (by omega)
 rwa [Nat.div_add_mod] at this
structure CO (x:List (List Int)) (n:Nat) (c:Nat → Nat → Int):Prop where
 len:x.length = n
 row:∀ i,i < n → ∃ r,x[i]? = some r ∧ r.length = n ∧ ∀ k,k < n → r[k]? = some (c i k)
 bd:∀ i k,i < n → k < n → 0 ≤ c i k ∧ c i k ≤ 2100000
 n1:1 ≤ n
 n12:n ≤ 12
theorem O7 {n:Nat} (h:n ≤ 12):1 ≤ 2 ^ n ∧ 2 ^ n ≤ 4096:=⟨Nat.one_le_two_pow,Nat.pow_le_pow_right (n:=2) (by omega) h⟩
def JG (n:Nat) (c:Nat → Nat → Int) (m:Nat):List Int:=Qo n c m ++ List.replicate (2 ^ n - 1 - m) 0
theorem Oa (n:Nat) (c:Nat → Nat → Int) {m:Nat} (h:m < 2 ^ n):(JG n c m).length = 2 ^ n:=by
 unfold JG
 rw [CH,List.length_replicate,HO]
 omega
theorem LH (n:Nat) (c:Nat → Nat → Int) {m s:Nat} (e:s ≤ m):(JG n c m)[s]? = some (VV n c s):=by
 unfold JG
 rw [List.getElem?_append_left (by rw [HO]; omega)]
 exact R5 n c e
theorem Aab (n:Nat) (c:Nat → Nat → Int) {m:Nat} (h:m + 1 < 2 ^ n):(JG n c m).set (m + 1) (VV n c (m + 1)) = JG n c (m + 1):=by
 apply List.ext_getElem?
 intro i
 have l:=Oa n c (m:=m) (by omega)
 have g:=Oa n c h
 rcases Nat.lt_trichotomy i (m + 1) with f | f | f
 ·rw [List.getElem?_set_ne (by omega),LH n c (by omega),LH n c (by omega)]
 ·subst f
  rw [List.getElem?_set_self (by omega),LH n c (Nat.le_refl _)]
 ·rw [List.getElem?_set_ne (by omega)]
  unfold JG
  rw [List.getElem?_append_right (by rw [HO]; omega),List.getElem?_append_right (by rw [HO]; omega),HO,HO,List.getElem?_replicate,List.getElem?_replicate]
  by_cases e:i - (m + 1) < 2 ^ n - 1 - m
  ·rw [if_pos e,if_pos (by omega)]
  ·rw [if_neg e,if_neg (by omega)]
theorem Ke (a b:Int):EU a b = some (min a b):=by
 unfold EU
 by_cases h:a < b
 ·rw [if_pos (by simpa using h),Int.min_eq_left (by omega)]
 ·rw [if_neg (by simpa using h),Int.min_eq_right (by omega)]
theorem Abv (a b:Int):Fr a b = min a b:=by
 unfold Fr
 by_cases h:b < a
 ·rw [if_pos h,Int.min_eq_right (by omega)]
 ·rw [if_neg h,Int.min_eq_left (by omega)]
theorem YL (x:List (List Int)) {n:Nat} (f:x.length = n) (hn:n ≤ 12) {s:Nat} (v:s < 1073741824) (l:List Int) (e:List Int → Int → Af (List Int)) :
  Ez x (s:Int) l e FU 0 0 = Option.bind (AL l (s:Int)) fun h=>Option.bind (AL x ((n:Int) - (Dh n s:Int))) fun g=>D2 g (s:Int) e FU (BE l (s:Int) 1000000000) 0:=by
 have:=EI (Ez x (s:Int) l e) n (fun k=>(Dh k s:Int)) (Option.bind (AL l (s:Int)) fun h=>Option.bind (AL x ((n:Int) - (Dh n s:Int))) fun g=>D2 g (s:Int) e FU (BE l (s:Int) 1000000000) 0) (by omega) (j:=0) (by omega) (fun m k _ hk=>?_) (fun m=>?_)
 ·simpa [Dh] using this
 ·have u:=LV k s
  rw [Ez,if_pos (by rw [f]; simp; omega),ER (by omega) (by omega),if_pos (by simp),WW v (by omega),AC (by omega),Iq]
  have hb:(s.testBit k).toNat ≤ 1:=by cases s.testBit k <;> simp
  rw [A8 (by omega) (by omega)]
  rfl
 ·have u:=LV n s
  rw [Ez,if_neg (by rw [f]; simp),f,A8 (by omega) (by omega)]
theorem Abj {x:List (List Int)} {n:Nat} {c:Nat → Nat → Int} (h:CO x n c) {m:Nat} (u:m + 1 < 2 ^ n) {r:List Int} (l:r.length = n) (hc:∀ k,k < n → r[k]? = some (c (n - Dh n (m + 1)) k)) (f:List Int → Int → Af (List Int)) :
  D2 r ((m + 1:Nat):Int) f FU (BE (JG n c m) ((m + 1:Nat):Int) 1000000000) 0 = f (JG n c (m + 1)) ((m + 2:Nat):Int):=by
 have ac:=O7 h.n12
 have hn:=h.n12
 have hp:0 < Dh n (m + 1):=by
  obtain ⟨k,g,v⟩:=N7 u (by omega)
  have:=NX g v
  omega
 have ai:=LV n (m + 1)
 have ah:=Oa n c (m:=m) (by omega)
 have aa:=EI (D2 r ((m + 1:Nat):Int) f) n (fun k=>(JG n c m).set (m + 1) (mf (m + 1).testBit (fun k=>c (n - Dh n (m + 1)) k + VV n c ((m + 1) ^^^ 2 ^ k)) Vu k)) (f (JG n c (m + 1)) ((m + 2:Nat):Int)) (by omega) (j:=0) (by omega) (fun q k _ g=>?_) (fun q=>?_)
 ·rw [J8]
  exact aa
 ·have v:=h.bd (n - Dh n (m + 1)) k (by omega) g
  rw [D2,if_pos (by rw [l]; simp; omega)]
  unfold Bj
  dsimp only
  rw [AX,hc k g,Aa,ER (by omega) (by omega),if_pos (by simp),U6 (by omega) (by omega),NI]
  by_cases e:(m + 1).testBit k = true
  ·have hx:=L2 e
   have hv:=VO h.n12 h.bd (s:=(m + 1) ^^^ 2 ^ k) (by omega)
   have ae:2 ^ k ≤ 4096:=Ay (Nat.pow_le_pow_right (by omega) (by omega:k ≤ n)) ac.2
   rw [if_pos e,AX,List.getElem?_set_self (by omega),Aa,L7 (by omega),WV (by omega) (by omega),AX,List.getElem?_set_ne (by omega),LH n c (by omega),Aa,A8 (x:=c _ k + _) (by omega) (by omega),Ke,Aa,Aa,J8,List.set_set,AC (by omega),if_pos e]
  ·rw [if_neg e,if_neg e,AC (by omega)]
 ·rw [D2,if_neg (by rw [l]; simp),← VN n c (by omega),Aab n c u,A8 (by omega) (by omega)]
  rfl
theorem Wc {x:List (List Int)} {n:Nat} {c:Nat → Nat → Int} (h:CO x n c):JJ x = some (JG n c (2 ^ n - 1)):=by
 have ai:=O7 h.n12
 have hn:=h.n12
 unfold JJ
 rw [h.len,ER (by omega) (by omega),if_pos (by simp),L7 (by omega),NH (by omega),Aa]
 have l:List.replicate (2 ^ n) (0:Int) = JG n c 0:=by
  unfold JG Qo
  rw [show 2 ^ n = (2 ^ n - 1 - 0) + 1 by omega,List.replicate_succ]
  simp
 have f:=EI (Fe x) (2 ^ n) (fun s=>JG n c (s - 1)) (some (JG n c (2 ^ n - 1))) (by omega) (j:=1) (by omega) (fun q s ac e=>?_) (fun q=>?_)
 ·rw [l]; exact f
 ·rw [Fe,h.len,ER (by omega) (by omega),L7 (by omega),if_pos (decide_eq_true (Int.ofNat_lt.2 e)),YL x h.len h.n12 (by omega)]
  obtain ⟨m,rfl⟩:∃ m,s = m + 1:=⟨s - 1,by omega⟩
  have hp:0 < Dh n (m + 1):=by
   obtain ⟨k,hk,v⟩:=N7 e (by omega)
   have:=NX hk v
   omega
  have ae:=LV n (m + 1)
  have ad:=Oa n c (m:=m) (by omega)
  obtain ⟨r,g,aa,u⟩:=h.row (n - Dh n (m + 1)) (by omega)
  rw [Nat.add_sub_cancel,Js (by omega),Aa,show (n:Int) - (Dh n (m + 1):Int) = ((n - Dh n (m + 1):Nat):Int) by omega,AX,g,Aa,Abj h e aa u]
  rfl
 ·rw [Fe,h.len,ER (by omega) (by omega),L7 (by omega),if_neg (by simp)]
theorem XG {n s:Nat} (e:s < 2 ^ n):∀ m,Dh (n + m) s = Dh n s
 | 0=>rfl
 | m + 1=>by
  rw [← Nat.add_assoc,Iq,XG e m,Nat.testBit_lt_two_pow (Nat.lt_of_lt_of_le e (Nat.pow_le_pow_right (by omega) (by omega)))]
  rfl
theorem Aac {n s:Nat} (e:n ≤ 12) (f:s < 2 ^ n):H9 ((2 ^ n - 1 - s:Nat):Int) = some ((n - Dh n s:Nat):Int):=by
 have g:=O7 e
 rw [Yf _ (by omega)]
 have h1:=XG (n:=n) (s:=2 ^ n - 1 - s) (by omega) (12 - n)
 rw [show n + (12 - n) = 12 by omega] at h1
 have h:=U2 f n (Nat.le_refl _)
 rw [h1,show Dh n (2 ^ n - 1 - s) = n - Dh n s by omega]
theorem Ab2 {x:List (List Int)} {n:Nat} {c:Nat → Nat → Int} (h:CO x n c) {s:Nat} (h0:0 < s) (u:s < 2 ^ n) (g:List Int → Int → Af (List Int)) :
  DH x ((2 ^ n - 1 - s:Nat):Int) ((n - Dh n s:Nat):Int) g FU (BE (KE n c (s - 1)) ((2 ^ n - 1 - s:Nat):Int) 13194139533312) 0 = g (KE n c s) (Ag (((2 ^ n - 1 - s:Nat):Int) - 1)):=by
 have ai:=O7 h.n12
 have hn:=h.n12
 obtain ⟨j,v,l⟩:=N7 u h0
 have hp:0 < Dh n s:=by
  have:=NX v l
  omega
 have ao:=LV n s
 have an:=Qe n c (m:=s - 1) (by omega)
 obtain ⟨r,hr,ak,ah⟩:=h.row (n - Dh n s) (by omega)
 have ab:∀ k,k < n → s.testBit k = true → 0 ≤ c (n - Dh n s) k + VV n c (s ^^^ 2 ^ k) ∧ c (n - Dh n s) k + VV n c (s ^^^ 2 ^ k) ≤ 27300000:=fun k f e=>by
  have hx:=L2 e
  have hb:=h.bd (n - Dh n s) k (by omega) f
  have hv:=VO h.n12 h.bd (s:=s ^^^ 2 ^ k) (by omega)
  omega
 have ag:=EI (DH x ((2 ^ n - 1 - s:Nat):Int) ((n - Dh n s:Nat):Int) g) n (fun k=>(KE n c (s - 1)).set (2 ^ n - 1 - s) (mf s.testBit (fun k=>c (n - Dh n s) k + VV n c (s ^^^ 2 ^ k)) 13194139533312 k)) (g (KE n c s) (Ag (((2 ^ n - 1 - s:Nat):Int) - 1))) (by omega) (j:=0) (by omega) (fun q k _ f=>?_) (fun q=>?_)
 ·rw [J8]
  exact ag
 ·have hb:=h.bd (n - Dh n s) k (by omega) f
  have am:2 ^ k ≤ 4096:=Ay (Nat.pow_le_pow_right (by omega) (by omega:k ≤ n)) ai.2
  rw [DH,if_pos (by rw [h.len]; simp; omega)]
  unfold Bj
  dsimp only
  rw [if_pos (by simp),XS (by omega) (by omega),P3 u f,Bool.not_not,NI]
  by_cases e:s.testBit k = true
  ·have hx:=L2 e
   have hv:=ab k f e
   rw [if_pos e,AX,List.getElem?_set_self (by omega),Aa,AX,hr,Aa,AX,ah k f,Aa,L7 (by omega),Y1 (by omega) (by omega),WQ u f e,AX,List.getElem?_set_ne (by omega),MJ n c (by omega) (by omega),Aa,Aa,J8,List.set_set,AC (by omega),if_pos e,A8 (by omega) (by omega),Abv]
  ·rw [if_neg e,if_neg e,AC (by omega)]
 ·have e:=ab j v l
  rw [DH,if_neg (by rw [h.len]; simp),Ac1 (b:=Vu) v l (by omega) (by unfold Vu; omega),← VN n c h0]
  have:=Aax n c (m:=s - 1) (by omega)
  rw [show s - 1 + 1 = s by omega] at this
  rw [this]
theorem Uj {x:List (List Int)} {n:Nat} {c:Nat → Nat → Int} (h:CO x n c):IK x = some (KE n c (2 ^ n - 1)):=by
 have ae:=O7 h.n12
 have hn:=h.n12
 have u:=h.n1
 have ac:2 ≤ 2 ^ n:=Ay (by decide:2 ≤ 2 ^ 1) (Nat.pow_le_pow_right (by omega) u)
 unfold IK
 rw [h.len,if_pos (by simp),L7 (by omega),NH (by omega),Aa]
 have g:List.replicate (2 ^ n) (0:Int) = KE n c 0:=by
  unfold KE Qo
  rw [show [(0:Int)].reverse = List.replicate 1 0 by rfl,List.replicate_append_replicate,show 2 ^ n - 1 - 0 + 1 = 2 ^ n by omega]
 have f:=EI (fun m l (k:Int)=>Ex x m l (((2 ^ n - 1:Nat):Int) - k)) (2 ^ n) (fun s=>KE n c (s - 1)) (some (KE n c (2 ^ n - 1))) (by omega) (j:=1) (by omega) (fun q s v e=>?_) (fun q=>?_)
 ·rw [g,A8 (by omega) (by omega),show ((2 ^ n:Nat):Int) - 2 = ((2 ^ n - 1:Nat):Int) - ((1:Nat):Int) by omega]
  exact f
 ·have ab:=LV n s
  have aa:=Qe n c (m:=s - 1) (by omega)
  rw [show ((2 ^ n - 1:Nat):Int) - (s:Int) = ((2 ^ n - 1 - s:Nat):Int) by omega,Ex,if_pos (by simp),ER (by omega) (by omega),Aac h.n12 e,Aa,Js (by omega),Aa,Ab2 h (by omega) e,A8 (by omega) (by omega),show ((2 ^ n - 1 - s:Nat):Int) - 1 = ((2 ^ n - 1:Nat):Int) - ((s + 1:Nat):Int) by omega]
  rfl
 ·rw [Ex,if_neg (by rw [C9]; omega)]
def Py (n:Nat) (c:Nat → Nat → Int) (r s k:Nat):Bool:=s.testBit k && decide (c r k + VV n c (s ^^^ 2 ^ k) = VV n c s)
def Px (n:Nat) (c:Nat → Nat → Int) (r s:Nat):Nat:=((List.range n).find? (Py n c r s)).getD 0
def EO (n:Nat) (c:Nat → Nat → Int):Nat → Nat
 | 0=>2 ^ n - 1
 | r + 1=>EO n c r ^^^ 2 ^ Px n c r (EO n c r)
def KU (n:Nat) (c:Nat → Nat → Int) (r:Nat):List Int:=(List.range r).map fun i=>(Px n c i (EO n c i):Int)
theorem Vi (n:Nat) (c:Nat → Nat → Int) (r:Nat):KU n c (r + 1) = KU n c r ++ [(Px n c r (EO n c r):Int)]:=by
 unfold KU
 rw [List.range_succ,List.map_append]
 rfl
theorem NZ (n:Nat) (c:Nat → Nat → Int) (r:Nat):(KU n c r).length = r:=by unfold KU; simp
theorem Aal (n:Nat):Dh n (2 ^ n - 1) = n:=by
 have h1:=U2 (n:=n) (s:=0) (Nat.two_pow_pos n) n (Nat.le_refl _)
 rw [Vg] at h1
 simpa using h1
theorem Vb {x:List (List Int)} {n:Nat} {c:Nat → Nat → Int} (h:CO x n c):∀ r,r ≤ n → (EO n c r < 2 ^ n ∧ Dh n (EO n c r) = n - r) ∧ (r < n → (List.range n).find? (Py n c r (EO n c r)) = some (Px n c r (EO n c r)) ∧ Px n c r (EO n c r) < n ∧ (EO n c r).testBit (Px n c r (EO n c r)) = true):=by
 have am:=O7 h.n12
 have v:∀ r s,r < n → s < 2 ^ n → Dh n s = n - r → (List.range n).find? (Py n c r s) = some (Px n c r s) ∧ Px n c r s < n ∧ s.testBit (Px n c r s) = true:=by
  intro r s g hs f
  have h0:=Abs hs (by omega)
  obtain ⟨k,hk,hb,m⟩:=(XT h.n12 h.bd s s (Nat.le_refl _) hs).2 h0
  rw [f,show n - (n - r) = r by omega] at m
  cases l:(List.range n).find? (Py n c r s) with
  | none =>
   have:=List.find?_eq_none.1 l k (List.mem_range.2 hk)
   unfold Py at this
   simp [hb,m] at this
  | some j =>
   have f:=List.find?_some l
   have hj:j < n:=List.mem_range.1 (List.mem_of_find?_eq_some l)
   have e:Px n c r s = j:=by unfold Px; rw [l]; rfl
   rw [e]
   unfold Py at f
   rw [Ck] at f
   exact ⟨rfl,hj,f.1⟩
 intro r
 induction r with
 | zero =>
  intro _
  have h1:EO n c 0 < 2 ^ n ∧ Dh n (EO n c 0) = n - 0:=⟨by unfold EO; omega,Aal n⟩
  exact ⟨h1,fun g=>v 0 _ g h1.1 h1.2⟩
 | succ r ih =>
  intro g
  obtain ⟨⟨i1,i2⟩,i3⟩:=ih (by omega)
  obtain ⟨_,i4,u⟩:=i3 (by omega)
  have h1:EO n c (r + 1) < 2 ^ n ∧ Dh n (EO n c (r + 1)) = n - (r + 1):=by
   have hx:=L2 u
   have f:=NX i4 u
   refine ⟨by unfold EO; omega,by unfold EO; omega⟩
  exact ⟨h1,fun g=>v (r + 1) _ g h1.1 h1.2⟩
theorem Zy (p:Nat → Bool) (k:Nat):(List.range (k + 1)).find? p = match (List.range k).find? p with
  | some j=>some j
  | none=>if p k = true then some k else none:=by
 rw [List.range_succ,List.find?_append]
 cases (List.range k).find? p with
 | some j=>rfl
 | none =>
  rw [Option.none_or,List.find?_cons]
  cases p k <;> rfl
def Um (o:Af Nat):Int:=match o with
 | some j=>(j:Int)
 | none=>-1
theorem Wd {x:List (List Int)} {n:Nat} {c:Nat → Nat → Int} (h:CO x n c):JK x = some (KU n c n,VV n c (2 ^ n - 1)):=by
 have v:=O7 h.n12
 have hn:=h.n12
 have ab:=Oa n c (m:=2 ^ n - 1) (by omega)
 unfold JK
 rw [Wc h,Aa,ab,A8 (by omega) (by omega),show ((2 ^ n:Nat):Int) - 1 = ((2 ^ n - 1:Nat):Int) by omega]
 have ae:=EI (fun m (s:Int × List Int) k=>DW x (JG n c (2 ^ n - 1)) m s.1 s.2 k) n (fun r=>((EO n c r:Int),KU n c r)) (some (KU n c n,VV n c (2 ^ n - 1))) (by omega) (j:=0) (by omega) (fun q r _ g=>?_) (fun q=>?_)
 ·exact ae
 ·dsimp only
  obtain ⟨u,ah,l,ag⟩:=h.row r g
  obtain ⟨⟨i1,i2⟩,i3⟩:=Vb h r (by omega)
  obtain ⟨i6,i4,i5⟩:=i3 g
  rw [DW,if_pos (by rw [h.len]; simp; omega),AX,ah,Aa]
  have IQ:=EI (Ff u (EO n c r:Int) (JG n c (2 ^ n - 1)) (KU n c r) (DW x (JG n c (2 ^ n - 1)) q) (r:Int)) n (fun k=>Um ((List.range k).find? (Py n c r (EO n c r)))) (DW x (JG n c (2 ^ n - 1)) q (EO n c (r + 1):Int) (KU n c (r + 1)) ((r + 1:Nat):Int)) (by omega) (j:=0) (by omega) (fun q k _ hk=>?_) (fun q=>?_)
  ·exact IQ
  ·have hb:=h.bd r k g hk
   rw [Ff,if_pos (by rw [l]; simp; omega)]
   unfold Bj
   dsimp only
   rw [AX,ag k hk,Aa,Zy]
   cases hf:(List.range k).find? (Py n c r (EO n c r)) with
   | some j =>
    unfold Um
    dsimp only
    rw [if_neg (by simp),if_neg (by simp),AC (by omega)]
   | none =>
    unfold Um
    dsimp only
    have ai:2 ^ k ≤ 4096:=Ay (Nat.pow_le_pow_right (by omega) (by omega:k ≤ n)) v.2
    rw [if_pos (by simp),ER (by omega) (by omega),if_pos (by simp),U6 (by omega) (by omega)]
    by_cases e:(EO n c r).testBit k = true
    ·have hx:=L2 e
     have hv:=VO h.n12 h.bd (s:=EO n c r ^^^ 2 ^ k) (by omega)
     rw [if_pos e,AX,LH n c (by omega),Aa,L7 (by omega),WV (by omega) (by omega),AX,LH n c (by omega),Aa,A8 (by omega) (by omega),AC (by omega)]
     unfold Py
     rw [e,Bool.true_and]
     by_cases f:c r k + VV n c (EO n c r ^^^ 2 ^ k) = VV n c (EO n c r)
     ·rw [if_pos (by simpa using f),if_pos (by simpa using f)]
     ·rw [if_neg (by simpa using f),if_neg (by simpa using f)]
    ·rw [if_neg e,if_neg (by simp),AC (by omega),if_neg]
     unfold Py
     simp [e]
  ·have ai:2 ^ Px n c r (EO n c r) ≤ 4096:=Ay (Nat.pow_le_pow_right (by omega) (by omega:Px n c r (EO n c r) ≤ n)) v.2
   rw [Ff,if_neg (by rw [l]; simp),i6]
   unfold Um
   dsimp only
   rw [Bm (by rw [NZ]; simp; omega),Aa,ER (by omega) (by omega),if_pos (by simp),L7 (by omega),WV (by omega) (by omega),AC (by omega),Vi]
   rfl
 ·dsimp only
  rw [DW,if_neg (by rw [h.len]; simp),ab,A8 (by omega) (by omega),show ((2 ^ n:Nat):Int) - 1 = ((2 ^ n - 1:Nat):Int) by omega,AX,LH n c (by omega),Aa]
theorem QX {x:List (List Int)} {n:Nat} {c:Nat → Nat → Int} (h:CO x n c):GZ x = some (KU n c n):=by
 have ai:=O7 h.n12
 have hn:=h.n12
 unfold GZ
 rw [Uj h,Aa]
 have u:=EI (fun m (s:Int × List Int) k=>Dy x (KE n c (2 ^ n - 1)) m s.1 s.2 k) n (fun r=>(((2 ^ n - 1 - EO n c r:Nat):Int),KU n c r)) (some (KU n c n)) (by omega) (j:=0) (by omega) (fun q r _ v=>?_) (fun q=>?_)
 ·have e:((2 ^ n - 1 - EO n c 0:Nat):Int) = 0:=by unfold EO; omega
  dsimp only at u
  rw [e] at u
  exact u
 ·dsimp only
  obtain ⟨ag,ae,an,ad⟩:=h.row r v
  obtain ⟨⟨l,i2⟩,i3⟩:=Vb h r (by omega)
  obtain ⟨i6,i4,i5⟩:=i3 v
  rw [Dy,if_pos (by rw [h.len]; simp; omega)]
  unfold FT
  dsimp only
  have IQ:=fun (aa:Int → List Int → Af (List Int))=>Tv (Dx x (KU n c r) aa ((2 ^ n - 1 - EO n c r:Nat):Int) (r:Int) (KE n c (2 ^ n - 1))) n (Py n c r (EO n c r)) (fun k=>aa (((2 ^ n - 1 - EO n c r:Nat) ||| 2 ^ k:Nat):Int) (KU n c r ++ [(k:Int)])) (aa ((2 ^ n - 1 - EO n c r:Nat):Int) (KU n c r)) (by omega) (fun q k g=>?_) (fun q=>?_)
  ·rw [IQ,i6]
   dsimp only
   rw [WQ l i4 i5,AC (by omega),Vi]
   rfl
  ·have hb:=h.bd r k v g
   have ao:2 ^ k ≤ 4096:=Ay (Nat.pow_le_pow_right (by omega) (by omega:k ≤ n)) ai.2
   rw [Dx,if_pos (by rw [h.len]; simp; omega)]
   unfold Bj
   dsimp only
   rw [if_pos (by simp),XS (by omega) (by omega),P3 l g,Bool.not_not]
   by_cases f:(EO n c r).testBit k = true
   ·have hx:=L2 f
    have hv:=VO h.n12 h.bd (s:=EO n c r ^^^ 2 ^ k) (by omega)
    rw [if_pos f,AX,ae,Aa,AX,ad k g,Aa,AX,MJ n c (by omega) (by omega),Aa,L7 (by omega),Y1 (by omega) (by omega),WQ l g f,AX,MJ n c (by omega) (by omega),Aa,A8 (by omega) (by omega),AC (by omega),Bm (by rw [NZ]; simp; omega),Aa,if_pos (c:=decide (0 ≤ (k:Int)) = true) (by simp)]
    unfold Py
    rw [f,Bool.true_and]
    rfl
   ·rw [if_neg f,if_neg (by simp),AC (by omega),if_neg]
    unfold Py
    simp [f]
  ·rw [Dx,if_neg (by rw [h.len]; simp)]
 ·dsimp only
  rw [Dy,if_neg (by rw [h.len]; simp)]
theorem N2 (c:List (Int × Int)) (h:c.length ≤ 1048576):Gr c = some c:=by
 unfold Gr
 rw [Xa (by simp; omega)]
 rfl
theorem PM (c:List Int) (h:c.length ≤ 1048576):IE c = some c:=by
 unfold IE
 rw [Xa (by simp; omega)]
 rfl
theorem Nl (c:List Int) (h:c.length ≤ 1048576):Fx c = some c:=by
 unfold Fx
 rw [Xa (by simp; omega)]
 rfl
def Ad8 (x:TC) (p n:Int):TC:=(x.1,BE x.2.1 p n,x.2.2.1,x.2.2.2)
theorem Yb (l:List Int) (n:Int) (h:l.length < 4611686018427387904):Lc l n = some (l.any (· == n)):=by
 unfold Lc
 rw [N5 (Gf l n) l (fun u=>!(u == n)) (some false) (some true) h (fun m k u f e=>?_) (fun m=>?_)]
 ·have:l.any (· == n) = !l.all (fun u=>!(u == n)):=by simp [List.any_eq_not_all_not]
  rw [this]
  cases l.all (fun u=>!(u == n)) <;> simp
 ·rw [Gf,if_pos (by simp; omega),AX,e,Aa,AC (by omega)]
  cases u == n <;> simp
 ·rw [Gf,if_neg (by simp)]
abbrev BW:=Ae4 × Ae4 × Int × (List Int)
def IU (l:List Int) (i:Nat):Int:=(l[i]?).getD 0
theorem JH {l:List Int} {i:Nat} (h:i < l.length):l[i]? = some (IU l i):=by unfold IU; rw [Cb h]; rfl
def Pd (l:List Int) (n:Nat) (i:Nat):Bool:=BK (IU l i) 0 ((n:Int) - 1) && !(l.take i).any (· == IU l i)
def R9 (l:List Int) (n:Nat):Bool:=(List.range l.length).all (Pd l n) && ((l.length:Int) == (n:Int))
theorem Vy {l:List Int} {n:Nat} (e:l.length < 4611686018427387904) (g:n ≤ 12):Jy l (n:Int) = some (R9 l n):=by
 unfold Jy R9
 rw [OA (EC l (n:Int)) l.length (Pd l n) (some ((l.length:Int) == (n:Int))) (some false) e (fun m k f=>?_) (fun m=>?_)]
 ·cases (List.range l.length).all (Pd l n) <;> simp
 ·rw [EC,if_pos (by simp; omega),AX,JH f,Aa]
  unfold Bj Pd
  dsimp only
  rw [CU,Aa,A8 (by omega) (by omega),Ll _ (by omega),Aa,Yb _ _ (by simp; omega),Aa,AC (by omega)]
  cases BK (IU l k) 0 ((n:Int) - 1) with
  | false=>rfl
  | true=>cases (l.take k).any (· == IU l k) <;> rfl
 ·rw [EC,if_neg (by simp)]
def QI (l:List Int) (i:Nat):Nat:=(l.take i).foldl (fun a k=>a ||| 2 ^ k.toNat) 0
theorem UY {l:List Int} {i:Nat} (h:i < l.length):QI l (i + 1) = QI l i ||| 2 ^ (IU l i).toNat:=by
 unfold QI
 rw [List.take_add_one,JH h,List.foldl_append]
 rfl
theorem Tb {l:List Int} {n:Nat} (g:n ≤ 12):∀ i,i ≤ l.length → (∀ j,j < i → Pd l n j = true) → QI l i < 2 ^ 12 ∧ ∀ b:Nat,(QI l i).testBit b = (l.take i).any (· == (b:Int))
 | 0,_,_=>⟨by unfold QI; simp,fun b=>by unfold QI; simp⟩
 | i + 1,h,hk=>by
  obtain ⟨h1,m⟩:=Tb g i (by omega) (fun j s=>hk j (by omega))
  have e:=hk i (by omega)
  unfold Pd at e
  rw [Ck,DB] at e
  have f:2 ^ (IU l i).toNat < 2 ^ 12:=Nat.pow_lt_pow_right (by omega) (by omega)
  rw [UY (by omega)]
  refine ⟨Nat.or_lt_two_pow h1 f,fun b=>?_⟩
  rw [Nat.testBit_or,m,Nat.testBit_two_pow,List.take_add_one,JH (by omega),List.any_append]
  congr 1
  rw [Bool.eq_iff_iff]
  simp
  omega
theorem T2 {l:List Int} {n:Nat} (u:l.length < 4611686018427387904) (s:n ≤ 12):Il l (n:Int) = some (R9 l n):=by
 unfold Il R9
 have:=Ac2 (Ei l (n:Int)) l.length (Pd l n) (fun i=>(QI l i:Int)) (some ((l.length:Int) == (n:Int))) (some false) u (fun m k f h=>?_) (fun m=>?_)
 ·refine Eq.trans this ?_
  cases (List.range l.length).all (Pd l n) <;> simp
 ·obtain ⟨h1,v⟩:=Tb s k (by omega) h
  rw [Ei,if_pos (by simp; omega),AX,JH f,Aa]
  unfold Bj Pd
  dsimp only
  rw [CT,Aa,A8 (by omega) (by omega),AC (by omega)]
  cases ho:BK (IU l k) 0 ((n:Int) - 1) with
  | false=>rfl
  | true =>
   have aa:=DB.1 ho
   have e:IU l k = ((IU l k).toNat:Int):=by omega
   have hp:2 ^ (IU l k).toNat < 2 ^ 12:=Nat.pow_lt_pow_right (by omega) (by omega)
   have g:=v (IU l k).toNat
   rw [← e] at g
   rw [if_neg (by simp),if_pos (by simpa using aa.1)]
   conv=>lhs; rw [e]
   rw [U6 (by omega) (by omega),L7 (by omega),Y1 (by omega) (by omega),g,UY f]
   cases (l.take k).any (· == IU l k)
   ·rw [if_neg (by simp),if_pos (decide_eq_true (Int.natCast_nonneg _)),if_pos (by simp)]
   ·simp
 ·rw [Ei,if_neg (by simp)]
def LP (a b:List (Int × Int)) (n:Int):Bool:=Cv a && (Cv b && (((a.length:Int) == (b.length:Int)) && BK n 1 64))
theorem P2 {a b:List (Int × Int)} {n:Int} (f:a.length < 4611686018427387904) (e:b.length < 4611686018427387904):H7 a b n = some (LP a b n):=by
 unfold H7 Bj LP
 dsimp only
 rw [GV a f,Aa,GV b e,CT,Aa,Aa]
 cases Cv a <;> cases Cv b <;> cases ((a.length:Int) == (b.length:Int)) <;> rfl
theorem Sb {a b:List (Int × Int)} (f:a.length < 4611686018427387904) (e:b.length < 4611686018427387904):Ji a b = some (Cv a && (Cv b && ((a.length:Int) == (b.length:Int)))):=by
 unfold Ji Bj
 dsimp only
 rw [J7 a f,Aa,J7 b e,Aa]
 cases Cv a <;> cases Cv b <;> rfl
theorem QK {a b:List (Int × Int)} {n:Int} (f:a.length < 4611686018427387904) (e:b.length < 4611686018427387904):I3 a b n = some (LP a b n):=by
 unfold I3 Bj LP
 dsimp only
 rw [Sb f e,Aa,CU,Aa]
 cases Cv a <;> cases Cv b <;> cases ((a.length:Int) == (b.length:Int)) <;> rfl
structure Aa5 (a b:List (Int × Int)) (n:Int):Prop where
 ca:Cv a = true
 cb:Cv b = true
 le:a.length = b.length
 l1:1 ≤ a.length
 l12:a.length ≤ 12
 n1:1 ≤ n
 n64:n ≤ 64
theorem LO {a b:List (Int × Int)} {n:Int}:LP a b n = true ↔ Aa5 a b n:=by
 unfold LP
 rw [Ck,Ck,Ck,DB,beq_iff_eq]
 constructor
 ·rintro ⟨h1,f,g,e⟩
  have:=Dc h1
  exact ⟨h1,f,by omega,this.1,this.2,e.1,e.2⟩
 ·rintro h
  exact ⟨h.ca,h.cb,by have:=h.le; omega,h.n1,h.n64⟩
def Lx (t:BW):Bool:=LP t.1 t.2.1 t.2.2.1 && R9 t.2.2.2 t.1.length
theorem Ly {t:BW} (h1:t.1.length < 4611686018427387904) (f:t.2.1.length < 4611686018427387904) (e:t.2.2.2.length < 4611686018427387904):Fu t = some (Lx t):=by
 unfold Fu Bj Lx LP
 dsimp only
 rw [GV _ h1,Aa,GV _ f,CT,Aa,Aa]
 cases g:Cv t.1 with
 | false=>rfl
 | true =>
  rw [T2 e (Dc g).2,Aa]
  cases Cv t.2.1 <;> cases ((t.1.length:Int) == (t.2.1.length:Int)) <;> cases BK t.2.2.1 1 64 <;> rfl
theorem OX {t:BW} (h1:t.1.length < 4611686018427387904) (f:t.2.1.length < 4611686018427387904) (e:t.2.2.2.length < 4611686018427387904):Ic t = some (Lx t):=by
 unfold Ic Bj Lx LP
 dsimp only
 rw [Sb h1 f,Aa,CU,Aa]
 cases g:Cv t.1 with
 | false=>rfl
 | true =>
  rw [Vy e (Dc g).2,Aa]
  cases Cv t.2.1 <;> cases ((t.1.length:Int) == (t.2.1.length:Int)) <;> cases BK t.2.2.1 1 64 <;> rfl
def Qq:BW:=([],[],0,[])
def QT (n:Nat):List Int:=(List.range n).map fun (i:Nat)=>(i:Int)
def Eo (a b:List (Int × Int)) (n:Int):BW × Bool:=if LP a b n = true then ((a,b,n,QT a.length),true) else (Qq,false)
theorem KX {a b:List (Int × Int)} {n:Int} {p:List Int} (g:a.length ≤ 1000) (e:b.length ≤ 1000) (f:p.length ≤ 1000):EN a b n p = some (a,b,n,p):=by
 unfold EN
 rw [Bm (by simp; omega),Aa,Bm (by simp; omega),Aa,Nl _ (by omega),Aa,List.nil_append,List.nil_append]
theorem OW {a b:List (Int × Int)} {n:Int} {p:List Int} (g:a.length ≤ 1000) (e:b.length ≤ 1000) (f:p.length ≤ 1000):Ib a b n p = some (a,b,n,p):=by
 unfold Ib
 rw [N2 _ (by omega),Aa,N2 _ (by omega),Aa,PM _ (by omega),Aa]
theorem NY (n:Nat):(QT n).length = n:=by unfold QT; simp
theorem Vh (n:Nat):QT (n + 1) = QT n ++ [(n:Int)]:=by unfold QT; rw [List.range_succ,List.map_append]; rfl
theorem Mm {a b:List (Int × Int)} {n:Int} (h:a.length < 4611686018427387904) (e:b.length < 4611686018427387904):EV a b n = some (Eo a b n):=by
 unfold EV Eo
 rw [P2 h e,Aa]
 cases g:LP a b n with
 | false=>rfl
 | true =>
  have f:=LO.1 g
  have:=f.l12
  have:=f.le
  rw [if_neg (by simp),if_pos rfl]
  refine EI (Dg a b n) a.length QT _ (by omega) (j:=0) (by omega) (fun m k _ l=>?_) (fun m=>?_)
  ·rw [Dg,if_pos (by simp; omega),Bm (by simp [NY]; omega),Aa,AC (by omega),Vh]
  ·rw [Dg,if_neg (by simp),KX (by omega) (by omega) (by rw [NY]; omega),Aa]
theorem Mb {a b:List (Int × Int)} {n:Int} (h:a.length < 4611686018427387904) (e:b.length < 4611686018427387904):Gt a b n = some (Eo a b n):=by
 unfold Gt Eo
 rw [QK h e,Aa]
 cases g:LP a b n with
 | false=>rfl
 | true =>
  have f:=LO.1 g
  have:=f.l12
  have:=f.le
  rw [if_neg (by simp),if_pos rfl]
  refine EI (Df a b n) a.length QT _ (by omega) (j:=0) (by omega) (fun m k _ l=>?_) (fun m=>?_)
  ·rw [Df,if_pos (by simp; omega),Bm (by simp [NY]; omega),Aa,AC (by omega),Vh]
  ·rw [Df,if_neg (by simp),OW (by omega) (by omega) (by rw [NY]; omega),Aa]
structure XU (t:BW):Prop where
 can:Aa5 t.1 t.2.1 t.2.2.1
 mat:t.2.2.2.length = t.1.length
 inR:∀ i,i < t.1.length → 0 ≤ IU t.2.2.2 i ∧ (IU t.2.2.2 i).toNat < t.2.1.length
theorem Od {t:BW} (h:Lx t = true):XU t:=by
 unfold Lx R9 at h
 rw [Ck,Ck,List.all_eq_true,beq_iff_eq] at h
 obtain ⟨h1,g,l⟩:=h
 have f:=LO.1 h1
 refine ⟨f,by omega,fun i m=>?_⟩
 have e:=g i (List.mem_range.2 (by omega))
 unfold Pd at e
 rw [Ck,DB] at e
 have:=f.le
 omega
def DZ (l:List (Int × Int)) (i:Nat):Int × Int:=(l[i]?).getD (0,0)
theorem Dq {l:List (Int × Int)} {i:Nat} (h:i < l.length):l[i]? = some (DZ l i):=by unfold DZ; rw [Cb h]; rfl
theorem I8 {l:List (Int × Int)} (h:Cv l = true) {i:Nat} (e:i < l.length):CX (DZ l i) = true:=(I9.1 h).2.1 _ (List.mem_of_getElem? (Dq e))
def Ho (t:BW) (i:Nat):Gd:=(DZ t.1 i,DZ t.2.1 (IU t.2.2.2 i).toNat,t.2.2.1)
def G8 (t:BW):List Gd:=(List.range t.1.length).map (Ho t)
theorem Eb (t:BW):(G8 t).length = t.1.length:=by unfold G8; simp
theorem Ix (t:BW) {i:Nat} (h:i < t.1.length):(G8 t)[i]? = some (Ho t i):=by unfold G8; simp [h]
theorem Wz (t:BW) (k:Nat):(List.range (k + 1)).map (Ho t) = (List.range k).map (Ho t) ++ [Ho t k]:=by rw [List.range_succ,List.map_append]; rfl
theorem Kd {t:BW} (f:XU t) {i:Nat} (h:i < t.1.length):IA (Ho t i):=⟨I8 f.can.ca h,I8 f.can.cb (f.inR i h).2⟩
theorem Ok {t:BW} (f:XU t):H6 t = some (G8 t):=by
 unfold H6
 have:=f.can.l12
 refine EI (Fo t) t.1.length (fun k=>(List.range k).map (Ho t)) _ (by omega) (j:=0) (by omega) (fun m k _ g=>?_) (fun m=>?_)
 ·have h:=f.mat
  have e:=f.inR k g
  rw [Fo,if_pos (by simp; omega),AX,JH (by omega),Aa,AX,Dq g,Aa,Iy e.1,Dq e.2,Aa,Bm (by simp; omega),Aa,AC (by omega),Wz]
  rfl
 ·rw [Fo,if_neg (by rw [f.mat]; simp)]
  rfl
theorem Ma {t:BW} (f:XU t):GE t = some (G8 t):=by
 unfold GE
 have:=f.can.l12
 refine EI (Fk t) t.1.length (fun k=>(List.range k).map (Ho t)) _ (by omega) (j:=0) (by omega) (fun m k _ g=>?_) (fun m=>?_)
 ·have h:=f.mat
  have e:=f.inR k g
  rw [Fk,if_pos (by simp; omega),AX,JH (by omega),Aa,AX,Dq g,Aa,Iy e.1,Dq e.2,Aa,Bm (by simp; omega),Aa,AC (by omega),Wz]
  rfl
 ·rw [Fk,if_neg (by rw [f.mat]; simp)]
  rfl
theorem LT {a b:Int × Int} (f:CX a = true) (e:CX b = true):GP a b = (a.1 - b.1) * (a.1 - b.1) + (a.2 - b.2) * (a.2 - b.2) ∧ 0 ≤ GP a b ∧ GP a b ≤ 2089984:=by
 have f:=FP.1 f
 have e:=FP.1 e
 have h1:=M4 (x:=a.1 - b.1) (A:=1280) (by omega) (by omega)
 have g:=M4 (x:=a.2 - b.2) (A:=672) (by omega) (by omega)
 unfold GP
 rw [A8 (x:=a.1 - b.1) (by omega) (by omega),A8 (x:=a.2 - b.2) (by omega) (by omega)]
 generalize (a.1 - b.1) * (a.1 - b.1) = A at *
 generalize (a.2 - b.2) * (a.2 - b.2) = B at *
 rw [A8 (x:=A) (by omega) (by omega),A8 (x:=B) (by omega) (by omega),A8 (by omega) (by omega)]
 omega
def NT (t:BW) (k:Nat):Int:=((List.range k).map fun i=>Td (Ho t i)).sum
theorem QJ (t:BW) (k:Nat):NT t (k + 1) = NT t k + Td (Ho t k):=by unfold NT; rw [List.range_succ,List.map_append,List.sum_append]; simp
theorem R6 {t:BW} (f:XU t):∀ k,k ≤ t.1.length → 0 ≤ NT t k ∧ NT t k ≤ 2089984 * (k:Int)
 | 0,_=>by simp [NT]
 | k + 1,h=>by
  have e:=R6 f k (by omega)
  have g:=Kd f (i:=k) (by omega)
  have:=(LT g.1 g.2).2
  rw [QJ]
  unfold Td
  omega
def M8 (t:BW):Int × Bool:=if Lx t = true then (NT t t.1.length,true) else (0,false)
theorem Uk {t:BW} (h1:t.1.length < 4611686018427387904) (u:t.2.1.length < 4611686018427387904) (s:t.2.2.2.length < 4611686018427387904):H8 t = some (M8 t):=by
 unfold H8 M8
 rw [Ly h1 u s,Aa]
 cases v:Lx t with
 | false=>rfl
 | true =>
  have f:=Od v
  have:=f.can.l12
  have e:II t = some (NT t t.1.length):=by
   unfold II
   refine EI (Ev t) t.1.length (NT t) _ (by omega) (j:=0) (by omega) (fun m k _ h=>?_) (fun m=>?_)
   ·have hm:=f.mat
    have l:=f.inR k h
    have hb:=R6 f k (by omega)
    have g:=Kd f h
    have hq:=(LT g.1 g.2).2
    have e:GP (DZ t.1 k) (DZ t.2.1 (IU t.2.2.2 k).toNat) = Td (Ho t k):=rfl
    rw [Ev,if_pos (by simp; omega),AX,JH (by omega),Aa,AX,Dq h,Aa,Iy l.1,Dq l.2,Aa,Hp,Aa,AC (by omega),e,A8 (by unfold Td; omega) (by unfold Td; omega),QJ]
   ·rw [Ev,if_neg (by rw [f.mat]; simp)]
  rw [if_neg (by simp),e,if_pos rfl]
  rfl
theorem TV {t:BW} (h1:t.1.length < 4611686018427387904) (s:t.2.1.length < 4611686018427387904) (l:t.2.2.2.length < 4611686018427387904):H2 t = some (M8 t):=by
 unfold H2 M8
 rw [OX h1 s l,Aa]
 cases u:Lx t with
 | false=>rfl
 | true =>
  have f:=Od u
  have:=f.can.l12
  have e:Le t = some (NT t t.1.length):=by
   unfold Le
   rw [Ma f,Aa]
   refine EI (Gh (G8 t)) t.1.length (NT t) _ (by omega) (j:=0) (by omega) (fun m k _ h=>?_) (fun m=>?_)
   ·have v:=R6 f k (by omega)
    have g:=Kd f h
    have hq:=(LT g.1 g.2).2
    have e:GP (Ho t k).1 (Ho t k).2.1 = Td (Ho t k):=rfl
    rw [Gh,if_pos (by rw [Eb]; simp; omega),AX,Ix t h,Aa,LD,Aa,AC (by omega),e,A8 (by unfold Td; omega) (by unfold Td; omega),QJ]
   ·rw [Gh,if_neg (by rw [Eb]; simp)]
  rw [if_neg (by simp),e,if_pos rfl]
  rfl
def WP (a b:List (Int × Int)) (i k:Nat):Int:=GP (DZ a i) (DZ b k)
def Nm (a b:List (Int × Int)) (i:Nat) (n:Nat):List Int:=(List.range n).map (WP a b i)
def Mo (a b:List (Int × Int)) (n:Nat):List (List Int):=(List.range n).map fun i=>Nm a b i b.length
theorem Vq (a b:List (Int × Int)) (i n:Nat):Nm a b i (n + 1) = Nm a b i n ++ [WP a b i n]:=by unfold Nm; rw [List.range_succ,List.map_append]; rfl
theorem Vr (a b:List (Int × Int)) (n:Nat):Mo a b (n + 1) = Mo a b n ++ [Nm a b n b.length]:=by unfold Mo; rw [List.range_succ,List.map_append]; rfl
theorem Uh {a b:List (Int × Int)} (h:a.length ≤ 1000) (g:b.length ≤ 1000):IH a b = some (Mo a b a.length):=by
 unfold IH
 refine EI (DF a b) a.length (Mo a b) _ (by omega) (j:=0) (by omega) (fun m i _ e=>?_) (fun m=>?_)
 ·rw [DF,if_pos (by simp; omega),AX,Dq e,Aa]
  refine EI (Eu b (DZ a i) (Mo a b i) (DF a b m) (i:Int)) b.length (Nm a b i) _ (by omega) (j:=0) (by omega) (fun m k _ f=>?_) (fun m=>?_)
  ·rw [Eu,if_pos (by simp; omega),AX,Dq f,Aa,Hp,Aa,Bm (by simp [Nm]; omega),Aa,AC (by omega),Vq]
   rfl
  ·rw [Eu,if_neg (by simp),Bm (by simp [Mo]; omega),Aa,AC (by omega),Vr]
 ·rw [DF,if_neg (by simp)]
theorem We {a b:List (Int × Int)} (h:a.length ≤ 1000) (g:b.length ≤ 1000):JP a b = some (Mo a b a.length):=by
 unfold JP
 refine EI (E0 a b) a.length (Mo a b) _ (by omega) (j:=0) (by omega) (fun m i _ e=>?_) (fun m=>?_)
 ·rw [E0,if_pos (by simp; omega),AX,Dq e,Aa]
  refine EI (Fl b (DZ a i) (Mo a b i) (E0 a b m) (i:Int)) b.length (Nm a b i) _ (by omega) (j:=0) (by omega) (fun m k _ f=>?_) (fun m=>?_)
  ·rw [Fl,if_pos (by simp; omega),AX,Dq f,Aa,LD,Aa,Bm (by simp [Nm]; omega),Aa,AC (by omega),Vq]
   rfl
  ·rw [Fl,if_neg (by simp),Bm (by simp [Mo]; omega),Aa,AC (by omega),Vr]
 ·rw [E0,if_neg (by simp)]
theorem Z4 {a b:List (Int × Int)} {n:Int} (f:Aa5 a b n):CO (Mo a b a.length) a.length (WP a b):=by
 have g:=f.le
 refine ⟨by simp [Mo],fun i e=>⟨Nm a b i b.length,by simp [Mo,e],by simp [Nm,g],fun k h=>?_⟩,fun i k e h=>?_,f.l1,f.l12⟩
 ·have:k < b.length:=by omega
  simp [Nm,this]
 ·have:=(LT (I8 f.ca e) (I8 f.cb (by omega:k < b.length))).2
  unfold WP
  omega
def FC (a b:List (Int × Int)) (n:Int):BW × Bool:=if LP a b n = true then ((a,b,n,KU a.length (WP a b) a.length),true) else (Qq,false)
theorem Qa {a b:List (Int × Int)} {n:Int} (h:a.length < 4611686018427387904) (e:b.length < 4611686018427387904):Gv a b n = some (FC a b n):=by
 unfold Gv FC
 rw [P2 h e,Aa]
 cases g:LP a b n with
 | false=>rfl
 | true =>
  have f:=LO.1 g
  have:=f.l12
  have:=f.le
  rw [if_neg (by simp),if_pos rfl,Uh (by omega) (by omega),Aa,QX (Z4 f),Aa,KX (by omega) (by omega) (by rw [NZ]; omega),Aa]
theorem PN {a b:List (Int × Int)} {n:Int} (h:a.length < 4611686018427387904) (e:b.length < 4611686018427387904):Gu a b n = some (FC a b n):=by
 unfold Gu FC
 rw [QK h e,Aa]
 cases g:LP a b n with
 | false=>rfl
 | true =>
  have f:=LO.1 g
  have:=f.l12
  have:=f.le
  rw [if_neg (by simp),if_pos rfl,We (by omega) (by omega),Aa,Wd (Z4 f),Aa,OW (by omega) (by omega) (by rw [NZ]; omega),Aa]
structure SmT (t:BW):Prop where
 h1:t.1.length ≤ 12
 h2:t.2.1.length ≤ 12
 h3:t.2.2.2.length ≤ 12
theorem SmT.sum {t:BW} (h:SmT t):H8 t = some (M8 t) ∧ H2 t = some (M8 t):=by
 have:=h.h1
 have:=h.h2
 have:=h.h3
 exact ⟨Uk (by omega) (by omega) (by omega),TV (by omega) (by omega) (by omega)⟩
theorem Zl:SmT Qq:=⟨by simp [Qq],by simp [Qq],by simp [Qq]⟩
theorem Vj (a b:List (Int × Int)) (n:Int):SmT (Eo a b n).1:=by
 unfold Eo
 split
 ·rename_i h
  have f:=LO.1 h
  have:=f.l12
  have:=f.le
  exact ⟨by dsimp only; omega,by dsimp only; omega,by dsimp only; rw [NY]; omega⟩
 ·exact Zl
theorem Zp (a b:List (Int × Int)) (n:Int):SmT (FC a b n).1:=by
 unfold FC
 split
 ·rename_i h
  have f:=LO.1 h
  have:=f.l12
  have:=f.le
  exact ⟨by dsimp only; omega,by dsimp only; omega,by dsimp only; rw [NZ]; omega⟩
 ·exact Zl
theorem Sz:Lx Qq = false:=by decide
theorem Abm (t:BW):0 ≤ (M8 t).1 ∧ (M8 t).1 ≤ 100000000:=by
 unfold M8
 split
 ·rename_i h
  have f:=Od h
  have:=f.can.l12
  have:=R6 f t.1.length (by omega)
  dsimp only
  omega
 ·simp
def Wp (bad:Nat → Nat → Bool) (n i:Nat):List (List Int):=((List.range' (i + 1) (n - (i + 1))).filter (bad i)).map fun (k:Nat)=>[(i:Int),(k:Int)]
def JB (bad:Nat → Nat → Bool) (n j:Nat):List (List Int):=(List.range j).foldl (fun s i=>s ++ Wp bad n i) []
theorem ZT (e:Nat → Nat → Bool) (n i:Nat):(Wp e n i).length ≤ n:=by
 unfold Wp
 rw [List.length_map]
 refine Ay (List.length_filter_le _ _) ?_
 simp
theorem PT (e:Nat → Nat → Bool) (n j:Nat):JB e n (j + 1) = JB e n j ++ Wp e n j:=by unfold JB; rw [List.range_succ,List.foldl_append]; rfl
theorem QU (e:Nat → Nat → Bool) (n:Nat):∀ j,(JB e n j).length ≤ n * j
 | 0=>by simp [JB]
 | j + 1=>by
  have:=QU e n j
  have:=ZT e n j
  rw [PT,CH,Nat.mul_succ]
  omega
theorem N4 (F1:Nat → List (List Int) → Int → Af Ae9) (F2:(List (List Int) → Int → Af Ae9) → Nat → Nat → List (List Int) → Int → Af Ae9) (e:Nat → Nat → Bool) (n:Nat) (g:n ≤ 100)
  (h1:∀ m s i,i < n → F1 (m + 1) s (i:Int) = F2 (F1 m) i FU s ((i + 1:Nat):Int))
  (u:∀ nx i m s k,i < n → k < n → s.length ≤ 1000000 → F2 nx i (m + 1) s (k:Int) = F2 nx i m (if e i k then s ++ [[(i:Int),(k:Int)]] else s) ((k + 1:Nat):Int))
  (h:∀ nx i m s,i < n → F2 nx i (m + 1) s (n:Int) = nx s ((i + 1:Nat):Int))
  (l:∀ m s,F1 (m + 1) s (n:Int) = some s):F1 FU [] 0 = some (JB e n n):=by
 refine EI F1 n (JB e n) _ (by omega) (j:=0) (by omega) (fun m i _ f=>?_) (fun m=>l m _)
 have hl:=QU e n i
 have hm:n * i ≤ 100 * 100:=Nat.mul_le_mul g (by omega)
 rw [h1 m _ i f,Aae (F2 (F1 m) i) n 1000000 (e i) (fun (k:Nat)=>[(i:Int),(k:Int)]) (fun s=>F1 m s ((i + 1:Nat):Int)) (by omega) (fun q s k v hs=>u _ i q s k f v (by omega)) (fun q s=>h _ i q s f) (i + 1) (JB e n i) (by omega) (by omega),PT]
 rfl
theorem Zi {e:Nat → Nat → Bool} {n j:Nat} {q:List Int} (h:q ∈ JB e n j):∃ i k:Nat,q = [(i:Int),(k:Int)] ∧ i < j ∧ i < k ∧ k < n ∧ e i k = true:=by
 induction j with
 | zero=>cases h
 | succ j g =>
  rw [PT,AP] at h
  rcases h with h | h
  ·obtain ⟨i,k,h1,m,l⟩:=g h
   exact ⟨i,k,h1,by omega,l⟩
  ·unfold Wp at h
   obtain ⟨k,f,rfl⟩:=List.mem_map.1 h
   rw [List.mem_filter,List.mem_range'_1] at f
   exact ⟨j,k,rfl,by omega,by omega,by omega,f.2⟩
def XQ (t:BW) (least:Int) (i k:Nat):Bool:=!Su (Ho t i) (Ho t k) least
def Ln (t:BW) (least:Int):Ae9 × Bool:=if (Lx t && BK least 0 80) = true then (JB (XQ t least) t.1.length t.1.length,true) else ([],false)
theorem Ra {t:BW} (h:SmT t) (g:Int):Hd t g = some (Ln t g):=by
 have:=h.h1
 have:=h.h2
 have:=h.h3
 unfold Hd Bj Ln
 dsimp only
 rw [Ly (by omega) (by omega) (by omega),Aa,QY,Aa]
 cases ho:Lx t with
 | false=>rfl
 | true =>
  cases l:BK g 0 80 with
  | false=>rfl
  | true =>
   have f:=Od ho
   have e:Hc t g = some (JB (XQ t g) t.1.length t.1.length):=by
    unfold Hc
    rw [Ok f,Aa]
    refine N4 (D0 (G8 t) g) (fun u i=>Dz (G8 t) (i:Int) g u) _ _ (by omega) (fun m s i l=>?_) (fun u i m s k l v hs=>?_) (fun u i m s l=>?_) (fun m s=>?_)
    ·rw [D0,if_pos (by rw [Eb]; simp; omega),AC (by omega)]
    ·rw [Dz,if_pos (by rw [Eb]; simp; omega)]
     unfold Bj XQ
     dsimp only
     rw [AX,Ix t l,Aa,AX,Ix t v,Aa,Ug _ _ _ (Kd f l) (Kd f v),Aa,Bm (by simp; omega),Aa,AC (by omega)]
     cases Su (Ho t i) (Ho t k) g <;> rfl
    ·rw [Dz,if_neg (by rw [Eb]; simp),AC (by omega)]
    ·rw [D0,if_neg (by rw [Eb]; simp)]
   rw [e]
   rfl
theorem QL {t:BW} (h:SmT t) (g:Int):GY t g = some (Ln t g):=by
 have:=h.h1
 have:=h.h2
 have:=h.h3
 unfold GY Lq Bj Ln
 dsimp only
 rw [OX (by omega) (by omega) (by omega),Aa,O4,Aa]
 cases ho:Lx t with
 | false=>rfl
 | true =>
  cases l:BK g 0 80 with
  | false=>rfl
  | true =>
   have f:=Od ho
   have e:JO t g = some (JB (XQ t g) t.1.length t.1.length):=by
    unfold JO
    rw [Ma f,Aa]
    refine N4 (Fj (G8 t) g) (fun u i=>Fi (G8 t) (Ho t i) g (i:Int) u) _ _ (by omega) (fun m s i l=>?_) (fun u i m s k l v hs=>?_) (fun u i m s l=>?_) (fun m s=>?_)
    ·rw [Fj,if_pos (by rw [Eb]; simp; omega),AX,Ix t l,Aa,AC (by omega)]
    ·rw [Fi,if_pos (by rw [Eb]; simp; omega)]
     unfold Bj XQ
     dsimp only
     rw [AX,Ix t v,Aa,Xs _ _ _ (Kd f l) (Kd f v),Aa,Bm (by simp; omega),Aa,AC (by omega)]
     cases Su (Ho t i) (Ho t k) g <;> rfl
    ·rw [Fi,if_neg (by rw [Eb]; simp),AC (by omega)]
    ·rw [Fj,if_neg (by rw [Eb]; simp)]
   rw [e]
   rfl
theorem Nb {a b:Int} (ha:0 ≤ a) (ac:a ≤ 4000000000000000000) (hb:0 < b) (u:b ≤ 1000000000000000) :
  ∃ g:Int,0 < g ∧ a = (Ir a b).1 * g ∧ b = (Ir a b).2 * g ∧ 0 ≤ (Ir a b).1 ∧ (Ir a b).1 ≤ a ∧ 0 < (Ir a b).2 ∧ (Ir a b).2 ≤ b:=by
 have l:0 < Nat.gcd a.toNat b.toNat:=Nat.gcd_pos_of_pos_right _ (by omega)
 obtain ⟨x,hx⟩:=Nat.gcd_dvd_left a.toNat b.toNat
 obtain ⟨y,hy⟩:=Nat.gcd_dvd_right a.toNat b.toNat
 have f:a = ((Nat.gcd a.toNat b.toNat * x:Nat):Int):=by omega
 have e:b = ((Nat.gcd a.toNat b.toNat * y:Nat):Int):=by omega
 unfold Ir
 generalize Nat.gcd a.toNat b.toNat = g at *
 have ab:x ≤ g * x:=Nat.le_mul_of_pos_left _ l
 have ae:y ≤ g * y:=Nat.le_mul_of_pos_left _ l
 have s:Int.tdiv a (g:Int) = (x:Int):=by rw [f,Int.natCast_mul,Int.mul_comm,Int.mul_tdiv_cancel _ (by omega)]
 have m:Int.tdiv b (g:Int) = (y:Int):=by rw [e,Int.natCast_mul,Int.mul_comm,Int.mul_tdiv_cancel _ (by omega)]
 rw [s,m,A8 (by omega) (by omega),A8 (by omega) (by omega)]
 have v:0 < y:=by
  rcases Nat.eq_zero_or_pos y with h | h
  ·subst h; simp at e; omega
  ·exact h
 refine ⟨(g:Int),by omega,?_,?_,by omega,by omega,by omega,by omega⟩
 ·dsimp only; rw [f,Int.natCast_mul,Int.mul_comm]
 ·dsimp only; rw [e,Int.natCast_mul,Int.mul_comm]
def G9 (M:Int) (f:Int × Int):Bool:=decide (f.1 < M * f.2)
theorem PW {a b g:Int} (e:0 < g):a * g < b * g ↔ a < b :=
 ⟨fun h=>Int.lt_of_mul_lt_mul_right h (Int.le_of_lt e),fun h=>Int.mul_lt_mul_of_pos_right h e⟩
theorem Z9 {M a b e f g:Int} (h:0 < g) (l:a = e * g) (m:b = f * g):G9 M (a,b) = G9 M (e,f):=by
 unfold G9
 rw [decide_eq_decide]
 dsimp only
 rw [l,m,← Int.mul_assoc,PW h]
theorem U7 {M a b:Int} (l:0 ≤ a) (f:a ≤ 4000000000000000000) (m:0 < b) (e:b ≤ 1000000000000000):G9 M (Ir a b) = G9 M (a,b):=by
 obtain ⟨g,h,h1,s,_⟩:=Nb l f m e
 rw [Z9 h h1 s]
def Pc (a b:Int × Int):Int × Int:=if RB b.1 b.2 a.1 a.2 = true then b else a
theorem WX {M:Int} {a b:Int × Int} (g:0 < a.2) (f:0 < b.2):G9 M (Pc a b) = (G9 M a || G9 M b):=by
 unfold Pc RB
 by_cases h:b.1 * a.2 < a.1 * b.2
 ·rw [if_pos (decide_eq_true h)]
  rw [Bool.eq_iff_iff,Bool.or_eq_true]
  refine ⟨.inr,fun h1=>h1.elim (fun h1=>?_) id⟩
  unfold G9 at h1 ⊢
  rw [C9] at h1 ⊢
  have l:a.1 * b.2 < M * a.2 * b.2:=Int.mul_lt_mul_of_pos_right h1 f
  have e:b.1 * a.2 < M * b.2 * a.2:=by
   have:M * a.2 * b.2 = M * b.2 * a.2:=by rw [Int.mul_assoc,Int.mul_comm a.2,← Int.mul_assoc]
   omega
  exact (PW g).1 e
 ·rw [if_neg (by simpa using h)]
  rw [Bool.eq_iff_iff,Bool.or_eq_true]
  refine ⟨.inl,fun h1=>h1.elim id (fun h1=>?_)⟩
  unfold G9 at h1 ⊢
  rw [C9] at h1 ⊢
  have l:b.1 * a.2 < M * b.2 * a.2:=Int.mul_lt_mul_of_pos_right h1 g
  have e:a.1 * b.2 < M * a.2 * b.2:=by
   have:M * a.2 * b.2 = M * b.2 * a.2:=by rw [Int.mul_assoc,Int.mul_comm a.2,← Int.mul_assoc]
   omega
  exact (PW f).1 e
abbrev HS:=Int × Int
def IQ (P Q:HS):Bool:=decide (P.1 * (Q.1 - P.1) + P.2 * (Q.2 - P.2) < 0) && decide (0 - (P.1 * (Q.1 - P.1) + P.2 * (Q.2 - P.2)) < (Q.1 - P.1) * (Q.1 - P.1) + (Q.2 - P.2) * (Q.2 - P.2))
def HA (P Q:HS):Int:=P.1 * Q.2 - P.2 * Q.1
def L3 (P Q:HS):Int:=(Q.1 - P.1) * (Q.1 - P.1) + (Q.2 - P.2) * (Q.2 - P.2)
def Jr (P:HS):Int:=P.1 * P.1 + P.2 * P.2
def IV (P Q:HS):Int × Int:=if IQ P Q = true then (HA P Q * HA P Q,L3 P Q) else (Jr Q,1)
def Mc (P Q:HS):Int × Int:=if IQ P Q = true then (HA P Q * HA P Q,L3 P Q) else (min (Jr P) (Jr Q),1)
theorem Aa7 (x:Int):0 ≤ x * x:=by
 have:(0:Int) ≤ ((x.natAbs * x.natAbs:Nat):Int):=Int.natCast_nonneg _
 rwa [Int.natAbs_mul_self] at this
theorem Aem (P Q:HS):HA P Q * HA P Q + (P.1 * (Q.1 - P.1) + P.2 * (Q.2 - P.2)) * (P.1 * (Q.1 - P.1) + P.2 * (Q.2 - P.2)) = Jr P * L3 P Q:=by
 unfold HA Jr L3
 grind
theorem Ad3 (P Q:HS):HA P Q * HA P Q + (Q.1 * (Q.1 - P.1) + Q.2 * (Q.2 - P.2)) * (Q.1 * (Q.1 - P.1) + Q.2 * (Q.2 - P.2)) = Jr Q * L3 P Q:=by
 unfold HA Jr L3
 grind
theorem Adh (P Q:HS):HA P Q * HA P Q ≤ Jr P * L3 P Q ∧ HA P Q * HA P Q ≤ Jr Q * L3 P Q:=by
 have h1:=Aem P Q
 have f:=Ad3 P Q
 have e:=Aa7 (P.1 * (Q.1 - P.1) + P.2 * (Q.2 - P.2))
 have g:=Aa7 (Q.1 * (Q.1 - P.1) + Q.2 * (Q.2 - P.2))
 omega
theorem S3 {P Q:HS} (h:IQ P Q = true):0 < L3 P Q:=by
 unfold IQ at h
 rw [Ck,C9,C9] at h
 unfold L3
 omega
theorem Ab3 {M a b:Int}:G9 M (min a b,1) = (G9 M (a,1) || G9 M (b,1)):=by
 unfold G9
 rw [Bool.eq_iff_iff,Bool.or_eq_true]
 simp only [C9]
 omega
theorem Vt {M:Int} {P Q:HS} (h:IQ P Q = true):(G9 M (Jr P,1) = true → G9 M (IV P Q) = true) ∧ (G9 M (Jr Q,1) = true → G9 M (IV P Q) = true):=by
 have m:=S3 h
 obtain ⟨l,g⟩:=Adh P Q
 have f:∀ x,HA P Q * HA P Q ≤ x * L3 P Q → G9 M (x,1) = true → G9 M (IV P Q) = true:=by
  intro x s e
  unfold G9 IV at *
  rw [if_pos h]
  rw [C9] at e ⊢
  dsimp only at e ⊢
  have:x * L3 P Q < M * 1 * L3 P Q:=Int.mul_lt_mul_of_pos_right e m
  rw [Int.mul_one] at this
  omega
 exact ⟨f _ l,f _ g⟩
theorem WY {M:Int} {P Q:HS}:G9 M (Mc P Q) = if IQ P Q = true then G9 M (IV P Q) else (G9 M (Jr P,1) || G9 M (Jr Q,1)):=by
 unfold Mc IV
 split
 ·rfl
 ·exact Ab3
def Mq (M:Int) (D:Nat → HS):Nat → Bool
 | 0=>G9 M (Jr (D 0),1)
 | k + 1=>Mq M D k || G9 M (IV (D k) (D (k + 1)))
def KF (M:Int) (D:Nat → HS):Nat → Bool
 | 0=>false
 | k + 1=>KF M D k || G9 M (Mc (D k) (D (k + 1)))
theorem Ab8 {M:Int} {D:Nat → HS}:∀ k,G9 M (Jr (D k),1) = true → Mq M D k = true
 | 0,h=>h
 | k + 1,h=>by
  rw [Mq,Bool.or_eq_true]
  right
  by_cases e:IQ (D k) (D (k + 1)) = true
  ·exact (Vt e).2 h
  ·unfold IV
   rw [if_neg e]
   exact h
theorem Adm {M:Int} {D:Nat → HS}:∀ k,Mq M D (k + 1) = KF M D (k + 1):=by
 have l:∀ k,KF M D k = true → Mq M D k = true:=by
  intro k
  induction k with
  | zero=>intro h; cases h
  | succ k f =>
   intro h
   rw [KF,Bool.or_eq_true,WY] at h
   rw [Mq,Bool.or_eq_true]
   rcases h with h | h
   ·exact .inl (f h)
   ·by_cases e:IQ (D k) (D (k + 1)) = true
    ·rw [if_pos e] at h; exact .inr h
    ·rw [if_neg e,Bool.or_eq_true] at h
     rcases h with h | h
     ·exact .inl (Ab8 k h)
     ·right; unfold IV; rw [if_neg e]; exact h
 have m:∀ k,Mq M D (k + 1) = true → KF M D (k + 1) = true:=by
  have g:∀ k,G9 M (IV (D k) (D (k + 1))) = true → KF M D (k + 1) = true:=by
   intro k h
   rw [KF,Bool.or_eq_true,WY]
   right
   by_cases e:IQ (D k) (D (k + 1)) = true
   ·rw [if_pos e]; exact h
   ·rw [if_neg e,Bool.or_eq_true]
    unfold IV at h
    rw [if_neg e] at h
    exact .inr h
  intro k
  induction k with
  | zero =>
   intro h
   rw [Mq,Mq,Bool.or_eq_true] at h
   rcases h with h | h
   ·rw [KF,KF,Bool.false_or,WY]
    by_cases e:IQ (D 0) (D (0 + 1)) = true
    ·rw [if_pos e]; exact (Vt e).1 h
    ·rw [if_neg e,Bool.or_eq_true]; exact .inl h
   ·exact g 0 h
  | succ k f =>
   intro h
   rw [Mq,Bool.or_eq_true] at h
   rcases h with h | h
   ·rw [KF,Bool.or_eq_true]; exact .inl (f h)
   ·exact g (k + 1) h
 intro k
 rw [Bool.eq_iff_iff]
 exact ⟨m k,l (k + 1)⟩
def tD (C p k:Int):Int:=max 0 (min C (k - p))
def DC (m:Gd) (p k:Int):HS:=(m.1.1 * m.2.2 + (m.2.1.1 - m.1.1) * tD m.2.2 p k,m.1.2 * m.2.2 + (m.2.1.2 - m.1.2) * tD m.2.2 p k)
theorem XX {C p k:Int} (h:1 ≤ C):0 ≤ tD C p k ∧ tD C p k ≤ C:=by unfold tD; omega
theorem Tp {a b c k B:Int} (e:0 ≤ a ∧ a ≤ B) (f:0 ≤ b ∧ b ≤ B) (g:0 ≤ k ∧ k ≤ c):0 ≤ a * c + (b - a) * k ∧ a * c + (b - a) * k ≤ B * c ∧ 0 ≤ a * c ∧ a * c ≤ B * c ∧ - (B * c) ≤ (b - a) * k ∧ (b - a) * k ≤ B * c:=by
 have h1:a * c + (b - a) * k = a * (c - k) + b * k:=by rw [Int.sub_mul,Int.mul_sub]; omega
 have h2:0 ≤ a * (c - k):=Int.mul_nonneg e.1 (by omega)
 have v:0 ≤ b * k:=Int.mul_nonneg f.1 g.1
 have u:a * (c - k) ≤ B * (c - k):=Int.mul_le_mul_of_nonneg_right e.2 (by omega)
 have m:b * k ≤ B * k:=Int.mul_le_mul_of_nonneg_right f.2 g.1
 have h:0 ≤ a * c:=Int.mul_nonneg e.1 (by omega)
 have l:a * c ≤ B * c:=Int.mul_le_mul_of_nonneg_right e.2 (by omega)
 have s:B * c = B * (c - k) + B * k:=by rw [← Int.mul_add]; congr 1; omega
 exact ⟨by omega,by omega,h,l,by omega,by omega⟩
theorem XF {m:Gd} (g:IA m) (h:1 ≤ m.2.2) (s:m.2.2 ≤ 16) (p k:Int):(0 ≤ (DC m p k).1 ∧ (DC m p k).1 ≤ 20480) ∧ 0 ≤ (DC m p k).2 ∧ (DC m p k).2 ≤ 10752:=by
 have h1:=FP.1 g.1
 have f:=FP.1 g.2
 have e:=XX (C:=m.2.2) (p:=p) (k:=k) h
 have l:=Tp h1.1 f.1 e
 have u:=Tp h1.2 f.2 e
 unfold DC
 dsimp only
 omega
theorem Y3 {m:Gd} (g:IA m) (s:1 ≤ m.2.2) (l:m.2.2 ≤ 16) {t:Int} (e:0 ≤ t ∧ t ≤ m.2.2):FSx m t = some (m.1.1 * m.2.2 + (m.2.1.1 - m.1.1) * t,m.1.2 * m.2.2 + (m.2.1.2 - m.1.2) * t) ∧ L9 m t = some (m.1.1 * m.2.2 + (m.2.1.1 - m.1.1) * t,m.1.2 * m.2.2 + (m.2.1.2 - m.1.2) * t):=by
 have h1:=FP.1 g.1
 have f:=FP.1 g.2
 have h:=Tp h1.1 f.1 e
 have u:=Tp h1.2 f.2 e
 unfold FSx L9
 rw [A8 (x:=m.2.1.1 - m.1.1) (by omega) (by omega),A8 (x:=m.2.1.2 - m.1.2) (by omega) (by omega),Int.mul_comm t,Int.mul_comm t,A8 (x:=m.1.1 * m.2.2) (by omega) (by omega),A8 (x:=m.1.2 * m.2.2) (by omega) (by omega),A8 (x:=(m.2.1.1 - m.1.1) * t) (by omega) (by omega),A8 (x:=(m.2.1.2 - m.1.2) * t) (by omega) (by omega),
  A8 (x:=m.1.1 * m.2.2 + _) (by omega) (by omega),A8 (x:=m.1.2 * m.2.2 + _) (by omega) (by omega)]
 exact ⟨rfl,rfl⟩
theorem Nv {m:Gd} (g:IA m) (f:1 ≤ m.2.2) (h:m.2.2 ≤ 16) {p k:Int} (l:0 ≤ p ∧ p ≤ 4) (s:0 ≤ k ∧ k ≤ 1000):Gj m p k = some (DC m p k):=by
 unfold Gj
 have e:Fr (FB (Ag (k - p)) 0) m.2.2 = tD m.2.2 p k:=by
  rw [A8 (by omega) (by omega)]
  unfold Fr FB tD
  split <;> split <;> omega
 rw [e,(Y3 g f h (XX f)).1]
 rfl
theorem QV (a b:Int):Hq a b = some (max a b):=by
 unfold Hq
 by_cases h:b < a
 ·rw [if_pos (by simpa using h),Int.max_eq_left (by omega)]
 ·rw [if_neg (by simpa using h),Int.max_eq_right (by omega)]
theorem O3 {m:Gd} (g:IA m) (e:1 ≤ m.2.2) (f:m.2.2 ≤ 16) {p k:Int} (h:0 ≤ p ∧ p ≤ 4) (l:0 ≤ k ∧ k ≤ 1000):Iu m p k = some (DC m p k):=by
 unfold Iu
 rw [A8 (by omega) (by omega),Ke,Aa,QV,Aa]
 rw [show max 0 (min m.2.2 (k - p)) = tD m.2.2 p k by rfl,(Y3 g e f (XX e)).2]
 rfl
structure My (P:HS):Prop where
 a1:-20480 ≤ P.1
 a2:P.1 ≤ 20480
 b1:-10752 ≤ P.2
 b2:P.2 ≤ 10752
structure Aet (P Q:HS):Prop where
 m1:-838860800 ≤ P.1 * (Q.1 - P.1) ∧ P.1 * (Q.1 - P.1) ≤ 838860800
 m2:-231211008 ≤ P.2 * (Q.2 - P.2) ∧ P.2 * (Q.2 - P.2) ≤ 231211008
 m3:0 ≤ (Q.1 - P.1) * (Q.1 - P.1) ∧ (Q.1 - P.1) * (Q.1 - P.1) ≤ 1677721600
 m4:0 ≤ (Q.2 - P.2) * (Q.2 - P.2) ∧ (Q.2 - P.2) * (Q.2 - P.2) ≤ 462422016
 m5:0 ≤ P.1 * P.1 ∧ P.1 * P.1 ≤ 419430400
 m6:0 ≤ P.2 * P.2 ∧ P.2 * P.2 ≤ 115605504
 m7:0 ≤ Q.1 * Q.1 ∧ Q.1 * Q.1 ≤ 419430400
 m8:0 ≤ Q.2 * Q.2 ∧ Q.2 * Q.2 ≤ 115605504
 m9:-220200960 ≤ P.1 * Q.2 ∧ P.1 * Q.2 ≤ 220200960
 m10:-220200960 ≤ P.2 * Q.1 ∧ P.2 * Q.1 ≤ 220200960
 m11:0 ≤ HA P Q * HA P Q ∧ HA P Q * HA P Q ≤ 193953851139686400
 m12:-440401920 ≤ P.1 * (Q.2 - P.2) ∧ P.1 * (Q.2 - P.2) ≤ 440401920
 m13:-440401920 ≤ P.2 * (Q.1 - P.1) ∧ P.2 * (Q.1 - P.1) ≤ 440401920
 m14:P.1 * (Q.2 - P.2) - P.2 * (Q.1 - P.1) = HA P Q
theorem Y0 {P Q:HS} (v:My P) (hQ:My Q):Aet P Q:=by
 obtain ⟨f,g,h,e⟩:=v
 obtain ⟨u,s,l,m⟩:=hQ
 have m9:=Mi f g l m
 have ad:=Mi h e u s
 have ab:=M4 (x:=HA P Q) (A:=440401920) (by unfold HA; omega) (by unfold HA; omega)
 refine ⟨Mi (A:=20480) (B:=40960) f g (by omega) (by omega),Mi (A:=10752) (B:=21504) h e (by omega) (by omega),M4 (A:=40960) (by omega) (by omega),M4 (A:=21504) (by omega) (by omega),M4 f g,M4 h e,M4 u s,M4 l m,by omega,by omega,by omega,Mi (A:=20480) (B:=21504) f g (by omega) (by omega),Mi (A:=10752) (B:=40960) h e (by omega) (by omega),?_⟩
 unfold HA
 grind
theorem XA {P Q:HS} (f:My P) (g:My Q):0 ≤ (IV P Q).1 ∧ (IV P Q).1 ≤ 193953851139686400 ∧ 0 < (IV P Q).2 ∧ (IV P Q).2 ≤ 2200000000:=by
 have b:=Y0 f g
 have:=b.m3
 have:=b.m4
 have:=b.m7
 have:=b.m8
 have:=b.m11
 unfold IV
 split
 ·rename_i h
  have:=S3 h
  have e:L3 P Q = (Q.1 - P.1) * (Q.1 - P.1) + (Q.2 - P.2) * (Q.2 - P.2):=rfl
  dsimp only
  omega
 ·have e:Jr Q = Q.1 * Q.1 + Q.2 * Q.2:=rfl
  dsimp only
  omega
theorem TX {P Q:HS} (f:My P) (g:My Q):0 ≤ (Mc P Q).1 ∧ (Mc P Q).1 ≤ 193953851139686400 ∧ 0 < (Mc P Q).2 ∧ (Mc P Q).2 ≤ 2200000000:=by
 have b:=Y0 f g
 have:=b.m3
 have:=b.m4
 have:=b.m5
 have:=b.m6
 have:=b.m7
 have:=b.m8
 have:=b.m11
 unfold Mc
 split
 ·rename_i h
  have:=S3 h
  have e:L3 P Q = (Q.1 - P.1) * (Q.1 - P.1) + (Q.2 - P.2) * (Q.2 - P.2):=rfl
  dsimp only
  omega
 ·have e:Jr Q = Q.1 * Q.1 + Q.2 * Q.2:=rfl
  have l:Jr P = P.1 * P.1 + P.2 * P.2:=rfl
  dsimp only
  omega
theorem Acy {P:HS} (e:My P):0 ≤ Jr P ∧ Jr P ≤ 535035904:=by
 have b:=Y0 e e
 have:=b.m5
 have:=b.m6
 unfold Jr
 omega
def XV (f:Int × Int):Prop:=0 ≤ f.1 ∧ f.1 ≤ 193953851139686400 ∧ 0 < f.2 ∧ f.2 ≤ 2200000000
theorem XK {a b:Int × Int} (f:XV a) (e:XV b):XV (Pc a b):=by unfold Pc; split <;> assumption
def Do (D:Nat → HS):Nat → Int × Int
 | 0=>(Jr (D 0),1)
 | k + 1=>Pc (Do D k) (IV (D k) (D (k + 1)))
def HF (D:Nat → HS):Nat → Int × Int
 | 0=>(-1,1)
 | k + 1=>if (HF D k).1 < 0 then Mc (D k) (D (k + 1)) else Pc (HF D k) (Mc (D k) (D (k + 1)))
theorem Qh {D:Nat → HS} (h:∀ k,My (D k)) (M:Int):∀ k,XV (Do D k) ∧ G9 M (Do D k) = Mq M D k
 | 0=>by
  have:=Acy (h 0)
  exact ⟨⟨by unfold Do; dsimp only; omega,by unfold Do; dsimp only; omega,by unfold Do; dsimp only; omega,by unfold Do; dsimp only; omega⟩,rfl⟩
 | k + 1=>by
  obtain ⟨h1,f⟩:=Qh h M k
  have e:=XA (h k) (h (k + 1))
  refine ⟨XK h1 e,?_⟩
  rw [Do,WX h1.2.2.1 e.2.2.1,f,Mq]
theorem Qg {D:Nat → HS} (h:∀ k,My (D k)) (M:Int):∀ k,XV (HF D (k + 1)) ∧ G9 M (HF D (k + 1)) = KF M D (k + 1)
 | 0=>by
  have e:=TX (h 0) (h 1)
  rw [HF,if_pos (by unfold HF; decide),KF,KF,Bool.false_or]
  exact ⟨e,rfl⟩
 | k + 1=>by
  obtain ⟨h1,g⟩:=Qg h M k
  have e:=TX (h (k + 1)) (h (k + 2))
  have f:¬ (HF D (k + 1)).1 < 0:=by have:=h1.1; omega
  rw [HF,if_neg f,WX h1.2.2.1 e.2.2.1,g,KF]
  exact ⟨XK h1 e,rfl⟩
structure U9 (u v:Gd) (p q:Int):Prop where
 gu:IA u
 gv:IA v
 c1:1 ≤ u.2.2
 c16:u.2.2 ≤ 16
 e:v.2.2 = u.2.2
 p0:0 ≤ p ∧ p ≤ 4
 q0:0 ≤ q ∧ q ≤ 4
def BG (u v:Gd) (p q:Int) (k:Nat):HS:=((DC u p (k:Int)).1 - (DC v q (k:Int)).1,(DC u p (k:Int)).2 - (DC v q (k:Int)).2)
theorem WN {u v:Gd} {p q:Int} (f:U9 u v p q) (k:Nat):My (BG u v p q k):=by
 have h1:=XF f.gu f.c1 f.c16 p (k:Int)
 have g:=XF f.gv (by rw [f.e]; exact f.c1) (by rw [f.e]; exact f.c16) q (k:Int)
 unfold BG
 exact ⟨by dsimp only; omega,by dsimp only; omega,by dsimp only; omega,by dsimp only; omega⟩
def Cr (u:Gd) (p q:Int):Nat:=(u.2.2 + max p q).toNat
def La (u v:Gd) (p q least:Int):Bool:=KF (least * least * u.2.2 * u.2.2) (BG u v p q) (Cr u p q)
structure Aes (P Q:HS):Prop where
 w1:Ag (Q.1 - P.1) = Q.1 - P.1
 w2:Ag (Q.2 - P.2) = Q.2 - P.2
 w3:Ag (P.1 * (Q.2 - P.2)) = P.1 * (Q.2 - P.2)
 w4:Ag (P.2 * (Q.1 - P.1)) = P.2 * (Q.1 - P.1)
 w5:Ag (P.1 * (Q.2 - P.2) - P.2 * (Q.1 - P.1)) = HA P Q
 w6:Ag (HA P Q * HA P Q) = HA P Q * HA P Q
 w7:Ag ((Q.1 - P.1) * (Q.1 - P.1)) = (Q.1 - P.1) * (Q.1 - P.1)
 w8:Ag ((Q.2 - P.2) * (Q.2 - P.2)) = (Q.2 - P.2) * (Q.2 - P.2)
 w9:Ag ((Q.1 - P.1) * (Q.1 - P.1) + (Q.2 - P.2) * (Q.2 - P.2)) = L3 P Q
 w10:Ag (P.1 * (Q.1 - P.1)) = P.1 * (Q.1 - P.1)
 w11:Ag (P.2 * (Q.2 - P.2)) = P.2 * (Q.2 - P.2)
 w12:Ag (P.1 * (Q.1 - P.1) + P.2 * (Q.2 - P.2)) = P.1 * (Q.1 - P.1) + P.2 * (Q.2 - P.2)
 w13:Ag (0 - (P.1 * (Q.1 - P.1) + P.2 * (Q.2 - P.2))) = 0 - (P.1 * (Q.1 - P.1) + P.2 * (Q.2 - P.2))
 w14:Ag (Q.1 * Q.1) = Q.1 * Q.1
 w15:Ag (Q.2 * Q.2) = Q.2 * Q.2
 w16:Ag (Q.1 * Q.1 + Q.2 * Q.2) = Jr Q
 w17:Ag (P.1 * P.1) = P.1 * P.1
 w18:Ag (P.2 * P.2) = P.2 * P.2
 w19:Ag (P.1 * P.1 + P.2 * P.2) = Jr P
 w20:Ag (P.1 * Q.2) = P.1 * Q.2
 w21:Ag (P.2 * Q.1) = P.2 * Q.1
 w22:Ag (P.1 * Q.2 - P.2 * Q.1) = HA P Q
theorem Aaw {P Q:HS} (e:My P) (f:My Q):Aes P Q:=by
 have b:=Y0 e f
 have:=b.m1; have:=b.m2; have:=b.m3; have:=b.m4; have:=b.m5; have:=b.m6; have:=b.m7; have:=b.m8; have:=b.m9; have:=b.m10; have:=b.m11; have:=b.m12; have:=b.m13; have g:=b.m14
 have:=e.a1; have:=e.a2; have:=e.b1; have:=e.b2; have:=f.a1; have:=f.a2; have:=f.b1; have:=f.b2
 have l:L3 P Q = (Q.1 - P.1) * (Q.1 - P.1) + (Q.2 - P.2) * (Q.2 - P.2):=rfl
 have h:Jr Q = Q.1 * Q.1 + Q.2 * Q.2:=rfl
 have s:Jr P = P.1 * P.1 + P.2 * P.2:=rfl
 have m:HA P Q = P.1 * Q.2 - P.2 * Q.1:=rfl
 constructor <;> (try rw [A8 (by omega) (by omega)]) <;> first | done | omega
theorem ZO {R:Type} {P Q:HS} (f:Int → Int → Af R):(if IQ P Q = true then f (HA P Q * HA P Q) (L3 P Q) else f (Jr Q) 1) = f (IV P Q).1 (IV P Q).2:=by
 unfold IV
 split <;> rfl
theorem RI {u v:Gd} {p q:Int} (f:U9 u v p q):∃ r:Int × Int,Gl u v p q = some r ∧ 0 < r.2 ∧ r.2 ≤ 1000000000000 ∧ ∀ K,G9 K r = Mq (K * u.2.2 * u.2.2) (BG u v p q) (Cr u p q):=by
 have h:=f.c1
 have l:=f.c16
 have hp:=f.p0
 have hq:=f.q0
 have am:1 ≤ v.2.2:=by rw [f.e]; exact h
 have an:v.2.2 ≤ 16:=by rw [f.e]; exact l
 have hT:((Cr u p q:Nat):Int) = u.2.2 + max p q:=by unfold Cr; omega
 have bl:Cr u p q ≤ 20:=by omega
 have ac:=WN f
 have ap:=fun M=>Qh ac M (Cr u p q)
 obtain ⟨b1,b2,b3,b4⟩:=(ap 0).1
 obtain ⟨g1,bh,l1,l2,l3,l4,l5,l6⟩:=Nb b1 (by omega) b3 (by omega)
 have bo:1 ≤ u.2.2 * u.2.2 ∧ u.2.2 * u.2.2 ≤ 256:=⟨Int.mul_le_mul h h (by omega) (by omega),Int.mul_le_mul l l (by omega) (by omega)⟩
 have d1:(Ir (Do (BG u v p q) (Cr u p q)).1 (Do (BG u v p q) (Cr u p q)).2).2 * u.2.2 ≤ 2200000000 * 16:=Int.mul_le_mul (by omega) l (by omega) (by omega)
 have d2:1 * 1 ≤ (Ir (Do (BG u v p q) (Cr u p q)).1 (Do (BG u v p q) (Cr u p q)).2).2 * u.2.2:=Int.mul_le_mul (by omega) h (by omega) (by omega)
 have d3:(Ir (Do (BG u v p q) (Cr u p q)).1 (Do (BG u v p q) (Cr u p q)).2).2 * u.2.2 * u.2.2 ≤ 2200000000 * 16 * 16:=Int.mul_le_mul d1 l (by omega) (by omega)
 have d4:1 * 1 ≤ (Ir (Do (BG u v p q) (Cr u p q)).1 (Do (BG u v p q) (Cr u p q)).2).2 * u.2.2 * u.2.2:=Int.mul_le_mul (by omega) h (by omega) (by omega)
 have aw:Gl u v p q = some (Ir (Ir (Do (BG u v p q) (Cr u p q)).1 (Do (BG u v p q) (Cr u p q)).2).1 ((Ir (Do (BG u v p q) (Cr u p q)).1 (Do (BG u v p q) (Cr u p q)).2).2 * u.2.2 * u.2.2)):=by
  unfold Gl
  have z1:tD u.2.2 p 0 = 0:=by unfold tD; omega
  have z2:tD v.2.2 q 0 = 0:=by unfold tD; omega
  have a1:FSx u 0 = some (DC u p 0):=by rw [(Y3 f.gu h l (t:=0) (by omega)).1]; unfold DC; rw [z1]
  have a2:FSx v 0 = some (DC v q 0):=by rw [(Y3 f.gv am an (t:=0) (by omega)).1]; unfold DC; rw [z2]
  have h0:=ac 0
  have w0:=Aaw h0 h0
  have:=h0.a1; have:=h0.a2; have:=h0.b1; have:=h0.b2
  have e1:Ag ((DC u p 0).1 - (DC v q 0).1) = (BG u v p q 0).1:=by
   have:(DC u p 0).1 - (DC v q 0).1 = (BG u v p q 0).1:=rfl
   rw [this,A8 (by omega) (by omega)]
  have e2:Ag ((DC u p 0).2 - (DC v q 0).2) = (BG u v p q 0).2:=by
   have:(DC u p 0).2 - (DC v q 0).2 = (BG u v p q 0).2:=rfl
   rw [this,A8 (by omega) (by omega)]
  rw [a1,Aa,a2,Aa,e1,e2,w0.w14,w0.w15,w0.w16]
  have ay:=EI (fun m (s:Int × Int × Int × Int) k=>C1 u p q v m s.1 s.2.1 s.2.2.1 s.2.2.2 (k + 1)) (Cr u p q) (fun k=>((BG u v p q k).1,(BG u v p q k).2,(Do (BG u v p q) k).1,(Do (BG u v p q) k).2)) (some (Ir (Ir (Do (BG u v p q) (Cr u p q)).1 (Do (BG u v p q) (Cr u p q)).2).1 ((Ir (Do (BG u v p q) (Cr u p q)).1 (Do (BG u v p q) (Cr u p q)).2).2 * u.2.2 * u.2.2))) (by omega) (j:=0) (by omega) (fun m k _ hk=>?_) (fun m=>?_)
  ·exact ay
  ·dsimp only
   have hP:=ac k
   have hQ:=ac (k + 1)
   have w:=Aaw hP hQ
   have:=hQ.a1; have:=hQ.a2; have:=hQ.b1; have:=hQ.b2
   have ak:FB p q = max p q:=by unfold FB; split <;> omega
   have c1:Ag ((DC u p ((k:Int) + 1)).1 - (DC v q ((k:Int) + 1)).1) = (BG u v p q (k + 1)).1:=by
    have:(DC u p ((k:Int) + 1)).1 - (DC v q ((k:Int) + 1)).1 = (BG u v p q (k + 1)).1:=rfl
    rw [this,A8 (by omega) (by omega)]
   have c2:Ag ((DC u p ((k:Int) + 1)).2 - (DC v q ((k:Int) + 1)).2) = (BG u v p q (k + 1)).2:=by
    have:(DC u p ((k:Int) + 1)).2 - (DC v q ((k:Int) + 1)).2 = (BG u v p q (k + 1)).2:=rfl
    rw [this,A8 (by omega) (by omega)]
   obtain ⟨⟨i1,i2,i3,i4⟩,_⟩:=Qh ac 0 k
   obtain ⟨s1,s2,s3,s4⟩:=XA hP hQ
   rw [C1,ak,A8 (x:=u.2.2 + _) (by omega) (by omega),if_pos (by rw [C9]; omega),Nv f.gu h l hp (by omega),Aa,Nv f.gv am an hq (by omega),Aa,c1,c2]
   simp only [Bj,FT,w.w1,w.w2,w.w3,w.w4,w.w5,w.w6,w.w7,w.w8,w.w9,w.w10,w.w11,w.w12,w.w13,w.w14,w.w15,w.w16]
   have az:∀ a b:Int,0 ≤ a → a ≤ 193953851139686400 → 0 < b → b ≤ 2200000000 → (Option.bind (Ft a b (Do (BG u v p q) k).1 (Do (BG u v p q) k).2) fun ai=>if ai = true then C1 u p q v m (BG u v p q (k + 1)).1 (BG u v p q (k + 1)).2 a b (Ag ((k:Int) + 1 + 1)) else C1 u p q v m (BG u v p q (k + 1)).1 (BG u v p q (k + 1)).2 (Do (BG u v p q) k).1 (Do (BG u v p q) k).2 (Ag ((k:Int) + 1 + 1))) = C1 u p q v m (BG u v p q (k + 1)).1 (BG u v p q (k + 1)).2 (Pc (Do (BG u v p q) k) (a,b)).1 (Pc (Do (BG u v p q) k) (a,b)).2 (((k + 1:Nat):Int) + 1):=by
    intro a b h1 h2 h3 h4
    rw [RH _ _ _ _ h1 (by omega) (by omega) (by omega) i1 (by omega) (by omega) (by omega),Aa,A8 (by omega) (by omega)]
    unfold Pc
    split <;> rfl
   have hl:=az (IV (BG u v p q k) (BG u v p q (k + 1))).1 (IV (BG u v p q k) (BG u v p q (k + 1))).2 s1 s2 s3 s4
   rw [Do]
   refine Eq.trans ?_ hl
   rw [← ZO (P:=BG u v p q k) (Q:=BG u v p q (k + 1)) (f:=fun a b=>Option.bind (Ft a b (Do (BG u v p q) k).1 (Do (BG u v p q) k).2) fun ai=>if ai = true then C1 u p q v m (BG u v p q (k + 1)).1 (BG u v p q (k + 1)).2 a b (Ag ((k:Int) + 1 + 1)) else C1 u p q v m (BG u v p q (k + 1)).1 (BG u v p q (k + 1)).2 (Do (BG u v p q) k).1 (Do (BG u v p q) k).2 (Ag ((k:Int) + 1 + 1)))]
   unfold IQ
   change _ = if (decide _ && decide (_ < L3 _ _)) = true then _ else _
   by_cases h1:(BG u v p q k).1 * ((BG u v p q (k + 1)).1 - (BG u v p q k).1) + (BG u v p q k).2 * ((BG u v p q (k + 1)).2 - (BG u v p q k).2) < 0
   ·rw [if_pos (decide_eq_true h1),decide_eq_true h1,Bool.true_and]
   ·rw [if_neg (by simpa using h1),decide_eq_false h1]
    rfl
  ·dsimp only
   have ak:FB p q = max p q:=by unfold FB; split <;> omega
   rw [C1,ak,A8 (x:=u.2.2 + _) (by omega) (by omega),if_neg (by rw [C9]; omega),LJ _ _ b1 (by omega) b3 (by omega),Aa,A8 (x:=(Ir (Do (BG u v p q) (Cr u p q)).1 (Do (BG u v p q) (Cr u p q)).2).2 * u.2.2) (by omega) (by omega),A8 (by omega) (by omega),LJ _ _ l3 (by omega) (by omega) (by omega),Aa]
 refine ⟨_,aw,?_,?_,fun K=>?_⟩
 ·obtain ⟨g,_,_,_,_,_,k5,_⟩:=Nb (a:=(Ir (Do (BG u v p q) (Cr u p q)).1 (Do (BG u v p q) (Cr u p q)).2).1) (b:=(Ir (Do (BG u v p q) (Cr u p q)).1 (Do (BG u v p q) (Cr u p q)).2).2 * u.2.2 * u.2.2) l3 (by omega) (by omega) (by omega)
  exact k5
 ·obtain ⟨g,_,_,_,_,_,k5,k6⟩:=Nb (a:=(Ir (Do (BG u v p q) (Cr u p q)).1 (Do (BG u v p q) (Cr u p q)).2).1) (b:=(Ir (Do (BG u v p q) (Cr u p q)).1 (Do (BG u v p q) (Cr u p q)).2).2 * u.2.2 * u.2.2) l3 (by omega) (by omega) (by omega)
  omega
 ·rw [U7 l3 (by omega) (by omega) (by omega),← (ap (K * u.2.2 * u.2.2)).2]
  have:G9 (K * u.2.2 * u.2.2) (Do (BG u v p q) (Cr u p q)) = G9 (K * u.2.2 * u.2.2) (Ir (Do (BG u v p q) (Cr u p q)).1 (Do (BG u v p q) (Cr u p q)).2):=(U7 b1 (by omega) b3 (by omega)).symm
  rw [this]
  unfold G9
  rw [decide_eq_decide]
  dsimp only
  generalize (Ir (Do (BG u v p q) (Cr u p q)).1 (Do (BG u v p q) (Cr u p q)).2).2 = B
  rw [show K * (B * u.2.2 * u.2.2) = K * u.2.2 * u.2.2 * B by grind]
theorem X3 {M:Int} {D:Nat → HS} {T:Nat} (h:1 ≤ T):Mq M D T = KF M D T:=by
 obtain ⟨k,rfl⟩:∃ k,T = k + 1:=⟨T - 1,by omega⟩
 exact Adm k
theorem Nx {u v:Gd} {p q e:Int} (f:U9 u v p q) (hl:0 ≤ e ∧ e ≤ 80):Gm u v p q e = some (La u v p q e):=by
 obtain ⟨r,h1,h2,l,h⟩:=RI f
 have g:=M4 (x:=e) (A:=80) (by omega) (by omega)
 have hm:=Int.mul_le_mul g.2 l (by omega) (by omega)
 have m:0 ≤ e * e * r.2:=Int.mul_nonneg g.1 (by omega)
 unfold Gm La
 rw [h1,Aa,A8 (x:=e * e) (by omega) (by omega),A8 (by omega) (by omega)]
 have:=h (e * e)
 unfold G9 at this
 have hc:=f.c1
 have s:=f.p0
 rw [this,X3 (by unfold Cr; omega)]
theorem ZN {R:Type} {P Q:HS} (f:Int → Int → Af R):(if IQ P Q = true then f (HA P Q * HA P Q) (L3 P Q) else f (min (Jr P) (Jr Q)) 1) = f (Mc P Q).1 (Mc P Q).2:=by
 unfold Mc
 split <;> rfl
theorem Xq {P Q:HS} (e:My P) (g:My Q):Kp P.1 P.2 Q.1 Q.2 = some (Mc P Q):=by
 have w:=Aaw e g
 unfold Kp
 simp only [Bj,w.w1,w.w2,w.w7,w.w8,w.w9,w.w10,w.w11,w.w12,w.w13,w.w14,w.w15,w.w16,w.w17,w.w18,w.w19,w.w20,w.w21,w.w22,w.w6,Ke,Aa]
 have:=ZN (P:=P) (Q:=Q) (f:=fun a b=>some (a,b))
 refine Eq.trans ?_ this
 unfold IQ
 change _ = if (decide _ && decide (_ < L3 _ _)) = true then _ else _
 by_cases h1:P.1 * (Q.1 - P.1) + P.2 * (Q.2 - P.2) < 0
 ·rw [if_pos (by rw [C9]; omega),decide_eq_true h1,Bool.true_and]
 ·rw [if_neg (by rw [C9]; omega),decide_eq_false h1]
  rfl
theorem Wb {u v:Gd} {p q:Int} (f:U9 u v p q):∃ r:Int × Int,I1 u v p q = some r ∧ 0 ≤ r.1 ∧ r.1 ≤ 193953851139686400 ∧ 0 < r.2 ∧ r.2 ≤ 1000000000000 ∧ ∀ K,G9 K r = KF (K * u.2.2 * u.2.2) (BG u v p q) (Cr u p q):=by
 have aa:=f.c1
 have ab:=f.c16
 have hp:=f.p0
 have hq:=f.q0
 have ah:1 ≤ v.2.2:=by rw [f.e]; exact aa
 have ai:v.2.2 ≤ 16:=by rw [f.e]; exact ab
 have hT:((Cr u p q:Nat):Int) = u.2.2 + max p q:=by unfold Cr; omega
 have bb:Cr u p q ≤ 20:=by omega
 have ae:=WN f
 obtain ⟨T,a5⟩:∃ T,Cr u p q = T + 1:=⟨Cr u p q - 1,by omega⟩
 have ak:∀ M,XV (HF (BG u v p q) (Cr u p q)) ∧ G9 M (HF (BG u v p q) (Cr u p q)) = KF M (BG u v p q) (Cr u p q):=fun M=>by rw [a5]; exact Qg ae M T
 obtain ⟨b1,b2,b3,b4⟩:=(ak 0).1
 have d1:(HF (BG u v p q) (Cr u p q)).2 * u.2.2 ≤ 2200000000 * 16:=Int.mul_le_mul b4 ab (by omega) (by omega)
 have d2:1 * 1 ≤ (HF (BG u v p q) (Cr u p q)).2 * u.2.2:=Int.mul_le_mul (by omega) aa (by omega) (by omega)
 have d3:(HF (BG u v p q) (Cr u p q)).2 * u.2.2 * u.2.2 ≤ 2200000000 * 16 * 16:=Int.mul_le_mul d1 ab (by omega) (by omega)
 have d4:1 * 1 ≤ (HF (BG u v p q) (Cr u p q)).2 * u.2.2 * u.2.2:=Int.mul_le_mul (by omega) aa (by omega) (by omega)
 have ap:I1 u v p q = some (Ir (HF (BG u v p q) (Cr u p q)).1 ((HF (BG u v p q) (Cr u p q)).2 * u.2.2 * u.2.2)):=by
  unfold I1
  have ar:=EI (fun m (s:Int × Int) k=>EZ p q u v m s.1 s.2 k) (Cr u p q) (fun k=>((HF (BG u v p q) k).1,(HF (BG u v p q) k).2)) (some (Ir (HF (BG u v p q) (Cr u p q)).1 ((HF (BG u v p q) (Cr u p q)).2 * u.2.2 * u.2.2))) (by omega) (j:=0) (by omega) (fun m k _ hk=>?_) (fun m=>?_)
  ·exact ar
  ·dsimp only
   have h:=ae k
   have l:=ae (k + 1)
   have:=h.a1; have:=h.a2; have:=h.b1; have:=h.b2
   have:=l.a1; have:=l.a2; have:=l.b1; have:=l.b2
   have e1:Ag ((DC u p (k:Int)).1 - (DC v q (k:Int)).1) = (BG u v p q k).1:=by
    have:(DC u p (k:Int)).1 - (DC v q (k:Int)).1 = (BG u v p q k).1:=rfl
    rw [this,A8 (by omega) (by omega)]
   have e2:Ag ((DC u p (k:Int)).2 - (DC v q (k:Int)).2) = (BG u v p q k).2:=by
    have:(DC u p (k:Int)).2 - (DC v q (k:Int)).2 = (BG u v p q k).2:=rfl
    rw [this,A8 (by omega) (by omega)]
   have c1:Ag ((DC u p ((k + 1:Nat):Int)).1 - (DC v q ((k + 1:Nat):Int)).1) = (BG u v p q (k + 1)).1:=by
    have:(DC u p ((k + 1:Nat):Int)).1 - (DC v q ((k + 1:Nat):Int)).1 = (BG u v p q (k + 1)).1:=rfl
    rw [this,A8 (by omega) (by omega)]
   have c2:Ag ((DC u p ((k + 1:Nat):Int)).2 - (DC v q ((k + 1:Nat):Int)).2) = (BG u v p q (k + 1)).2:=by
    have:(DC u p ((k + 1:Nat):Int)).2 - (DC v q ((k + 1:Nat):Int)).2 = (BG u v p q (k + 1)).2:=rfl
    rw [this,A8 (by omega) (by omega)]
   obtain ⟨s1,s2,s3,s4⟩:=TX h l
   rw [EZ,QV,Aa,A8 (x:=u.2.2 + _) (by omega) (by omega),if_pos (by rw [C9]; omega)]
   unfold FT Bj
   dsimp only
   rw [O3 f.gu aa ab hp (by omega),Aa,O3 f.gv ah ai hq (by omega),Aa,AC (k:=k) (by omega),O3 f.gu aa ab hp (by omega),Aa,O3 f.gv ah ai hq (by omega),Aa,e1,e2,c1,c2,Xq h l,Aa,HF]
   by_cases hn:(HF (BG u v p q) k).1 < 0
   ·rw [if_pos (decide_eq_true hn),if_pos rfl,if_pos hn]
   ·have av:∃ j,k = j + 1:=by
     cases k with
     | zero=>exact absurd (show (-1:Int) < 0 by decide) hn
     | succ j=>exact ⟨j,rfl⟩
    obtain ⟨j,rfl⟩:=av
    obtain ⟨⟨i1,i2,i3,i4⟩,_⟩:=Qg ae 0 j
    rw [if_neg (by simpa using hn),Xt _ _ _ _ s1 (by omega) s3 (by omega) i1 (by omega) i3 (by omega),Aa,if_neg hn]
    unfold Pc
    split <;> rfl
  ·dsimp only
   rw [EZ,QV,Aa,A8 (x:=u.2.2 + _) (by omega) (by omega),if_neg (by rw [C9]; omega),A8 (x:=(HF (BG u v p q) (Cr u p q)).2 * u.2.2) (by omega) (by omega),A8 (by omega) (by omega),RZ _ _ b1 (by omega) (by omega) (by omega),Aa]
 obtain ⟨g,_,_,_,k3,k4,k5,k6⟩:=Nb (a:=(HF (BG u v p q) (Cr u p q)).1) (b:=(HF (BG u v p q) (Cr u p q)).2 * u.2.2 * u.2.2) b1 (by omega) (by omega) (by omega)
 refine ⟨_,ap,k3,by omega,k5,by omega,fun K=>?_⟩
 rw [U7 b1 (by omega) (by omega) (by omega),← (ak (K * u.2.2 * u.2.2)).2]
 unfold G9
 rw [decide_eq_decide]
 dsimp only
 generalize (HF (BG u v p q) (Cr u p q)).2 = B
 rw [show K * (B * u.2.2 * u.2.2) = K * u.2.2 * u.2.2 * B by grind]
theorem RX {u v:Gd} {p q e:Int} (f:U9 u v p q) (hl:0 ≤ e ∧ e ≤ 80):Je u v p q e = some (!La u v p q e):=by
 obtain ⟨r,h1,g,h3,h,h5,l⟩:=Wb f
 have hL:=M4 (x:=e) (A:=80) (by omega) (by omega)
 unfold Je La
 have s:=Int.ediv_nonneg g (Int.le_of_lt h)
 have ad:r.1 / r.2 ≤ r.1:=Int.ediv_le_self _ g
 have m:¬ r.2 = 0:=by omega
 rw [h1,Aa,if_neg m,A8 (x:=e * e) (by omega) (by omega),Int.tdiv_eq_ediv_of_nonneg g,A8 (by omega) (by omega),← l (e * e)]
 unfold G9
 congr 1
 rw [Bool.eq_iff_iff]
 simp only [Bool.not_eq_true',C9,decide_eq_false_iff_not]
 rw [Int.le_ediv_iff_mul_le h]
 omega
def Pg (ft:Nat → Nat → Int → Int → Bool) (ds:List Int) (p:Int):Bool:=(List.range ds.length).all fun i=>ft i ds.length (ds.getD i 0) p
def LN (ft:Nat → Nat → Int → Int → Bool):Nat → List Int → Bool
 | 0,_=>true
 | r + 1,ds=>(List.range 5).any fun (p:Nat)=>Pg ft ds (p:Int) && LN ft r (ds ++ [(p:Int)])
def LM (ft:Nat → Nat → Int → Int → Bool):Nat → List Int → Nat → Bool
 | 0,_,s=>s == 0
 | r + 1,ds,s=>(List.range (min s 4 + 1)).any fun (p:Nat)=>Pg ft ds (p:Int) && LM ft r (ds ++ [(p:Int)]) (s - p)
theorem RF (f:Nat → Nat → Int → Int → Bool):∀ (r:Nat) (ds:List Int),LN f r ds = true ↔ ∃ s,s ≤ 4 * r ∧ LM f r ds s = true
 | 0,ds=>by simp [LN,LM]
 | r + 1,ds=>by
  rw [LN,List.any_eq_true]
  constructor
  ·rintro ⟨p,e,h⟩
   rw [Ck,RF f r] at h
   obtain ⟨h1,s,h2,v⟩:=h
   have g:=List.mem_range.1 e
   refine ⟨s + p,by omega,?_⟩
   rw [LM,List.any_eq_true]
   refine ⟨p,List.mem_range.2 (by omega),?_⟩
   rw [Ck,Nat.add_sub_cancel]
   exact ⟨h1,v⟩
  ·rintro ⟨s,hs,h⟩
   rw [LM,List.any_eq_true] at h
   obtain ⟨p,e,h⟩:=h
   rw [Ck] at h
   have g:=List.mem_range.1 e
   refine ⟨p,List.mem_range.2 (by omega),?_⟩
   rw [Ck,RF f r]
   refine ⟨h.1,?_⟩
   by_cases l:s - p ≤ 4 * r
   ·exact ⟨s - p,l,h.2⟩
   ·exfalso
    have m:∀ (r:Nat) (ds:List Int) (s:Nat),LM f r ds s = true → s ≤ 4 * r:=by
     intro r
     induction r with
     | zero=>intro ds s h; simpa [LM] using h
     | succ r u =>
      intro ds s h
      rw [LM,List.any_eq_true] at h
      obtain ⟨p,e,h⟩:=h
      rw [Ck] at h
      have g:=List.mem_range.1 e
      have:=u _ _ h.2
      omega
    exact l (m r _ _ h.2)
theorem Zn {R:Type} (f:Nat → Int → Af R) (n:Nat) (p:Nat → Bool) (e:Nat → Af R) (g:Af R) (hn:n < 4611686018427387904)
  (hs:∀ m k,k < n → f (m + 1) (k:Int) = if p k = true then e k else f m ((k + 1:Nat):Int)) (s:∀ m,f (m + 1) (n:Int) = g) {j:Nat} (hj:j ≤ n):f FU (j:Int) = match (List.range' j (n - j)).find? p with
   | some k=>e k
   | none=>g:=by
 have u:∀ d k m,n - k = d → k ≤ n → d < m → f m (k:Int) = match (List.range' k d).find? p with
   | some k=>e k
   | none=>g:=by
  intro d
  induction d with
  | zero =>
   intro k m l hk hm
   have:k = n:=by omega
   subst this
   cases m with
   | zero=>omega
   | succ m=>rw [s]; rfl
  | succ d v =>
   intro k m l hk hm
   cases m with
   | zero=>omega
   | succ m =>
    rw [hs m k (by omega),List.range'_succ,List.find?_cons]
    by_cases h:p k = true
    ·rw [if_pos h,h]
    ·have h':p k = false:=by simpa using h
     rw [if_neg h,h']
     exact v (k + 1) m (by omega) (by omega) (by omega)
 exact u (n - j) j FU rfl hj (D1 (by omega))
theorem IY {ι S R:Type} (f:ι → Nat → S → Int → Af R) (n:Nat) (g:Nat → S → Prop) (rest:ι → S → Af R) (hn:n < 4611686018427387904) {b:Nat}
  (hs:∀ k s,b ≤ k → k < n → g k s → ∃ e,g (k + 1) e ∧ ∀ j m,f j (m + 1) s (k:Int) = f j m e ((k + 1:Nat):Int)) (he:∀ s,g n s → ∀ j m,f j (m + 1) s (n:Int) = rest j s) (hb:b ≤ n) {s:S} (h0:g b s) :
  ∃ e,g n e ∧ ∀ j,f j FU s (b:Int) = rest j e:=by
 have ac:∀ d k s,n - k = d → b ≤ k → k ≤ n → g k s → ∃ e,g n e ∧ ∀ j m,d < m → f j m s (k:Int) = rest j e:=by
  intro d
  induction d with
  | zero =>
   intro k s v u hk h
   have:k = n:=by omega
   subst this
   refine ⟨s,h,fun j m hm=>?_⟩
   cases m with
   | zero=>omega
   | succ m=>exact he s h j m
  | succ d ih =>
   intro k s v u hk h
   obtain ⟨e,h1,l⟩:=hs k s u (by omega) h
   obtain ⟨s2,h3,h4⟩:=ih (k + 1) e (by omega) (by omega) (by omega) h1
   refine ⟨s2,h3,fun j m hm=>?_⟩
   cases m with
   | zero=>omega
   | succ m=>rw [l]; exact h4 j m (by omega)
 obtain ⟨e,h1,l⟩:=ac (n - b) b s rfl (Nat.le_refl _) hb h0
 exact ⟨e,h1,fun j=>l j FU (D1 (by omega))⟩
theorem XM {S R:Type} (f:Nat → S → Int → Af R) (n:Nat) (e:S → Prop) (a:Nat → Bool) (l v:R → Prop) (hn:n < 4611686018427387904)
  (hs:∀ k s,k < n → e s → (a k = true ∧ ∃ r,l r ∧ ∀ m,f (m + 1) s (k:Int) = some r) ∨ (a k = false ∧ ∃ h,e h ∧ ∀ m,f (m + 1) s (k:Int) = f m h ((k + 1:Nat):Int)))
  (he:∀ s,e s → ∃ r,v r ∧ ∀ m,f (m + 1) s (n:Int) = some r) {s:S} (h0:e s):∃ r,f FU s 0 = some r ∧ (((List.range n).any a = true ∧ l r) ∨ ((List.range n).any a = false ∧ v r)):=by
 have ad:∀ d k m s,n - k = d → k ≤ n → d < m → e s → ∃ r,f m s (k:Int) = some r ∧ (((List.range' k d).any a = true ∧ l r) ∨ ((List.range' k d).any a = false ∧ v r)):=by
  intro d
  induction d with
  | zero =>
   intro k m s hd hk hm u
   have:k = n:=by omega
   subst this
   cases m with
   | zero=>omega
   | succ m =>
    obtain ⟨r,h1,g⟩:=he s u
    exact ⟨r,g m,.inr ⟨rfl,h1⟩⟩
  | succ d ih =>
   intro k m s hd hk hm u
   cases m with
   | zero=>omega
   | succ m =>
    rw [List.range'_succ,List.any_cons]
    rcases hs k s (by omega) u with ⟨h1,r,g,h3⟩ | ⟨h1,h,g,h3⟩
    ·exact ⟨r,h3 m,.inl ⟨by rw [h1]; rfl,g⟩⟩
    ·rw [h3,h1,Bool.false_or]
     exact ih (k + 1) m h (by omega) (by omega) (by omega) g
 have:=ad n 0 FU s rfl (by omega) (D1 hn) h0
 rwa [← List.range_eq_range'] at this
structure RepF (t:BW) (least:Int):Prop where
 tr:XU t
 c16:t.2.2.1 ≤ 16
 n6:t.1.length ≤ 6
 l0:0 ≤ least ∧ least ≤ 80
theorem RepF.del {t:BW} {e:Int} (f:RepF t e) {i k:Nat} (h:i < t.1.length) (m:k < t.1.length) {p q:Int} (g:0 ≤ p ∧ p ≤ 4) (l:0 ≤ q ∧ q ≤ 4):U9 (Ho t i) (Ho t k) p q :=
 ⟨Kd f.tr h,Kd f.tr m,f.tr.can.n1,f.c16,rfl,g,l⟩
def Ub (t:BW) (least:Int) (i k:Nat):Bool:=La (Ho t i) (Ho t k) 0 0 least
theorem Rw {n i:Nat} (h:i < n):(List.replicate n (0:Int))[i]? = some 0:=by simp [h]
theorem Xy {t:BW} {e:Int} (f:RepF t e):Hx t (List.replicate t.1.length 0) e = some (JB (Ub t e) t.1.length t.1.length):=by
 have u:=f.n6
 unfold Hx
 rw [Ok f.tr,Aa]
 refine N4 (D9 (G8 t) (List.replicate t.1.length 0) e) (fun h i=>D8 (G8 t) (i:Int) (List.replicate t.1.length 0) e h) _ _ (by omega) (fun m s i g=>?_) (fun h i m s k g l v=>?_) (fun h i m s g=>?_) (fun m s=>?_)
 ·rw [D9,if_pos (by rw [Eb]; simp; omega),AC (by omega)]
 ·rw [D8,if_pos (by rw [Eb]; simp; omega)]
  unfold Bj Ub
  dsimp only
  rw [AX,Ix t g,Aa,AX,Ix t l,Aa,AX,Rw g,Aa,AX,Rw l,Aa,Nx (f.del g l (by omega) (by omega)) f.l0,Aa,Bm (by simp; omega),Aa,AC (by omega)]
  cases La (Ho t i) (Ho t k) 0 0 e <;> rfl
 ·rw [D8,if_neg (by rw [Eb]; simp),AC (by omega)]
 ·rw [D9,if_neg (by rw [Eb]; simp)]
theorem RY {t:BW} {e:Int} (f:RepF t e):I2 t (List.replicate t.1.length 0) e = some (JB (Ub t e) t.1.length t.1.length):=by
 have u:=f.n6
 unfold I2
 rw [Ma f.tr,Aa]
 refine N4 (Fd (G8 t) (List.replicate t.1.length 0) e) (fun h i=>Fc (G8 t) (List.replicate t.1.length 0) (i:Int) (Ho t i) e h) _ _ (by omega) (fun m s i g=>?_) (fun h i m s k g l v=>?_) (fun h i m s g=>?_) (fun m s=>?_)
 ·rw [Fd,if_pos (by rw [Eb]; simp; omega),AX,Ix t g,Aa,AC (by omega)]
 ·rw [Fc,if_pos (by rw [Eb]; simp; omega)]
  unfold Bj Ub
  dsimp only
  rw [AX,Ix t l,Aa,AX,Rw g,Aa,AX,Rw l,Aa,RX (f.del g l (by omega) (by omega)) f.l0,Aa,Bool.not_not,Bm (by simp; omega),Aa,AC (by omega)]
  cases La (Ho t i) (Ho t k) 0 0 e <;> rfl
 ·rw [Fc,if_neg (by rw [Eb]; simp),AC (by omega)]
 ·rw [Fd,if_neg (by rw [Eb]; simp)]
def Pb (t:BW) (least:Int):Bool:=((JB (Ub t least) t.1.length t.1.length).length:Int) == 0
theorem Nw {t:BW} {e:Int} (f:RepF t e):Gk t e = some (Pb t e):=by
 have g:=f.n6
 unfold Gk Pb
 rw [NH (by omega),Aa,Xy f,Aa]
def O2 (t:BW) (i k:Nat):BW:=(t.1,t.2.1,t.2.2.1,(t.2.2.2.set i (IU t.2.2.2 k)).set k (IU t.2.2.2 i))
theorem Aa6 {t:BW} {m:Int} (f:RepF t m) {i k:Nat} (s:i < t.1.length) (v:k < t.1.length):RepF (O2 t i k) m:=by
 have u:=f.tr.mat
 refine ⟨⟨f.tr.can,by unfold O2; simpa using u,fun j l=>?_⟩,f.c16,f.n6,f.l0⟩
 have h1:=f.tr.inR i s
 have h2:=f.tr.inR k v
 have h3:=f.tr.inR j l
 unfold O2
 unfold O2 at l
 dsimp only at l ⊢
 have e:IU ((t.2.2.2.set i (IU t.2.2.2 k)).set k (IU t.2.2.2 i)) j = if k = j then IU t.2.2.2 i else if i = j then IU t.2.2.2 k else IU t.2.2.2 j:=by
  conv=>lhs; unfold IU
  rw [List.getElem?_set,List.length_set,List.getElem?_set,u]
  by_cases h:k = j
  ·rw [if_pos h,if_pos v,if_pos h]; rfl
  ·rw [if_neg h,if_neg h]
   by_cases g:i = j
   ·rw [if_pos g,if_pos s,if_pos g]; rfl
   ·rw [if_neg g,if_neg g]; rfl
 rw [e]
 split
 ·exact h1
 ·split
  ·exact h2
  ·exact h3
theorem Tz {t:BW} {e:Int} (f:RepF t e) {i k:Nat} (h:i < t.1.length) (s:k < t.1.length):Ii t (i:Int) (k:Int) = some (O2 t i k):=by
 have l:=f.tr.mat
 have g:=f.n6
 have m:=f.tr.can.le
 unfold Ii
 rw [KX (by omega) (by omega) (by omega),Aa]
 unfold Bj O2
 dsimp only
 rw [AX,JH (by omega),Aa,AX,JH (by omega),Aa,Aa,J8,Js (by simp; omega),Aa,J8]
theorem Xr {t:BW} {e:Int} (f:RepF t e) {i k:Nat} (h:i < t.1.length) (s:k < t.1.length):Kr t (i:Int) (k:Int) = some (O2 t i k):=by
 have l:=f.tr.mat
 have g:=f.n6
 have m:=f.tr.can.le
 unfold Kr
 rw [OW (by omega) (by omega) (by omega),Aa]
 unfold O2
 dsimp only
 rw [AX,JH (by omega),Aa,AX,JH (by omega),Aa,Aa,J8,Js (by simp; omega),Aa,J8]
def Tc (t:BW) (least:Int) (i:Nat):Af Nat:=(List.range' (i + 1) (t.1.length - (i + 1))).find? fun k=>Pb (O2 t i k) least
def VZ (t:BW) (least:Int):Af Nat:=(List.range t.1.length).find? fun i=>(Tc t least i).isSome
theorem T0 {t:BW} {e:Int} (f:RepF t e):∃ r,Ij t e = some r ∧ r.2.2 = (VZ t e).isSome:=by
 have l:=f.n6
 unfold Ij
 rw [Tv (Dm t e) t.1.length (fun i=>(Tc t e i).isSome) (fun i=>some ((i:Int),((Tc t e i).getD 0:Int),true)) (some (0,0,false)) (by omega) (fun m i g=>?_) (fun m=>?_)]
 ·unfold VZ
  cases (List.range t.1.length).find? fun i=>(Tc t e i).isSome with
  | none=>exact ⟨_,rfl,rfl⟩
  | some i=>exact ⟨_,rfl,rfl⟩
 ·rw [Dm,if_pos (by simp; omega),AC (by omega)]
  rw [Zn (Eh t (i:Int) e (Dm t e m)) t.1.length (fun k=>Pb (O2 t i k) e) (fun k=>some ((i:Int),(k:Int),true)) (Dm t e m ((i + 1:Nat):Int)) (by omega) (fun m k h=>?_) (fun m=>?_) (j:=i + 1) (by omega)]
  ·unfold Tc
   cases (List.range' (i + 1) (t.1.length - (i + 1))).find? fun k=>Pb (O2 t i k) e <;> rfl
  ·rw [Eh,if_pos (by simp; omega),Tz f g h,Aa,Nw (Aa6 f g h),Aa,AC (by omega)]
  ·rw [Eh,if_neg (by simp),AC (by omega)]
 ·rw [Dm,if_neg (by simp)]
theorem Xp {t:BW} {g:Int} (f:RepF t g):∃ r,Ko t g = some r ∧ decide (0 ≤ r.1) = (VZ t g).isSome:=by
 have s:=f.n6
 unfold Ko
 rw [NH (by omega),Aa]
 rw [Tv (El t (List.replicate t.1.length 0) g) t.1.length (fun i=>(Tc t g i).isSome) (fun i=>some ((i:Int),((Tc t g i).getD 0:Int))) (some (-1,-1)) (by omega) (fun m i h=>?_) (fun m=>?_)]
 ·unfold VZ
  cases (List.range t.1.length).find? fun i=>(Tc t g i).isSome with
  | none=>exact ⟨_,rfl,rfl⟩
  | some i=>exact ⟨_,rfl,by simp⟩
 ·rw [El,if_pos (by simp; omega),AC (by omega)]
  rw [Zn (FF t (i:Int) (List.replicate t.1.length 0) g (El t (List.replicate t.1.length 0) g m)) t.1.length (fun k=>Pb (O2 t i k) g) (fun k=>some ((i:Int),(k:Int))) (El t (List.replicate t.1.length 0) g m ((i + 1:Nat):Int)) (by omega) (fun m k l=>?_) (fun m=>?_) (j:=i + 1) (by omega)]
  ·unfold Tc
   cases (List.range' (i + 1) (t.1.length - (i + 1))).find? fun k=>Pb (O2 t i k) g <;> rfl
  ·have e:=RY (Aa6 f h l)
   rw [show (O2 t i k).1.length = t.1.length by rfl] at e
   rw [FF,if_pos (by simp; omega),Xr f h l,Aa,e,Aa,AC (by omega)]
   rfl
  ·rw [FF,if_neg (by simp),AC (by omega)]
 ·rw [El,if_neg (by simp)]
def Hv (t:BW) (least:Int) (i k:Nat) (q p:Int):Bool:=!La (Ho t i) (Ho t k) q p least
def HQ (i k q p:Nat):Nat:=i * 150 + k * 25 + q * 5 + p * 1
def XO (ds:List Int):Prop:=∀ i,i < ds.length → ∃ q:Nat,q < 5 ∧ ds[i]? = some (q:Int)
theorem WM {ds:List Int} (h:XO ds) {p:Nat} (f:p < 5):XO (ds ++ [(p:Int)]):=by
 intro i g
 rw [CH,List.length_singleton] at g
 by_cases e:i < ds.length
 ·obtain ⟨q,h1,l⟩:=h i e
  exact ⟨q,h1,by rw [List.getElem?_append_left e]; exact l⟩
 ·have:i = ds.length:=by omega
  subst this
  exact ⟨p,f,by simp⟩
theorem Abf {ds:List Int} {i q:Nat} (h:ds[i]? = some (q:Int)):ds.getD i 0 = (q:Int):=by rw [List.getD_eq_getElem?_getD,h]; rfl
structure Qs (t:BW) (least:Int) (l:List Int):Prop where
 len:l.length = 900
 val:∀ i k q p:Nat,i < t.1.length → k < t.1.length → q < 5 → p < 5 → l[HQ i k q p]? = some 0 ∨ l[HQ i k q p]? = some (if Hv t least i k (q:Int) (p:Int) = true then 1 else 2)
theorem YI {t:BW} {g:Int} (f:RepF t g) {l:List Int} (h:Qs t g l) {i k q p:Nat} (hi:i < t.1.length) (hk:k < t.1.length) (hq:q < 5) (hp:p < 5) :
  ∃ l',Qs t g l' ∧ GB (G8 t,g,l) (i:Int) (k:Int) (q:Int) (p:Int) = some (Hv t g i k (q:Int) (p:Int),(G8 t,g,l')):=by
 have h6:=f.n6
 have c1:(decide (0 ≤ (i:Int)) && decide ((i:Int) < 6)) = true:=by simp; omega
 have v:(decide (0 ≤ (k:Int)) && decide ((k:Int) < 6)) = true:=by simp; omega
 have u:(decide (0 ≤ (q:Int)) && decide ((q:Int) < 5)) = true:=by simp; omega
 have s:(decide (0 ≤ (p:Int)) && decide ((p:Int) < 5)) = true:=by simp; omega
 have m:HQ i k q p < 900:=by unfold HQ; omega
 unfold GB Bj FT
 dsimp only
 rw [if_pos c1,if_pos v,if_pos u,if_pos s]
 simp only [Int.toNat_natCast]
 rw [show i * 150 + k * 25 + q * 5 + p * 1 = HQ i k q p by rfl]
 rcases h.val i k q p hi hk hq hp with h0 | h0
 ·rw [h0,Aa,if_pos (by simp),AX,Ix t hi,Aa,AX,Ix t hk,Aa,RX (f.del hi hk (by omega) (by omega)) f.l0,Aa]
  refine ⟨l.set (HQ i k q p) (if Hv t g i k (q:Int) (p:Int) = true then 1 else 2),⟨by rw [List.length_set]; exact h.len,fun i' k' q' p' am ak al ao=>?_⟩,?_⟩
  ·by_cases e:HQ i k q p = HQ i' k' q' p'
   ·have:i = i' ∧ k = k' ∧ q = q' ∧ p = p':=by unfold HQ at e; omega
    obtain ⟨rfl,rfl,rfl,rfl⟩:=this
    right
    rw [List.getElem?_set_self (by rw [h.len]; exact m)]
   ·rw [List.getElem?_set_ne e]
    exact h.val i' k' q' p' am ak al ao
  ·have e:Hv t g i k (q:Int) (p:Int) = !La (Ho t i) (Ho t k) (q:Int) (p:Int) g:=rfl
   rw [e]
   unfold NV
   rw [h.len,if_pos m]
   cases La (Ho t i) (Ho t k) (q:Int) (p:Int) g with
   | false =>
    simp only [Bool.not_false,if_true,Aa]
    rw [if_pos c1,if_pos v,if_pos u,if_pos s,List.getElem?_set_self (by rw [h.len]; exact m),Aa]
    rfl
   | true =>
    simp only [Bool.not_true,Bool.false_eq_true,if_false,Aa]
    rw [if_pos m,Aa,if_pos c1,if_pos v,if_pos u,if_pos s,List.getElem?_set_self (by rw [h.len]; exact m),Aa]
    rfl
 ·refine ⟨l,h,?_⟩
  rw [h0,Aa]
  have aj:((if Hv t g i k (q:Int) (p:Int) = true then (1:Int) else 2) == 0) = false:=by split <;> rfl
  rw [aj,if_neg (by simp),if_pos c1,if_pos v,if_pos u,if_pos s,Aa]
  cases Hv t g i k (q:Int) (p:Int) <;> rfl
theorem MC (a:Nat → Bool) (k:Nat):(List.range (k + 1)).all a = ((List.range k).all a && a k):=by rw [List.range_succ,List.all_append]; simp
abbrev TA:=(List Gd) × Int × (List Int)
theorem Aam {t:BW} {e:Int} (f:RepF t e) {l:List Int} (h:Qs t e l) {ds:List Int} (hd:XO ds) (hl:ds.length < t.1.length) {p:Nat} (hp:p < 5) (s:Int) (hs:0 ≤ s ∧ s ≤ 1000) :
  ∃ g,Qs t e g ∧ ∀ (v:TA → Af ((List Int) × TA)) (aa:TA → (List Int) → Int → Af ((List Int) × TA)),CP ds (p:Int) v aa s FU (G8 t,e,l) true 0 =
   if Pg (Hv t e) ds (p:Int) = true then Option.bind (aa (G8 t,e,g) (ds ++ [(p:Int)]) (s - p)) fun u=>(if (decide (0 < (List.length u.1:Int))) = true then some (u.1,u.2) else v u.2) else v (G8 t,e,g):=by
 have h6:=f.n6
 refine Exists.elim (IY (fun (j:(TA → Af ((List Int) × TA)) × (TA → (List Int) → Int → Af ((List Int) × TA))) m (z:TA × Bool) k=>CP ds (p:Int) j.1 j.2 s m z.1 z.2 k) ds.length
  (fun k z=>∃ g,Qs t e g ∧ z.1 = (G8 t,e,g) ∧ z.2 = (List.range k).all fun i=>Hv t e i ds.length (ds.getD i 0) (p:Int))
  (fun j z=>if (!z.2) = true then j.1 z.1 else Option.bind (j.2 z.1 (ds ++ [(p:Int)]) (s - p)) fun u=>(if (decide (0 < (List.length u.1:Int))) = true then some (u.1,u.2) else j.1 u.2)) (by omega)
  (fun k z _ hk hi=>?_) (fun z hi j m=>?_) (b:=0) (by omega) (s:=((G8 t,e,l),true)) ⟨l,h,rfl,rfl⟩) ?_
 ·obtain ⟨x,b⟩:=z
  obtain ⟨l1,g1,g2,g3⟩:=hi
  dsimp only at g2 g3
  subst g2
  obtain ⟨q,hq,ab⟩:=hd k hk
  cases hb:b with
  | false =>
   refine ⟨((G8 t,e,l1),false),⟨l1,g1,rfl,?_⟩,fun j m=>?_⟩
   ·rw [MC,← g3,hb]; rfl
   ·dsimp only
    rw [CP,if_pos (by simp; omega)]
    unfold FT
    dsimp only
    rw [AX,ab,Aa,if_neg (by simp),AC (by omega)]
  | true =>
   obtain ⟨l2,g4,g5⟩:=YI f g1 (i:=k) (k:=ds.length) (q:=q) (p:=p) (by omega) hl hq hp
   refine ⟨((G8 t,e,l2),Hv t e k ds.length (q:Int) (p:Int)),⟨l2,g4,rfl,?_⟩,fun j m=>?_⟩
   ·rw [MC,← g3,hb,Bool.true_and,Abf ab]
   ·dsimp only
    rw [CP,if_pos (by simp; omega)]
    unfold FT
    dsimp only
    rw [AX,ab,Aa,if_pos rfl,g5,Aa,AC (by omega)]
 ·obtain ⟨x,b⟩:=z
  dsimp only
  rw [CP,if_neg (by simp),PM _ (by omega),Aa,Bm (by simp; omega),Aa,A8 (by omega) (by omega)]
 ·rintro ⟨x',b'⟩ ⟨⟨g,h1,h2,h3⟩,h4⟩
  dsimp only at h2 h3
  subst h2
  refine ⟨g,h1,fun v aa=>?_⟩
  have:=h4 (v,aa)
  dsimp only at this
  refine Eq.trans this ?_
  rw [h3]
  unfold Pg
  cases (List.range ds.length).all fun i=>Hv t e i ds.length (ds.getD i 0) (p:Int) <;> rfl
theorem YJ {t:BW} {g:Int} (f:RepF t g):∀ (r:Nat) (ds:List Int) (s:Nat) (m:Nat) (l:List Int),ds.length + r = t.1.length → XO ds → s ≤ 100 → r < m → Qs t g l →
  ∃ out h,Qs t g h ∧ Db m (G8 t,g,l) ds (s:Int) = some (out,(G8 t,g,h)) ∧ decide (0 < out.length) = LM (Hv t g) r ds s:=by
 have h6:=f.n6
 have h1:=f.tr.can.l1
 intro r
 induction r with
 | zero =>
  intro ds s m l hl hd hs hm hk
  cases m with
  | zero=>omega
  | succ m =>
   rw [Db]
   unfold FY
   rw [if_pos (by rw [Eb,beq_iff_eq]; omega),LM]
   by_cases e:s = 0
   ·subst e
    exact ⟨ds,l,hk,by rfl,by simp; omega⟩
   ·exact ⟨[],l,hk,by rw [if_pos (by simp; omega)],by simp [e]⟩
 | succ r ih =>
  intro ds s m l hl hd hs hm hk
  cases m with
  | zero=>omega
  | succ m =>
   rw [Db]
   unfold FY
   rw [if_neg (by rw [Eb,beq_iff_eq]; omega)]
   refine Exists.elim (XM (CQ (s:Int) ds (Db m)) (min s 4 + 1) (fun z=>∃ h,Qs t g h ∧ z = (G8 t,g,h)) (fun (p:Nat)=>Pg (Hv t g) ds (p:Int) && LM (Hv t g) r (ds ++ [(p:Int)]) (s - p))
    (fun v=>∃ h,Qs t g h ∧ v.2 = (G8 t,g,h) ∧ 0 < v.1.length) (fun v=>∃ h,Qs t g h ∧ v = ([],(G8 t,g,h))) (by omega) (fun p z hp hz=>?_) (fun z hz=>?_) (s:=(G8 t,g,l)) ⟨l,hk,rfl⟩) ?_
   ·obtain ⟨l1,g1,rfl⟩:=hz
    obtain ⟨l2,g2,g3⟩:=Aam f g1 hd (by omega) (p:=p) (by omega) (s:Int) (by omega)
    have aa:min (s:Int) 4 = ((min s 4:Nat):Int):=by omega
    by_cases u:Pg (Hv t g) ds (p:Int) = true
    ·obtain ⟨out,l3,g4,g5,g6⟩:=ih (ds ++ [(p:Int)]) (s - p) m l2 (by simp; omega) (WM hd (by omega)) (by omega) (by omega) g2
     rw [show ((s - p:Nat):Int) = (s:Int) - (p:Int) by omega] at g5
     cases he:LM (Hv t g) r (ds ++ [(p:Int)]) (s - p) with
     | true =>
      rw [he,C9] at g6
      refine .inl ⟨by rw [u]; rfl,(out,(G8 t,g,l3)),⟨l3,g4,rfl,g6⟩,fun q=>?_⟩
      rw [CQ,Ke,Aa,aa,if_pos (by simp; omega)]
      unfold Bj
      dsimp only
      rw [g3,if_pos u,g5,Aa,if_pos (by simpa using g6)]
     | false =>
      rw [he,decide_eq_false_iff_not] at g6
      refine .inr ⟨by rw [u]; rfl,(G8 t,g,l3),⟨l3,g4,rfl⟩,fun q=>?_⟩
      rw [CQ,Ke,Aa,aa,if_pos (by simp; omega)]
      unfold Bj
      dsimp only
      rw [g3,if_pos u,g5,Aa,if_neg (by simpa using g6),AC (by omega)]
    ·refine .inr ⟨by simp [u],(G8 t,g,l2),⟨l2,g2,rfl⟩,fun q=>?_⟩
     rw [CQ,Ke,Aa,aa,if_pos (by simp; omega)]
     unfold Bj
     dsimp only
     rw [g3,if_neg u,AC (by omega)]
   ·obtain ⟨l1,g1,rfl⟩:=hz
    have aa:min (s:Int) 4 = ((min s 4:Nat):Int):=by omega
    refine ⟨([],(G8 t,g,l1)),⟨l1,g1,rfl⟩,fun q=>?_⟩
    rw [CQ,Ke,Aa,aa,if_neg (by rw [C9]; omega)]
   ·rintro v ⟨h2,h3⟩
    rw [LM]
    rcases h3 with ⟨h4,h,h5,al,h7⟩ | ⟨h4,h,h5,al⟩
    ·exact ⟨v.1,h,h5,by rw [h2,← al],by rw [h4]; simpa using h7⟩
    ·subst al
     exact ⟨[],h,h5,h2,by rw [h4]; rfl⟩
theorem Vw {t:BW} {e:Int} (f:RepF t e):∃ r,Jw t e = some r ∧ decide (0 < r.1.length) = LN (Hv t e) t.1.length []:=by
 have h6:=f.n6
 unfold Jw
 rw [Ma f.tr,Aa]
 have ak:Qs t e (List.replicate 900 0):=⟨List.length_replicate,fun i k q p hi hk hq hp=>.inl (by rw [List.getElem?_replicate,if_pos (by unfold HQ; omega)])⟩
 refine Exists.elim (XM (Ed t) (4 * t.1.length + 1) (fun z=>∃ l',Qs t e l' ∧ z = (G8 t,e,l')) (fun s=>LM (Hv t e) t.1.length [] s)
  (fun h=>0 < h.1.length) (fun h=>h.1 = []) (by omega) (fun s z hs m=>?_) (fun z m=>?_) (s:=(G8 t,e,List.replicate 900 0)) ⟨_,ak,rfl⟩) ?_
 ·obtain ⟨l1,g1,rfl⟩:=m
  obtain ⟨out,l3,g4,g5,g⟩:=YJ f t.1.length [] s FU l1 (by simp) (fun i hi=>by simp at hi) (by omega) (D1 (by omega)) g1
  cases he:LM (Hv t e) t.1.length [] s with
  | true =>
   rw [he,C9] at g
   refine .inl ⟨rfl,(out,(s:Int)),g,fun q=>?_⟩
   rw [Ed,A8 (by omega) (by omega),if_pos (by simp; omega)]
   unfold HU
   rw [g5,Aa,if_pos (by simpa using g)]
  | false =>
   rw [he,decide_eq_false_iff_not] at g
   refine .inr ⟨rfl,(G8 t,e,l3),⟨l3,g4,rfl⟩,fun q=>?_⟩
   rw [Ed,A8 (by omega) (by omega),if_pos (by simp; omega)]
   unfold HU
   rw [g5,Aa,if_neg (by simpa using g),AC (by omega)]
 ·obtain ⟨l1,g1,rfl⟩:=m
  refine ⟨([],0),rfl,fun q=>?_⟩
  rw [Ed,A8 (by omega) (by omega),if_neg (by simp; omega)]
 ·rintro h ⟨h2,h3⟩
  refine ⟨h,h2,?_⟩
  rcases h3 with ⟨u,l⟩ | ⟨u,l⟩
  ·have:LN (Hv t e) t.1.length [] = true:=by
    rw [RF]
    obtain ⟨s,h7,v⟩:=List.any_eq_true.1 u
    exact ⟨s,by have:=List.mem_range.1 h7; omega,v⟩
   rw [this]
   simpa using l
  ·have:LN (Hv t e) t.1.length [] = false:=by
    rw [← Bool.not_eq_true,RF]
    rintro ⟨s,h7,v⟩
    have:=List.any_eq_false.1 u s (List.mem_range.2 (by omega))
    exact this v
   rw [this,l]
   rfl
structure TE (t:BW) (least:Int) (l:List Bool) (c:Nat):Prop where
 len:l.length = 900
 val:∀ i k q p:Nat,i < k → k < t.1.length → q < 5 → p < 5 → HQ i k q p < c → l[HQ i k q p]? = some (!Hv t least i k (q:Int) (p:Int))
abbrev OK:=(List Bool) × Int × (List Int) × Int
theorem Adc {t:BW} {e:Int} (f:RepF t e) {l:List Bool} (h:TE t e l 900) {ds:List Int} (hd:XO ds) (hl:ds.length < t.1.length) {p:Nat} (hp:p < 5) (s:Int) (hs:0 ≤ s ∧ s ≤ 1000)
  (y:OK) (hy:y.1 = l) (g:OK → Af OK) (u:OK → (List Int) → Int → Af OK):CI ds (p:Int) u s g FU y true 0 =
   if Pg (Hv t e) ds (p:Int) = true then Option.bind (u y (ds ++ [(p:Int)]) (s + p)) g else g y:=by
 have h6:=f.n6
 refine EI (fun m (b:Bool) k=>CI ds (p:Int) u s g m y b k) ds.length (fun k=>(List.range k).all fun i=>Hv t e i ds.length (ds.getD i 0) (p:Int)) _ (by omega) (j:=0) (by omega) (fun m k _ hk=>?_) (fun m=>?_)
 ·obtain ⟨q,hq,v⟩:=hd k hk
  rw [CI,if_pos (by simp; omega)]
  unfold FT
  dsimp only
  rw [AX,v,Aa,MC,AC (by omega)]
  cases (List.range k).all fun i=>Hv t e i ds.length (ds.getD i 0) (p:Int) with
  | false=>rfl
  | true =>
   have c1:(decide (0 ≤ (k:Int)) && decide ((k:Int) < 6)) = true:=by simp; omega
   have c2:(decide (0 ≤ (ds.length:Int)) && decide ((ds.length:Int) < 6)) = true:=by simp; omega
   have c3:(decide (0 ≤ (q:Int)) && decide ((q:Int) < 5)) = true:=by simp; omega
   have c4:(decide (0 ≤ (p:Int)) && decide ((p:Int) < 5)) = true:=by simp; omega
   rw [if_pos rfl,if_pos c1,if_pos c2,if_pos c3,if_pos c4]
   simp only [Int.toNat_natCast]
   rw [show k * 150 + ds.length * 25 + q * 5 + p * 1 = HQ k ds.length q p by rfl,hy,h.val k ds.length q p hk hl hq hp (by unfold HQ; omega),Aa,Bool.not_not,Bool.true_and,Abf v]
 ·rw [CI,if_neg (by simp),Nl _ (by omega),Aa,Bm (by simp; omega),Aa,A8 (by omega) (by omega)]
  rfl
theorem Zv {t:BW} {aa:Int} (f:RepF t aa) {l:List Bool} (hc:TE t aa l 900):∀ (r:Nat) (ds:List Int) (s:Nat) (m:Nat) (g:List Int) (h:Int),ds.length + r = t.1.length → XO ds → s ≤ 4 * ds.length → r < m →
  ∃ best' sm',Co m (l,(t.1.length:Int),g,h) ds (s:Int) = some (l,(t.1.length:Int),best',sm') ∧ (!best'.isEmpty) = ((!g.isEmpty) || LN (Hv t aa) r ds):=by
 have h6:=f.n6
 have h1:=f.tr.can.l1
 intro r
 induction r with
 | zero =>
  intro ds s m g h hl hd hs hm
  cases m with
  | zero=>omega
  | succ m =>
   rw [Co]
   unfold EP FT
   dsimp only
   have ak:ds.isEmpty = false:=by rw [List.isEmpty_eq_false_iff]; intro e; rw [e] at hl; simp at hl; omega
   have an:(if ((ds.length:Int) == (t.1.length:Int)) = true then Option.bind (Fx ds) fun ac=>(if (List.isEmpty ac) = true then none else some (l,(t.1.length:Int),ac,(s:Int))) else Cu ds (Co m) (s:Int) FU (l,(t.1.length:Int),g,h) 0) = some (l,(t.1.length:Int),ds,(s:Int)):=by
    rw [if_pos (by rw [beq_iff_eq]; omega),Nl _ (by omega),Aa,ak,if_neg (by simp)]
   rw [LN,Bool.or_true]
   cases u:g.isEmpty with
   | true =>
    rw [if_neg (by simp),if_neg (by simp),an]
    exact ⟨ds,_,rfl,by rw [ak]; rfl⟩
   | false =>
    rw [if_pos (by simp)]
    by_cases ad:h ≤ (s:Int)
    ·rw [if_pos (decide_eq_true ad)]
     exact ⟨g,h,rfl,by rw [u]; rfl⟩
    ·rw [if_neg (by simpa using ad),an]
     exact ⟨ds,_,rfl,by rw [ak]; rfl⟩
 | succ r ih =>
  intro ds s m g h hl hd hs hm
  cases m with
  | zero=>omega
  | succ m =>
   rw [Co]
   unfold EP FT
   dsimp only
   have go:∃ best' sm',(if ((ds.length:Int) == (t.1.length:Int)) = true then Option.bind (Fx ds) fun ac=>(if (List.isEmpty ac) = true then none else some (l,(t.1.length:Int),ac,(s:Int))) else Cu ds (Co m) (s:Int) FU (l,(t.1.length:Int),g,h) 0) = some (l,(t.1.length:Int),best',sm') ∧ (!best'.isEmpty) = ((!g.isEmpty) || LN (Hv t aa) (r + 1) ds):=by
    rw [if_neg (by rw [beq_iff_eq]; omega)]
    refine Exists.elim (IY (fun (_:Unit) m' (z:OK) k=>Cu ds (Co m) (s:Int) m' z k) 5 (fun k z=>∃ v s',z = (l,(t.1.length:Int),v,s') ∧ (!v.isEmpty) = ((!g.isEmpty) || (List.range k).any fun (p:Nat)=>Pg (Hv t aa) ds (p:Int) && LN (Hv t aa) r (ds ++ [(p:Int)])))
     (fun _ z=>some z) (by omega) (fun p z _ hp hz=>?_) (fun z hz j m'=>?_) (b:=0) (by omega) (s:=(l,(t.1.length:Int),g,h)) ⟨g,h,rfl,by simp⟩) ?_
    ·obtain ⟨v,s',rfl,u⟩:=hz
     have ap:=Adc f hc hd (by omega) (p:=p) hp (s:Int) (by omega) (l,(t.1.length:Int),v,s') rfl
     by_cases hf:Pg (Hv t aa) ds (p:Int) = true
     ·obtain ⟨b2,s2,g1,g2⟩:=ih (ds ++ [(p:Int)]) (s + p) m v s' (by simp; omega) (WM hd hp) (by simp; omega) (by omega)
      refine ⟨(l,(t.1.length:Int),b2,s2),⟨b2,s2,rfl,?_⟩,fun _ m'=>?_⟩
      ·rw [g2,u,List.range_succ,List.any_append,List.any_cons,List.any_nil,Bool.or_false,hf,Bool.true_and,Bool.or_assoc]
      ·rw [Cu,if_pos (by simp; omega)]
       unfold Bj
       dsimp only
       rw [ap,if_pos hf,show (s:Int) + (p:Int) = ((s + p:Nat):Int) by omega,g1,Aa,AC (by omega)]
     ·refine ⟨(l,(t.1.length:Int),v,s'),⟨v,s',rfl,?_⟩,fun _ m'=>?_⟩
      ·have ar:Pg (Hv t aa) ds (p:Int) = false:=by simpa using hf
       rw [u,List.range_succ,List.any_append,List.any_cons,List.any_nil,Bool.or_false,ar,Bool.false_and,Bool.or_false]
      ·rw [Cu,if_pos (by simp; omega)]
       unfold Bj
       dsimp only
       rw [ap,if_neg hf,AC (by omega)]
    ·rw [Cu,if_neg (by decide)]
    ·rintro z ⟨⟨v,s',rfl,u⟩,hz⟩
     exact ⟨v,s',hz (),u⟩
   cases u:g.isEmpty with
   | true =>
    rw [if_neg (by simp),if_neg (by simp)]
    rw [u] at go
    exact go
   | false =>
    rw [if_pos (by simp)]
    by_cases ad:h ≤ (s:Int)
    ·rw [if_pos (decide_eq_true ad)]
     exact ⟨g,h,rfl,by rw [u]; rfl⟩
    ·rw [if_neg (by simpa using ad)]
     rw [u] at go
     exact go
theorem T6 {t:BW} {e:Int} {l:List Bool} {c c':Nat} (h:TE t e l c) (u:∀ i k q p:Nat,i < k → k < t.1.length → q < 5 → p < 5 → HQ i k q p < c' → HQ i k q p < c):TE t e l c' :=
 ⟨h.len,fun i k q p h1 m g f s=>h.val i k q p h1 m g f (u i k q p h1 m g f s)⟩
def OC (t:BW) (l:List Bool):OK:=(l,(t.1.length:Int),[],0)
theorem S4 {t:BW} {h:Int} (f:RepF t h):∃ r,HK t h = some r ∧ (!r.1.isEmpty) = LN (Hv t h) t.1.length []:=by
 have h6:=f.n6
 unfold HK
 rw [Ok f.tr,Aa,Eb]
 have h0:TE t h (List.replicate 900 false) (HQ 0 1 0 0):=⟨List.length_replicate,fun i k q p h1 h2 h3 h4 h5=>by unfold HQ at h5; omega⟩
 refine Exists.elim (IY (fun (_:Unit) m (z:OK) i=>DR (G8 t) h m z i) t.1.length (fun i z=>∃ l,z = OC t l ∧ TE t h l (HQ i (i + 1) 0 0)) (fun _ z=>Option.bind (Hb z [] 0) fun am=>some (am.2.2.1,am.2.2.2)) (by omega) (fun i z _ hi g=>?_) (fun z g j m=>?_) (b:=0) (by omega) (s:=OC t (List.replicate 900 false)) ⟨_,rfl,h0⟩) ?_
 ·obtain ⟨l,rfl,hl⟩:=g
  refine Exists.elim (IY (fun (u:OK → Int → Af Afa) m (z:OK) k=>DQ (G8 t) (i:Int) h u m z k) t.1.length (fun k z=>∃ l,z = OC t l ∧ TE t h l (HQ i k 0 0)) (fun u z=>u z ((i + 1:Nat):Int)) (by omega) (fun k z a0 hk g=>?_) (fun z g j m=>?_) (b:=i + 1) (by omega) (s:=OC t l) ⟨_,rfl,hl⟩) ?_
  ·obtain ⟨l,rfl,hl⟩:=g
   refine Exists.elim (IY (fun (u:OK → Int → Af Afa) m (z:OK) p=>DP (G8 t) (i:Int) (k:Int) h u m z p) 5 (fun p z=>∃ l,z = OC t l ∧ TE t h l (HQ i k p 0)) (fun u z=>u z ((k + 1:Nat):Int)) (by omega) (fun p z _ hp g=>?_) (fun z g j m=>?_) (b:=0) (by omega) (s:=OC t l) ⟨_,rfl,hl⟩) ?_
   ·obtain ⟨l,rfl,hl⟩:=g
    refine Exists.elim (IY (fun (u:OK → Int → Af Afa) m (z:OK) q=>DO (G8 t) (i:Int) (k:Int) (p:Int) h u m z q) 5 (fun q z=>∃ l,z = OC t l ∧ TE t h l (HQ i k p q)) (fun u z=>u z ((p + 1:Nat):Int)) (by omega) (fun q z _ hq g=>?_) (fun z g j m=>?_) (b:=0) (by omega) (s:=OC t l) ⟨_,rfl,hl⟩) ?_
    ·obtain ⟨l,rfl,hl⟩:=g
     have c1:(decide (0 ≤ (i:Int)) && decide ((i:Int) < 6)) = true:=by simp; omega
     have c2:(decide (0 ≤ (k:Int)) && decide ((k:Int) < 6)) = true:=by simp; omega
     have c3:(decide (0 ≤ (p:Int)) && decide ((p:Int) < 5)) = true:=by simp; omega
     have c4:(decide (0 ≤ (q:Int)) && decide ((q:Int) < 5)) = true:=by simp; omega
     have ao:HQ i k p q < 900:=by unfold HQ; omega
     refine ⟨OC t (l.set (HQ i k p q) (!Hv t h i k (p:Int) (q:Int))),⟨_,rfl,by rw [List.length_set]; exact hl.len,fun i' k' p' q' h1 h2 h3 h4 h5=>?_⟩,fun u m=>?_⟩
     ·by_cases e:HQ i k p q = HQ i' k' p' q'
      ·have:i = i' ∧ k = k' ∧ p = p' ∧ q = q':=by unfold HQ at e; omega
       obtain ⟨rfl,rfl,rfl,rfl⟩:=this
       rw [List.getElem?_set_self (by rw [hl.len]; exact ao)]
      ·rw [List.getElem?_set_ne e]
       exact hl.val i' k' p' q' h1 h2 h3 h4 (by unfold HQ at h5 e ⊢; omega)
     ·have e:(!Hv t h i k (p:Int) (q:Int)) = La (Ho t i) (Ho t k) (p:Int) (q:Int) h:=by unfold Hv; rw [Bool.not_not]
      rw [DO,if_pos (by simp; omega)]
      unfold Bj
      dsimp only
      rw [AX,Ix t hi,Aa,AX,Ix t hk,Aa,if_pos c1,if_pos c2,if_pos c3,Nx (f.del hi hk (by omega) (by omega)) f.l0,Aa,if_pos c4]
      simp only [Int.toNat_natCast]
      rw [show i * 150 + k * 25 + p * 5 + q * 1 = HQ i k p q by rfl]
      unfold NV OC
      dsimp only
      rw [hl.len,if_pos ao,Aa,AC (by omega),e]
    ·obtain ⟨l,rfl,hl⟩:=g
     rw [DO,if_neg (by decide),AC (by omega)]
    ·rintro z ⟨⟨v,rfl,ag⟩,g⟩
     refine ⟨OC t v,⟨v,rfl,T6 ag (fun i' k' p' q' h1 h2 h3 h4 h5=>by unfold HQ at h5 ⊢; omega)⟩,fun u m=>?_⟩
     rw [DP,if_pos (by simp; omega)]
     exact g _
   ·rw [DP,if_neg (by decide),AC (by omega)]
   ·rintro z ⟨⟨v,rfl,ag⟩,g⟩
    refine ⟨OC t v,⟨v,rfl,T6 ag (fun i' k' p' q' h1 h2 h3 h4 h5=>by unfold HQ at h5 ⊢; omega)⟩,fun u m=>?_⟩
    rw [DQ,if_pos (by rw [Eb]; simp; omega)]
    exact g _
  ·rw [DQ,if_neg (by rw [Eb]; simp),AC (by omega)]
  ·rintro z ⟨⟨v,rfl,ag⟩,g⟩
   refine ⟨OC t v,⟨v,rfl,T6 ag (fun i' k' p' q' h1 h2 h3 h4 h5=>by unfold HQ at h5 ⊢; omega)⟩,fun _ m=>?_⟩
   rw [DR,if_pos (by rw [Eb]; simp; omega),AC (by omega)]
   exact g _
 ·rw [DR,if_neg (by rw [Eb]; simp)]
 ·rintro z ⟨⟨v,rfl,ag⟩,g⟩
  obtain ⟨b',s',g1,g2⟩:=Zv f (T6 ag (c':=900) (fun i' k' p' q' h1 h2 h3 h4 h5=>by unfold HQ; omega)) t.1.length [] 0 FU [] 0 (by simp) (fun i hi=>by simp at hi) (by simp) (D1 (by omega))
  refine ⟨(b',s'),Eq.trans (g ()) ?_,g2⟩
  unfold Hb OC
  have aq:Co FU (v,(t.1.length:Int),[],0) [] 0 = some (v,(t.1.length:Int),b',s'):=g1
  rw [aq,Aa]

def Mk (t:BW) (least:Int):Int × Bool :=
 if (Lx t && (decide (t.2.2.1 ≤ 16) && (decide (t.1.length ≤ 6) && BK least 0 80))) = true then ((if Pb t least = true then 0 else if (VZ t least).isSome = true then 1 else if LN (Hv t least) t.1.length [] = true then 2 else 3),true) else (0,false)
theorem Adg (n:Nat):decide ((n:Int) ≤ 6) = decide (n ≤ 6):=by rw [decide_eq_decide]; omega
theorem T3 {t:BW} (h:SmT t) (e:Int):Im t e = some (Mk t e):=by
 have:=h.h1; have:=h.h2; have:=h.h3
 unfold Im JC Bj Mk
 dsimp only
 rw [Ly (by omega) (by omega) (by omega),Aa,QY,Aa,Adg]
 cases ho:Lx t with
 | false=>rfl
 | true =>
  by_cases g:t.2.2.1 ≤ 16
  ·rw [decide_eq_true g]
   by_cases l:t.1.length ≤ 6
   ·rw [decide_eq_true l]
    cases u:BK e 0 80 with
    | false=>rfl
    | true =>
     have f:RepF t e:=⟨Od ho,g,l,DB.1 u⟩
     obtain ⟨r1,s,m⟩:=T0 f
     obtain ⟨r2,e3,v⟩:=S4 f
     simp only [if_true,Bool.not_true,Bool.false_eq_true,if_false,Aa,Bool.and_true]
     rw [Nw f,Aa,s,Aa,m,e3,Aa,v]
     cases Pb t e <;> cases (VZ t e).isSome <;> cases LN (Hv t e) t.1.length [] <;> rfl
   ·rw [decide_eq_false l]; rfl
  ·rw [decide_eq_false g]; rfl
theorem Tg {t:BW} (h:SmT t) (e:Int):Ig t e = some (Mk t e):=by
 have:=h.h1; have:=h.h2; have:=h.h3
 unfold Ig LF Bj Mk
 dsimp only
 rw [OX (by omega) (by omega) (by omega),Aa,O4,Aa,Adg]
 cases ho:Lx t with
 | false=>rfl
 | true =>
  by_cases g:t.2.2.1 ≤ 16
  ·rw [decide_eq_true g]
   by_cases l:t.1.length ≤ 6
   ·rw [decide_eq_true l]
    cases v:BK e 0 80 with
    | false=>rfl
    | true =>
     have f:RepF t e:=⟨Od ho,g,l,DB.1 v⟩
     obtain ⟨r1,s,m⟩:=Xp f
     obtain ⟨r2,e3,e4⟩:=Vw f
     have u:decide (0 < (r2.1.length:Int)) = decide (0 < r2.1.length):=by rw [decide_eq_decide]; omega
     simp only [if_true,Bool.not_true,Bool.false_eq_true,if_false,Aa,Bool.and_true]
     rw [NH (by omega),Aa,RY f,Aa,s,Aa,m,e3,Aa,u,e4]
     unfold Pb
     cases ((JB (Ub t e) t.1.length t.1.length).length:Int) == 0 <;> cases (VZ t e).isSome <;> cases LN (Hv t e) t.1.length [] <;> rfl
   ·rw [decide_eq_false l]; rfl
  ·rw [decide_eq_false g]; rfl
theorem Aai (t:BW) (e:Int):0 ≤ (Mk t e).1 ∧ (Mk t e).1 ≤ 3:=by
 unfold Mk
 split
 ·dsimp only
  split
  ·decide
  ·split
   ·decide
   ·split <;> decide
 ·decide
theorem Aci {k u:Nat} (h:u < 10 ^ (k + 1)):(Lib.decDigits u).length ≤ k + 1:=(Vp k u h).2.2.2.1
theorem TT {t:Int} (f:0 ≤ t) (h1:t < 10):KB [M1 (Ag (48 + t))] = [UInt8.ofNat (48 + t.toNat)]:=by
 have e:M1 (48 + t) = 48 + t:=by
  unfold M1
  show (48 + t) % 256 = _
  omega
 rw [A8 (by omega) (by omega),e]
 unfold KB
 rw [List.map_cons,List.map_nil,show (48 + t).toNat = 48 + t.toNat by omega]
theorem Ad0:∀ (d m:Nat) (n:Int),0 ≤ n → n.toNat < 10 ^ (d + 1) → d ≤ 18 → d < m → n ≤ 9223372036854775807 → FR m n = some (Lib.decDigits n.toNat):=by
 intro d
 induction d with
 | zero =>
  intro m n e g h hm h2
  cases m with
  | zero=>omega
  | succ m =>
   have f:n.toNat < 10:=by simpa using g
   rw [FR,if_pos (by simp; omega),TT e (by omega),Rf f]
 | succ d l =>
  intro m n e g h hm h2
  cases m with
  | zero=>omega
  | succ m =>
   by_cases f:n < 10
   ·rw [FR,if_pos (by simp; omega),TT e f,Rf (by omega)]
   ·rw [FR,if_neg (by simp; omega)]
    unfold Bj
    dsimp only
    have s:(n / 10).toNat = n.toNat / 10:=by omega
    have v:(n % 10).toNat = n.toNat % 10:=by omega
    have ab:n.toNat / 10 < 10 ^ (d + 1):=by rw [Nat.pow_succ] at g; omega
    have hl:=Aci (k:=d) ab
    rw [Int.tdiv_eq_ediv_of_nonneg e,Int.tmod_eq_emod_of_nonneg e,A8 (x:=n / 10) (by omega) (by omega),l m (n / 10) (by omega) (by omega) (by omega) (by omega) (by omega),Aa,TT (by omega) (by omega),s,v]
    unfold Cg
    rw [if_pos (by simp; omega),Aa,XP (u:=n.toNat) (by omega)]
theorem Kc {n:Int} (h:0 ≤ n) (e:n ≤ 9223372036854775807):Dd n = some (Lib.decDigits n.toNat):=by
 unfold Dd
 exact Ad0 18 FU n h (by omega) (by omega) (D1 (by omega)) e
theorem Abi {x:GA} (h:Gi x = true) {c:Int} (h0:0 ≤ c) (h1:c ≤ 4611686018427387904):0 ≤ R1 x c ∧ R1 x c ≤ 720000:=by
 obtain ⟨l1,l2,hx⟩:=Na h
 have ar:x.length ≤ 40:=by
  unfold Gi at h
  rw [Ck,LW] at h
  omega
 have ae:∀ (d k m:Nat) (a b:Int),x.length - k = d → k ≤ x.length → d < m → 0 ≤ a → a ≤ 4611686018427387904 → 0 ≤ b → b ≤ 18000 * k → ∃ t,Di x m a b (k:Int) = some t ∧ 0 ≤ t ∧ t ≤ 18000 * x.length:=by
  intro d
  induction d with
  | zero =>
   intro k m a b hd hk hm g a1 b0 b1
   cases m with
   | zero=>omega
   | succ m =>
    rw [Di,if_neg (by simp; omega)]
    exact ⟨_,rfl,by omega,by omega⟩
  | succ d ih =>
   intro k m a b hd hk hm g a1 b0 b1
   cases m with
   | zero=>omega
   | succ m =>
    have u:k < x.length:=by omega
    have l:=List.all_eq_true.1 hx x[k] (List.getElem_mem u)
    unfold G7 at l
    rw [Ck,LW,LW] at l
    have s:¬ x[k].2 = 0:=by omega
    have Cr:∀ q:Int,0 ≤ q → q ≤ 12 → Ag (Int.tdiv (Ag (60000 * q)) x[k].2) = 60000 * q / x[k].2 ∧ 0 ≤ 60000 * q / x[k].2 ∧ 60000 * q / x[k].2 ≤ 18000:=by
     intro q q0 q1
     have d1:0 ≤ 60000 * q / x[k].2:=Int.ediv_nonneg (by omega) (by omega)
     have d2:60000 * q / x[k].2 ≤ 18000:=by
      have:=Int.ediv_le_ediv (c:=x[k].2) (by omega) (show 60000 * q ≤ 18000 * x[k].2 by omega)
      rw [Int.mul_ediv_cancel _ s] at this
      exact this
     rw [A8 (x:=60000 * q) (by omega) (by omega),Int.tdiv_eq_ediv_of_nonneg (by omega),A8 (by omega) (by omega)]
     exact ⟨rfl,d1,d2⟩
    rw [Di,if_pos (by simp; omega),Js u,Aa]
    simp only [H1,if_neg s,Aa,AC (k:=k) (by omega)]
    split
    ·rename_i f
     have ab:a < x[k].1:=by simpa using f
     obtain ⟨e,e0,e1⟩:=Cr a g (by omega)
     rw [e,A8 (by omega) (by omega)]
     exact ⟨_,rfl,by omega,by omega⟩
    ·rename_i f
     have ab:¬ a < x[k].1:=by simpa using f
     obtain ⟨e,e0,e1⟩:=Cr x[k].1 (by omega) (by omega)
     rw [e,A8 (x:=a - x[k].1) (by omega) (by omega),A8 (x:=b + _) (by omega) (by omega)]
     exact ih (k + 1) m _ _ (by omega) (by omega) (by omega) (by omega) (by omega) (by omega) (by omega)
 obtain ⟨t,v,t0,t1⟩:=ae _ 0 FU c 0 rfl (by omega) (D1 (by omega)) h0 h1 (by omega) (by simp)
 have:=OV x h c
 unfold FM at this
 rw [show ((0:Nat):Int) = 0 by rfl] at v
 rw [v] at this
 have e:=Option.some.inj this
 rw [← e]
 exact ⟨t0,by omega⟩
abbrev IC:=Int × Int × Int
def Ta (k:Nat) (x:IC):Bool:=(if k = 0 then decide (x.1 = -1) else BK x.1 0 ((k:Int) - 1)) && (BK x.2.1 0 7 && BK x.2.2 0 999)
def OQ (l:List IC) (k:Nat):Bool:=match l[k]? with
 | some x=>Ta k x
 | none=>true
def Hu (l:List IC):Bool:=BK (l.length:Int) 1 60 && (List.range l.length).all (OQ l)
theorem OT {l:List IC} (s:l.length < 4611686018427387904):HZ l = some (Hu l):=by
 unfold HZ Hu
 rw [OA (FE l) l.length (OQ l) (some (BK (l.length:Int) 1 60)) (some false) s (fun m k u=>?_) (fun m=>?_)]
 ·cases (List.range l.length).all (OQ l) <;> simp
 ·obtain ⟨x,g⟩:∃ x,l[k]? = some x:=⟨_,Cb u⟩
  rw [FE,if_pos (by simp; omega),AX,g,Aa,AC (by omega)]
  unfold Bj OQ
  rw [g]
  dsimp only
  rw [CU,Aa,CU,CU,Aa,Aa,A8 (by omega) (by omega)]
  unfold Ta
  by_cases h:k = 0
  ·subst h
   have:BK x.1 0 (((0:Nat):Int) - 1) = false:=by rw [← Bool.not_eq_true,DB]; omega
   rw [this]
   by_cases e:x.1 = -1 <;> by_cases h1:BK x.2.1 0 7 = true <;> by_cases f:BK x.2.2 0 999 = true <;> simp [e,h1,f]
  ·by_cases e:BK x.1 0 ((k:Int) - 1) = true <;> by_cases h1:BK x.2.1 0 7 = true <;> by_cases f:BK x.2.2 0 999 = true <;> simp [e,h1,f,h,show 0 < k by omega]
 ·rw [FE,if_neg (by simp),CU,Aa]
theorem LK {l:List IC} (hl:l.length < 4611686018427387904):FL l = some (Hu l):=by
 unfold FL Hu Bj
 dsimp only
 rw [CT,Aa]
 cases hi:BK (l.length:Int) 1 60 with
 | false=>simp
 | true =>
  have ae:=DB.1 hi
  obtain ⟨g,s⟩:∃ x,l[0]? = some x:=⟨_,Cb (by omega)⟩
  rw [if_neg (by simp),S8,s,Aa,Bool.true_and]
  by_cases f:g.1 = -1
  ·rw [if_neg (by simpa using f),OA (DV l) l.length (OQ l) (some true) (some false) hl (fun m k hk=>?_) (fun m=>?_)]
   ·cases (List.range l.length).all (OQ l) <;> simp
   ·obtain ⟨x,e⟩:∃ x,l[k]? = some x:=⟨_,Cb hk⟩
    rw [DV,if_pos (by simp; omega),AX,e,Aa,AC (by omega)]
    unfold Bj OQ
    rw [e]
    dsimp only
    rw [CT,Aa,CT,CT,Aa,Aa,A8 (by omega) (by omega)]
    unfold Ta
    by_cases v:k = 0
    ·subst v
     rw [s] at e
     cases e
     by_cases h1:BK g.2.1 0 7 = true <;> by_cases u:BK g.2.2 0 999 = true <;> simp [f,h1,u]
    ·by_cases hq:BK x.1 0 ((k:Int) - 1) = true <;> by_cases h1:BK x.2.1 0 7 = true <;> by_cases u:BK x.2.2 0 999 = true <;> simp [hq,h1,u,v,show 0 < k by omega]
   ·rw [DV,if_neg (by simp)]
  ·rw [if_pos (by simpa using f)]
   have:(List.range l.length).all (OQ l) = false:=by
    rw [← Bool.not_eq_true,List.all_eq_true]
    intro h
    have:=h 0 (List.mem_range.2 (by omega))
    unfold OQ Ta at this
    rw [s] at this
    simp [f] at this
   rw [this]
def L8 (l:List IC) (v:IC):List IC × Bool:=if Hu (l ++ [v]) = true then (l ++ [v],true) else ([],false)
theorem Th {l:List IC} (h:Hu l = true) (e:l.length ≤ 60) (v:IC):Ih l v = some (L8 l v):=by
 unfold Ih Bj L8
 dsimp only
 rw [Bm (by simp; omega),Aa,Bm (by simp; omega),Aa,OT (by omega),Aa,h,if_neg (by simp),List.nil_append,OT (by simp; omega),Aa]
 cases Hu (l ++ [v]) <;> rfl
theorem T4 {l:List IC} (h:Hu l = true) (e:l.length ≤ 60) (v:IC):Io l v = some (L8 l v):=by
 unfold Io Bj L8
 dsimp only
 rw [LK (by omega),Aa,h,if_neg (by simp),Bm (by simp; omega),Aa,Bm (by simp; omega),Aa,List.nil_append,LK (by simp; omega),Aa]
 cases Hu (l ++ [v]) <;> rfl
abbrev BL:=Int × Int × Int × Int
def FV (a b:BL):Prop:=a.2.2.1 < b.2.2.1 ∨ (a.2.2.1 = b.2.2.1 ∧ a.2.1 < b.2.1)
instance (a b:BL):Decidable (FV a b):=by unfold FV; exact inferInstance
def Kj (a b:BL):Prop:=¬ FV b a
theorem LX {a b c:BL} (h1:Kj a b) (e:Kj b c):Kj a c:=by unfold Kj FV at *; omega
theorem LY {a b:BL} (h:FV a b):Kj a b:=by unfold Kj FV at *; omega
theorem Aaf (a:BL):Kj a a:=by unfold Kj FV at *; omega
def L5 (a:BL):Prop:=(0 ≤ a.2.1 ∧ a.2.1 ≤ 99999) ∧ 0 ≤ a.2.2.1 ∧ a.2.2.1 ≤ 99999
theorem Rg {a b:BL} (e:L5 a) (f:L5 b):∃ u,Dr a b = some u ∧ decide (u < 0) = decide (FV a b) ∧ decide (0 ≤ u) = !decide (FV a b):=by
 obtain ⟨⟨l,a2⟩,m,s⟩:=e
 obtain ⟨⟨b1,g⟩,v,b4⟩:=f
 unfold Dr
 by_cases h:a.2.2.1 = b.2.2.1
 ·rw [if_neg (by simp [h]),A8 (by omega) (by omega)]
  refine ⟨_,rfl,?_,?_⟩
  ·rw [decide_eq_decide]; unfold FV; omega
  ·rw [← decide_not,decide_eq_decide]; unfold FV; omega
 ·rw [if_pos (by simpa using h),A8 (by omega) (by omega)]
  refine ⟨_,rfl,?_,?_⟩
  ·rw [decide_eq_decide]; unfold FV; omega
  ·rw [← decide_not,decide_eq_decide]; unfold FV; omega
theorem RC {i j:Nat} (h:i + j < 4611686018427387904):Ag (Br .u64 (Bh (Ag ((i:Int) + (j:Int)))) 1) = (((i + j) / 2:Nat):Int):=by
 rw [A8 (x:=(i:Int) + j) (by omega) (by omega)]
 have f:Bh ((i:Int) + (j:Int)) = (i:Int) + j:=by
  unfold Bh
  show ((i:Int) + (j:Int)) % 18446744073709551616 = _
  omega
 rw [f]
 have e:Br .u64 ((i:Int) + (j:Int)) 1 = (((i + j) / 2:Nat):Int):=by
  unfold Br
  show Int.fdiv ((i:Int) + (j:Int)) 2 = _
  rw [Int.fdiv_eq_ediv_of_nonneg _ (by omega)]
  omega
 rw [e,A8 (by omega) (by omega)]
theorem U4 {R:Type} (f:Nat → Int → Int → Af R) (q:Nat → Bool) (K:Nat → Af R) (g h:Nat)
  (hs:∀ (m i j:Nat),i < j → j ≤ h → g ≤ i → f (m + 1) (i:Int) (j:Int) = if q ((i + j) / 2) = true then f m (((i + j) / 2 + 1:Nat):Int) (j:Int) else f m (i:Int) (((i + j) / 2:Nat):Int))
  (he:∀ (m i:Nat),f (m + 1) (i:Int) (i:Int) = K i) (ag:∀ c c',g ≤ c → c ≤ c' → c' < h → q c' = true → q c = true) :
  ∀ (d m i j:Nat),j - i ≤ d → d < m → g ≤ i → i ≤ j → j ≤ h → (∀ c,g ≤ c → c < i → q c = true) → (∀ c,j ≤ c → c < h → q c = false) →
   ∃ s,g ≤ s ∧ s ≤ h ∧ (∀ c,g ≤ c → c < s → q c = true) ∧ (∀ c,s ≤ c → c < h → q c = false) ∧ f m (i:Int) (j:Int) = K s:=by
 intro d
 induction d with
 | zero =>
  intro m i j hd hm l ai u h1 v
  have:i = j:=by omega
  subst this
  cases m with
  | zero=>omega
  | succ m=>exact ⟨i,l,u,h1,v,he m i⟩
 | succ d ih =>
  intro m i j hd hm l ai u h1 v
  cases m with
  | zero=>omega
  | succ m =>
   by_cases e:i = j
   ·subst e
    exact ⟨i,l,u,h1,v,he m i⟩
   ·rw [hs m i j (by omega) u l]
    cases hq:q ((i + j) / 2) with
    | true =>
     rw [if_pos rfl]
     exact ih m _ j (by omega) (by omega) (by omega) (by omega) u (fun c hc ae=>ag c ((i + j) / 2) hc (by omega) (by omega) hq) v
    | false =>
     rw [if_neg (by simp)]
     refine ih m i _ (by omega) (by omega) l (by omega) (by omega) h1 (fun c hc ae=>?_)
     cases aj:q c with
     | false=>rfl
     | true=>rw [ag ((i + j) / 2) c (by omega) hc ae aj] at hq; cases hq
theorem Jq {α:Type} {A B:List α} {x:α} {k:Nat} (h:k = A.length):AL (A ++ x :: B) (k:Int) = some x:=by
 rw [AX,h,List.getElem?_append_right (by omega)]
 simp
theorem MZ {α:Type} {A B:List α} {x y:α} {k:Nat} (h:k = A.length):BE (A ++ x :: B) (k:Int) y = A ++ y :: B:=by
 rw [J8,h,List.set_append_right _ _ (by omega)]
 simp
theorem X7 (x1 x2 x3:Nat) (A M B:List BL):∀ (P Q P0 Q0:List BL) (m:Nat),P.length = Q.length → P0.length = Q0.length → x1 = A.length → x2 = A.length + P0.length + P.length + M.length → x3 = P0.length + P.length → x2 + x3 < 1000000 → P.length < m →
  Bw (x3:Int) (x2:Int) (x1:Int) m (A ++ P0 ++ P ++ M ++ Q0 ++ Q ++ B) (P0.length:Int) = some (A ++ P0 ++ Q ++ M ++ Q0 ++ P ++ B)
 | [],Q,P0,Q0,m,h1,h2,h3,h4,h5,h6,hm=>by
  have:Q = []:=List.length_eq_zero_iff.1 h1.symm
  subst this
  cases m with
  | zero=>simp at hm
  | succ m =>
   rw [Bw,if_neg (by simp at h5 ⊢; omega)]
 | p :: P,[],P0,Q0,m,h1,h2,h3,h4,h5,h6,hm=>by simp at h1
 | p :: P,q :: Q,P0,Q0,m,h1,h2,h3,h4,h5,h6,hm=>by
  simp only [List.length_cons] at h1 h4 h5 hm
  cases m with
  | zero=>omega
  | succ m =>
   rw [Bw,if_pos (by simp; omega)]
   unfold Bj
   dsimp only
   rw [AC (by omega),A8 (x:=(x2:Int) + _) (by omega) (by omega),A8 (x:=(x1:Int) + _) (by omega) (by omega)]
   rw [show (x2:Int) + (P0.length:Int) = ((x2 + P0.length:Nat):Int) by omega,show (x1:Int) + (P0.length:Int) = ((x1 + P0.length:Nat):Int) by omega]
   have g:A ++ P0 ++ p :: P ++ M ++ Q0 ++ q :: Q ++ B = (A ++ P0 ++ p :: P ++ M ++ Q0) ++ q :: (Q ++ B):=by simp
   have f:(A ++ P0 ++ p :: P ++ M ++ Q0) ++ q :: (Q ++ B) = (A ++ P0) ++ p :: (P ++ M ++ Q0 ++ q :: (Q ++ B)):=by simp
   have h:(A ++ P0) ++ q :: (P ++ M ++ Q0 ++ q :: (Q ++ B)) = (A ++ P0 ++ q :: P ++ M ++ Q0) ++ q :: (Q ++ B):=by simp
   rw [g,Jq (by simp; omega),Aa,f,Jq (by simp; omega),Aa,Aa,MZ (by simp; omega),h,Jq (by simp; omega),Aa,MZ (by simp; omega)]
   have e:=X7 x1 x2 x3 A M B P Q (P0 ++ [q]) (Q0 ++ [p]) m (by omega) (by simpa using h2) h3 (by simp; omega) (by simp; omega) h6 (by omega)
   simp only [List.append_assoc,List.cons_append,List.nil_append,CH,List.length_cons,List.length_nil] at e ⊢
   exact e
theorem NS {A P M Q B:List BL} {x1 x2 x3:Nat} (h1:P.length = Q.length) (e:x1 = A.length) (h:x2 = A.length + P.length + M.length) (g:x3 = P.length) (f:x2 + x3 < 1000000) :
  B8 (A ++ P ++ M ++ Q ++ B) (x1:Int) (x2:Int) (x3:Int) = some (A ++ Q ++ M ++ P ++ B):=by
 unfold B8
 have:=X7 x1 x2 x3 A M B P Q [] [] FU h1 rfl e (by simp; omega) (by simp; omega) f (D1 (by omega))
 simpa using this
theorem MH {α:Type} {l:List α} {k:Nat} (h:k ≤ l.length):∃ P R,l = P ++ R ∧ P.length = k:=⟨l.take k,l.drop k,(List.take_append_drop k l).symm,by simp; omega⟩
theorem ZU (x2:Nat) (hx:x2 < 100000):∀ (d m:Nat) (A U V B:List BL),U.length + V.length ≤ d → d < m → U ≠ [] → V ≠ [] → x2 = A.length + U.length → V.length < 100000 →
  B0 (x2:Int) m (A ++ U ++ V ++ B) (U.length:Int) (V.length:Int) = some (A ++ V ++ U ++ B):=by
 intro d
 induction d with
 | zero =>
  intro m A U V B hd hm f u h2 hv
  exact absurd (List.length_eq_zero_iff.1 (by omega)) f
 | succ d v =>
  intro m A U V B hd hm f u h2 hv
  have ah:=List.length_pos_iff.2 f
  have ai:=List.length_pos_iff.2 u
  cases m with
  | zero=>omega
  | succ m =>
   rw [B0]
   by_cases e:U.length = V.length
   ·rw [if_neg (by simp [e]),A8 (x:=(x2:Int) - _) (by omega) (by omega),show (x2:Int) - (U.length:Int) = (A.length:Int) by omega]
    have:=NS (A:=A) (P:=U) (M:=[]) (Q:=V) (B:=B) (x1:=A.length) (x2:=x2) (x3:=U.length) e rfl (by simp; omega) rfl (by omega)
    simp only [List.append_nil] at this
    rw [this,Aa]
   ·rw [if_pos (by simp; omega)]
    by_cases aa:V.length < U.length
    ·obtain ⟨P,R,rfl,s⟩:=MH (l:=U) (k:=V.length) (by omega)
     simp only [CH] at *
     rw [if_pos (by simp; omega),A8 (x:=(x2:Int) - _) (by omega) (by omega),show (x2:Int) - ((P.length + R.length:Nat):Int) = (A.length:Int) by omega]
     have:=NS (A:=A) (P:=P) (M:=R) (Q:=V) (B:=B) (x1:=A.length) (x2:=x2) (x3:=V.length) s rfl (by omega) (by omega) (by omega)
     rw [show A ++ (P ++ R) ++ V ++ B = A ++ P ++ R ++ V ++ B by simp,this,Aa,A8 (by omega) (by omega),show ((P.length + R.length:Nat):Int) - (V.length:Int) = (R.length:Int) by omega]
     have h:=v m (A ++ V) R P B (by omega) (by omega) (fun h=>by subst h; simp at aa; omega) (fun h=>by subst h; simp at s; omega) (by simp; omega) (by omega)
     rw [s] at h
     rw [h]
     simp
    ·obtain ⟨R,Q,rfl,hR⟩:=MH (l:=V) (k:=V.length - U.length) (by omega)
     simp only [CH] at *
     have g:U.length = Q.length:=by omega
     rw [if_neg (by simp; omega),A8 (x:=(x2:Int) - _) (by omega) (by omega),show (x2:Int) - (U.length:Int) = (A.length:Int) by omega,A8 (x:=(x2:Int) + _) (by omega) (by omega),A8 (by omega) (by omega),
      show (x2:Int) + ((R.length + Q.length:Nat):Int) - (U.length:Int) = ((x2 + R.length:Nat):Int) by omega]
     have:=NS (A:=A) (P:=U) (M:=R) (Q:=Q) (B:=B) (x1:=A.length) (x2:=x2 + R.length) (x3:=U.length) g rfl (by omega) (by omega) (by omega)
     rw [show A ++ U ++ (R ++ Q) ++ B = A ++ U ++ R ++ Q ++ B by simp,this,Aa,A8 (by omega) (by omega),show ((R.length + Q.length:Nat):Int) - (U.length:Int) = (R.length:Int) by omega]
     have h:=v m A Q R (U ++ B) (by omega) (by omega) (fun h=>f (List.length_eq_zero_iff.1 (by rw [g,h]; rfl))) (fun h=>e (by rw [h]; simpa using g)) (by omega) (by omega)
     rw [← g] at h
     rw [show A ++ Q ++ R ++ U ++ B = A ++ Q ++ R ++ (U ++ B) by simp,h]
     simp
theorem YS {A U V B:List BL} {x1 x2 x3:Nat} (e:U ≠ []) (f:V ≠ []) (h1:x1 = A.length) (g:x2 = A.length + U.length) (l:x3 = A.length + U.length + V.length) (h:x3 < 100000) :
  BI (A ++ U ++ V ++ B) (x1:Int) (x2:Int) (x3:Int) = some (A ++ V ++ U ++ B):=by
 unfold BI
 rw [A8 (by omega) (by omega),A8 (by omega) (by omega),show (x2:Int) - (x1:Int) = (U.length:Int) by omega,show (x3:Int) - (x2:Int) = (V.length:Int) by omega]
 exact ZU x2 (by omega) (U.length + V.length) FU A U V B (Nat.le_refl _) (D1 (by omega)) e f g (by omega)
def Gc (l:List BL):Prop:=l.Pairwise Kj
theorem Pr {S1 S2:List BL} {x:BL} (h:Gc (S1 ++ S2)) (m:∀ s ∈ S2,Kj x s) (h1:S1 = [] ∨ ∃ R y,S1 = R ++ [y] ∧ Kj y x):Gc (S1 ++ x :: S2):=by
 unfold Gc at *
 rw [List.pairwise_append] at h ⊢
 refine ⟨h.1,List.pairwise_cons.2 ⟨m,h.2.1⟩,fun a e b f=>?_⟩
 rcases List.mem_cons.1 f with rfl | f
 ·rcases h1 with rfl | ⟨R,y,rfl,l⟩
  ·cases e
  ·rcases AP.1 e with g | g
   ·exact LX ((List.pairwise_append.1 h.1).2.2 a g y (List.mem_singleton.2 rfl)) l
   ·rw [List.mem_singleton.1 g]; exact l
 ·exact h.2.2 a e b f
theorem Zt (nx:List BL → Int → Af (List BL)) (y6:Int) (A B:List BL) (x:BL) (hx:L5 x) (hA:A.length < 100000):∀ (k m:Nat) (S1 S2:List BL),S1.length = k → k < m → k < 100000 → (∀ s ∈ S1,L5 s) → (∀ s ∈ S2,FV x s) → Gc (S1 ++ S2) →
  ∃ Z,Z.Perm (S1 ++ x :: S2) ∧ Gc Z ∧ Bn nx y6 (A.length:Int) m (A ++ S1 ++ x :: S2 ++ B) ((A.length + S1.length:Nat):Int) = nx (A ++ Z ++ B) (Ag (y6 + 1)):=by
 intro k
 induction k with
 | zero =>
  intro m S1 S2 l hm hl v e g
  have:S1 = []:=List.length_eq_zero_iff.1 l
  subst this
  cases m with
  | zero=>omega
  | succ m =>
   refine ⟨x :: S2,List.Perm.refl _,Pr (S1:=[]) g (fun s h=>LY (e s h)) (.inl rfl),?_⟩
   rw [Bn]
   unfold Bj
   dsimp only
   rw [if_neg (by simp),if_neg (by simp)]
   simp
 | succ k ih =>
  intro m S1 S2 l hm hl v e g
  obtain ⟨R,y,rfl⟩:∃ R y,S1 = R ++ [y]:=⟨S1.dropLast,S1.getLast (fun h=>by subst h; simp at l),(List.dropLast_concat_getLast _).symm⟩
  have hR:R.length = k:=by simpa using l
  have hy:=v y (by simp)
  obtain ⟨u,hu,ag,_⟩:=Rg hx hy
  cases m with
  | zero=>omega
  | succ m =>
   rw [Bn]
   unfold Bj
   dsimp only
   have e1:A ++ (R ++ [y]) ++ x :: S2 ++ B = (A ++ R ++ [y]) ++ x :: (S2 ++ B):=by simp
   have e2:(A ++ R ++ [y]) ++ x :: (S2 ++ B) = (A ++ R) ++ y :: (x :: (S2 ++ B)):=by simp
   have ej:Ag (((A.length + (R ++ [y]).length:Nat):Int) - 1) = ((A.length + R.length:Nat):Int):=by
    rw [A8 (by simp; omega) (by simp; omega)]; simp; omega
   rw [if_pos (by simp <;> omega),ej,e1,Jq (by simp <;> omega),Aa,e2,Jq (by simp),Aa,hu,Aa,ag]
   by_cases f:FV x y
   ·rw [decide_eq_true f,if_pos rfl,Aa]
    rw [← e2,Aa,Aa,MZ (by simp <;> omega)]
    have e3:(A ++ R ++ [y]) ++ y :: (S2 ++ B) = (A ++ R) ++ y :: (y :: (S2 ++ B)):=by simp
    rw [e3,Jq (by simp),Aa,MZ (by simp)]
    have au:Gc (R ++ y :: S2):=by simpa using g
    obtain ⟨Z,ah,ae,ao⟩:=ih m R (y :: S2) hR (by omega) (by omega) (fun s h=>v s (by simp [h])) (fun s h=>by
     rcases List.mem_cons.1 h with rfl | h
     ·exact f
     ·exact e s h) au
    refine ⟨Z,ah.trans ?_,ae,?_⟩
    ·rw [List.append_assoc]
     exact List.Perm.append_left R (List.Perm.swap y x S2)
    ·rw [← ao]
     simp
   ·rw [decide_eq_false f,if_neg (by simp)]
    refine ⟨R ++ [y] ++ x :: S2,List.Perm.refl _,Pr g (fun s h=>LY (e s h)) (.inr ⟨R,y,rfl,f⟩),?_⟩
    simp
theorem Vn (A B:List BL) (hA:A.length < 50000):∀ (T S:List BL) (m:Nat),T.length < m → S ≠ [] → S.length + T.length < 50000 → (∀ s ∈ S ++ T,L5 s) → Gc S →
  ∃ Z,Z.Perm (S ++ T) ∧ Gc Z ∧ AY ((A.length + S.length + T.length:Nat):Int) (A.length:Int) m (A ++ S ++ T ++ B) ((A.length + S.length:Nat):Int) = some (A ++ Z ++ B)
 | [],S,m,hm,hS,hl,ho,hs=>by
  cases m with
  | zero=>simp at hm
  | succ m =>
   refine ⟨S,by simp,hs,?_⟩
   rw [AY,if_neg (by simp)]
   simp
 | x :: T,S,m,hm,hS,hl,ho,hs=>by
  simp only [List.length_cons] at hm hl ⊢
  cases m with
  | zero=>omega
  | succ m =>
   obtain ⟨Z,h1,v,u⟩:=Zt (AY ((A.length + S.length + (T.length + 1):Nat):Int) (A.length:Int) m) ((A.length + S.length:Nat):Int) A (T ++ B) x (ho x (by simp)) (by omega) S.length FU S [] rfl (D1 (by omega)) (by omega) (fun s h=>ho s (by simp [h])) (fun s h=>by cases h) (by simpa using hs)
   rw [AY,if_pos (by simp; omega)]
   rw [show A ++ S ++ x :: T ++ B = A ++ S ++ [x] ++ (T ++ B) by simp,u,AC (by omega)]
   have e:Z.length = S.length + 1:=by have:=h1.length_eq; simpa using this
   obtain ⟨W,g,l,f⟩:=Vn A B hA T Z m (by omega) (fun h=>by subst h; simp at e) (by omega) (fun s h=>by
    rcases AP.1 h with h | h
    ·refine ho s ?_
     have:=h1.mem_iff.1 h
     simp only [AP,List.mem_cons,List.not_mem_nil,or_false] at this ⊢
     rcases this with h | h
     ·exact .inl h
     ·exact .inr (.inl h)
    ·exact ho s (by simp [h])) v
   refine ⟨W,g.trans ?_,l,?_⟩
   ·have:=h1.append_right T
    simpa using this
   ·rw [e] at f
    rw [show A ++ Z ++ (T ++ B) = A ++ Z ++ T ++ B by simp,← f]
    congr 1 <;> omega
theorem Ml {A X B:List BL} {a b:Nat} (f:a = A.length) (e:b = A.length + X.length) (m:b < 50000) (l:∀ s ∈ X,L5 s) :
  ∃ Z,Z.Perm X ∧ Gc Z ∧ Bk (A ++ X ++ B) (a:Int) (b:Int) = some (A ++ Z ++ B):=by
 unfold Bk
 rw [AC (by omega)]
 cases X with
 | nil =>
  refine ⟨[],List.Perm.refl _,List.Pairwise.nil,?_⟩
  rw [show FU = (FU - 1) + 1 from rfl,AY,if_neg (by simp at e ⊢; omega)]
 | cons x T =>
  simp only [List.length_cons] at e
  obtain ⟨Z,h1,h,g⟩:=Vn A B (by omega) T [x] FU (D1 (by omega)) (by simp) (by simp; omega) l (List.pairwise_singleton _ _)
  refine ⟨Z,h1,h,?_⟩
  rw [← g]
  simp only [List.length_singleton]
  rw [f,e,show A.length + 1 + T.length = A.length + (T.length + 1) by omega]
  simp
theorem YM (x:BL) (B:List BL) (i:Nat) (l:i < 100000):∀ (Y A:List BL) (m:Nat),Y.length < m → i = A.length + Y.length + 1 →
  Bz (i:Int) m (A ++ x :: Y ++ B) (A.length:Int) = some (A ++ Y ++ x :: B)
 | [],A,m,hm,h=>by
  cases m with
  | zero=>simp at hm
  | succ m =>
   rw [Bz,A8 (x:=(i:Int) - 1) (by omega) (by omega),if_neg (by simp at h ⊢; omega)]
   simp
 | y :: Y,A,m,hm,h=>by
  simp only [List.length_cons] at hm h
  cases m with
  | zero=>omega
  | succ m =>
   rw [Bz,A8 (x:=(i:Int) - 1) (by omega) (by omega),if_pos (by simp; omega)]
   unfold Bj
   dsimp only
   have g:A ++ x :: y :: Y ++ B = (A ++ [x]) ++ y :: (Y ++ B):=by simp
   have f:(A ++ [x]) ++ y :: (Y ++ B) = A ++ x :: (y :: (Y ++ B)):=by simp
   have s:A ++ y :: (y :: (Y ++ B)) = (A ++ [y]) ++ y :: (Y ++ B):=by simp
   rw [AC (by omega),g,Jq (by simp),Aa,f,Jq rfl,Aa,Aa,MZ rfl,s,Jq (by simp),Aa,MZ (by simp)]
   have e:=YM x B i l Y (A ++ [y]) m (by omega) (by simp; omega)
   simp only [CH,List.length_cons,List.length_nil] at e
   rw [show (A ++ [y]) ++ x :: (Y ++ B) = A ++ [y] ++ x :: Y ++ B by simp,e]
   simp
theorem Aco (y:BL) (B:List BL) (i:Nat) (hi:i < 50000) (A:List BL) (hA:i = A.length):∀ (k m:Nat) (X B:List BL),X.length = k → k < m → k < 50000 →
  Bx (i:Int) m (A ++ X ++ y :: B) ((A.length + X.length:Nat):Int) = some (A ++ y :: X ++ B):=by
 intro k
 induction k with
 | zero =>
  intro m X B e s v
  have:X = []:=List.length_eq_zero_iff.1 e
  subst this
  cases m with
  | zero=>omega
  | succ m =>
   rw [Bx,if_neg (by simp; omega)]
   simp
 | succ k f =>
  intro m X B e s v
  obtain ⟨R,z,rfl⟩:∃ R z,X = R ++ [z]:=⟨X.dropLast,X.getLast (fun h=>by subst h; simp at e),(List.dropLast_concat_getLast _).symm⟩
  have u:R.length = k:=by simpa using e
  cases m with
  | zero=>omega
  | succ m =>
   rw [Bx,if_pos (by simp; omega)]
   unfold Bj
   dsimp only
   have l:Ag (((A.length + (R ++ [z]).length:Nat):Int) - 1) = ((A.length + R.length:Nat):Int):=by
    rw [A8 (by simp; omega) (by simp; omega)]; simp; omega
   have g:A ++ (R ++ [z]) ++ y :: B = (A ++ R) ++ z :: (y :: B):=by simp
   have e3:(A ++ R) ++ z :: (y :: B) = (A ++ R ++ [z]) ++ y :: B:=by simp
   have e4:(A ++ R ++ [z]) ++ z :: B = (A ++ R) ++ z :: (z :: B):=by simp
   rw [l,g,Jq (by simp),Aa,e3,Jq (by simp <;> omega),Aa,Aa,MZ (by simp <;> omega),e4,Jq (by simp),Aa,MZ (by simp)]
   have h:=f m R (z :: B) u (by omega) (by omega)
   rw [h]
   simp
theorem Acn {l:List BL} (h:Gc l) {i j:Nat} (g:i ≤ j) (f:j < l.length):Kj (l[i]'(by omega)) l[j]:=by
 by_cases e:i = j
 ·subst e; exact Aaf _
 ·exact (List.pairwise_iff_getElem.1 h) i j (by omega) f (by omega)
theorem Adz {A Y B:List BL} {k:Nat} (h1:A.length ≤ k) (e:k < A.length + Y.length):AL (A ++ Y ++ B) (k:Int) = some (Y[k - A.length]'(by omega)):=by
 rw [AX,List.append_assoc,List.getElem?_append_right h1,List.getElem?_append_left (by omega),Cb]
def CN (Y:List BL) (k:Nat):BL:=(Y[k]?).getD (0,0,0,0)
theorem FW {Y:List BL} {k:Nat} (h:k < Y.length):CN Y k = Y[k]:=by unfold CN; rw [Cb h]; rfl
theorem Tq {A Y B:List BL} {k:Nat} (h1:A.length ≤ k) (e:k < A.length + Y.length):AL (A ++ Y ++ B) (k:Int) = some (CN Y (k - A.length)):=by rw [Adz h1 e,FW]
theorem Jb {Y:List BL} {k:Nat} (h:k < Y.length):CN Y k ∈ Y:=by rw [FW h]; exact List.getElem_mem h
theorem Mp {Y:List BL} (g:Gc Y) {i j:Nat} (f:i ≤ j) (e:j < Y.length):Kj (CN Y i) (CN Y j):=by rw [FW (by omega),FW e]; exact Acn g f e
theorem Mj {Y:List BL} {y:BL} (h:y ∈ Y):∃ k,k < Y.length ∧ y = CN Y k:=by
 obtain ⟨k,e,rfl⟩:=List.getElem_of_mem h
 exact ⟨k,e,(FW e).symm⟩
theorem Qf {P R:List BL} {k:Nat} (h:k < P.length):CN (P ++ R) k = CN P k:=by unfold CN; rw [List.getElem?_append_left h]
theorem OJ {P R:List BL} {k:Nat}:CN (P ++ R) (P.length + k) = CN R k:=by unfold CN; rw [List.getElem?_append_right (by omega)]; congr 2; omega
theorem Ue {S:List BL} {x:BL} (h:∀ s ∈ S,Kj s x):S = [] ∨ ∃ R y,S = R ++ [y] ∧ Kj y x:=by
 by_cases e:S = []
 ·exact .inl e
 ·exact .inr ⟨S.dropLast,S.getLast e,(List.dropLast_concat_getLast e).symm,h _ (List.getLast_mem e)⟩
theorem Abk {A Y B:List BL} {x:BL} (v:A.length + Y.length < 40000) (hx:L5 x) (ho:∀ y ∈ Y,L5 y) (g:Gc Y) :
  ∃ Z,Z.Perm (x :: Y) ∧ Gc Z ∧ AJ (A ++ x :: Y ++ B) (A.length:Int) FU ((A.length + 1:Nat):Int) ((A.length + 1 + Y.length:Nat):Int) = some (A ++ Z ++ B):=by
 obtain ⟨s,h1,f,h3,h4,h5⟩:=U4 (AJ (A ++ x :: Y ++ B) (A.length:Int)) (fun h=>decide (FV (CN Y (h - (A.length + 1))) x)) (fun i=>AJ (A ++ x :: Y ++ B) (A.length:Int) 1 (i:Int) (i:Int)) (A.length + 1) (A.length + 1 + Y.length)
  (fun m i j ay hj hi=>by
   have hh:(i + j) / 2 < A.length + 1 + Y.length:=by omega
   have av:A.length + 1 ≤ (i + j) / 2:=by omega
   have hm:=Jb (Y:=Y) (k:=(i + j) / 2 - (A.length + 1)) (by omega)
   obtain ⟨u,hu,ah,_⟩:=Rg (ho _ hm) hx
   have eg:AL (A ++ x :: Y ++ B) (((i + j) / 2:Nat):Int) = some (CN Y ((i + j) / 2 - (A.length + 1))):=by
    have:=Tq (A:=A ++ [x]) (Y:=Y) (B:=B) (k:=(i + j) / 2) (by simp; omega) (by simp; omega)
    simpa using this
   have ex:AL (A ++ x :: Y ++ B) (A.length:Int) = some x:=by
    have:=Jq (A:=A) (B:=Y ++ B) (x:=x) (k:=A.length) rfl
    simpa using this
   rw [AJ,if_pos (by simp; omega),RC (by omega),eg,Aa,ex,Aa,hu,Aa,ah,AC (by omega)])
  (fun m i=>by
   rw [AJ,if_neg (by simp),AJ,if_neg (by simp)])
  (fun c c' hc ax az hq=>by
   have:=Mp g (i:=c - (A.length + 1)) (j:=c' - (A.length + 1)) (by omega) (by omega)
   simp only [C9] at hq ⊢
   unfold Kj FV at *
   omega) Y.length FU (A.length + 1) (A.length + 1 + Y.length) (by omega) (D1 (by omega)) (by omega) (by omega) (by omega) (fun c h1 f=>by omega) (fun c h1 f=>by omega)
 obtain ⟨P,R,rfl,hP⟩:=MH (l:=Y) (k:=s - (A.length + 1)) (by omega)
 have ad:∀ y ∈ P,FV y x:=fun y e=>by
  obtain ⟨k,hk,rfl⟩:=Mj e
  have:=h3 (A.length + 1 + k) (by omega) (by omega)
  simp only [C9,show A.length + 1 + k - (A.length + 1) = k by omega,Qf hk] at this
  exact this
 have ag:∀ y ∈ R,Kj x y:=fun y e=>by
  obtain ⟨k,hk,rfl⟩:=Mj e
  have:=h4 (A.length + 1 + (P.length + k)) (by omega) (by simp; omega)
  simp only [decide_eq_false_iff_not,show A.length + 1 + (P.length + k) - (A.length + 1) = P.length + k by omega,OJ] at this
  exact this
 refine ⟨P ++ x :: R,List.perm_middle,Pr g ag (Ue fun y e=>LY (ad y e)),?_⟩
 rw [h5,AJ,if_neg (by simp)]
 have:=YM x (R ++ B) s (by simp at f v; omega) P A FU (D1 (by simp at v; omega)) (by omega)
 rw [show A ++ x :: (P ++ R) ++ B = A ++ x :: P ++ (R ++ B) by simp,this]
 simp
theorem ZK {A X B:List BL} {y:BL} (g:A.length + X.length < 40000) (hy:L5 y) (ho:∀ x ∈ X,L5 x) (v:Gc X) :
  ∃ Z,Z.Perm (X ++ [y]) ∧ Gc Z ∧ AH (A ++ X ++ y :: B) ((A.length + X.length:Nat):Int) FU (A.length:Int) ((A.length + X.length:Nat):Int) = some (A ++ Z ++ B):=by
 obtain ⟨s,h1,f,h3,h4,h5⟩:=U4 (AH (A ++ X ++ y :: B) ((A.length + X.length:Nat):Int)) (fun h=>!decide (FV y (CN X (h - A.length)))) (fun i=>AH (A ++ X ++ y :: B) ((A.length + X.length:Nat):Int) 1 (i:Int) (i:Int)) A.length (A.length + X.length)
  (fun m i j aw hj hi=>by
   have hm:=Jb (Y:=X) (k:=(i + j) / 2 - A.length) (by omega)
   obtain ⟨u,hu,ag,_⟩:=Rg hy (ho _ hm)
   have eg:=Tq (A:=A) (Y:=X) (B:=y :: B) (k:=(i + j) / 2) (by omega) (by omega)
   have ey:=Jq (A:=A ++ X) (B:=B) (x:=y) (k:=A.length + X.length) (by simp)
   rw [AH,if_pos (by simp; omega),RC (by omega),ey,Aa,eg,Aa,hu,Aa,ag,AC (by omega)])
  (fun m i=>by
   rw [AH,if_neg (by simp),AH,if_neg (by simp)])
  (fun c c' hc av ax hq=>by
   have:=Mp v (i:=c - A.length) (j:=c' - A.length) (by omega) (by omega)
   simp only [Bool.not_eq_true',decide_eq_false_iff_not] at hq ⊢
   unfold Kj FV at *
   omega) X.length FU A.length (A.length + X.length) (by omega) (D1 (by omega)) (by omega) (by omega) (by omega) (fun c h1 f=>by omega) (fun c h1 f=>by omega)
 obtain ⟨P,R,rfl,hP⟩:=MH (l:=X) (k:=s - A.length) (by omega)
 have ac:∀ x ∈ P,Kj x y:=fun x e=>by
  obtain ⟨k,hk,rfl⟩:=Mj e
  have:=h3 (A.length + k) (by omega) (by omega)
  simp only [Bool.not_eq_true',decide_eq_false_iff_not,show A.length + k - A.length = k by omega,Qf hk] at this
  exact this
 have ae:∀ x ∈ R,FV y x:=fun x e=>by
  obtain ⟨k,hk,rfl⟩:=Mj e
  have:=h4 (A.length + (P.length + k)) (by omega) (by simp; omega)
  simp only [Bool.not_eq_false',C9,show A.length + (P.length + k) - A.length = P.length + k by omega,OJ] at this
  exact this
 refine ⟨P ++ y :: R,?_,Pr v (fun x e=>LY (ae x e)) (Ue ac),?_⟩
 ·have:(y :: R).Perm (R ++ [y]):=(List.perm_append_singleton y R).symm
  have:=this.append_left P
  simpa using this
 ·rw [h5,AH,if_neg (by simp)]
  have:=Aco y B s (by simp at f g; omega) (A ++ P) (by simp; omega) R.length FU R B rfl (D1 (by simp at g; omega)) (by simp at g; omega)
  simp only [CH] at this ⊢
  rw [show A ++ (P ++ R) ++ y :: B = A ++ P ++ R ++ y :: B by simp,show A.length + (P.length + R.length) = A.length + P.length + R.length by omega,this]
  simp
theorem Abn {L R:List BL} (e:Gc L) (f:Gc R) (h:∀ x ∈ L,∀ y ∈ R,Kj x y):Gc (L ++ R):=List.pairwise_append.2 ⟨e,f,h⟩
theorem M9 {L R:List BL} (h:Gc (L ++ R)):Gc L:=(List.pairwise_append.1 h).1
theorem LS {L R:List BL} (h:Gc (L ++ R)):Gc R:=(List.pairwise_append.1 h).2.1
theorem UZ {L R:List BL} (h:Gc (L ++ R)):∀ x ∈ L,∀ y ∈ R,Kj x y:=(List.pairwise_append.1 h).2.2
theorem Ach {R:Type} {p q:Bool} {a b:Af R}:(if p = true then (if q = true then a else b) else (if false = true then a else b)) = if (p && q) = true then a else b:=by cases p <;> cases q <;> rfl
theorem ZJ:∀ (d m:Nat) (A X Y B:List BL),X.length + Y.length ≤ d → d < m → X ≠ [] → Y ≠ [] → Gc X → Gc Y → (∀ x ∈ X ++ Y,L5 x) → A.length + X.length + Y.length < 10000 →
  ∃ Z,Z.Perm (X ++ Y) ∧ Gc Z ∧ AO m (A ++ X ++ Y ++ B) (A.length:Int) ((A.length + X.length:Nat):Int) ((A.length + X.length + Y.length:Nat):Int) = some (A ++ Z ++ B):=by
 intro d
 induction d with
 | zero =>
  intro m A X Y B hd hm hX hY _ _ _ _
  exact absurd (List.length_eq_zero_iff.1 (by omega)) hX
 | succ d ih =>
  intro m A X Y B hd hm hX hY sX sY ho hl
  have b5:=List.length_pos_iff.2 hX
  have cc:=List.length_pos_iff.2 hY
  cases m with
  | zero=>omega
  | succ m =>
   show ∃ Z,Z.Perm (X ++ Y) ∧ Gc Z ∧ BX (AO m) (A ++ X ++ Y ++ B) (A.length:Int) ((A.length + X.length:Nat):Int) ((A.length + X.length + Y.length:Nat):Int) = some (A ++ Z ++ B)
   unfold BX
   rw [A8 (x:=((A.length + X.length:Nat):Int) - _) (by omega) (by omega),A8 (x:=((A.length + X.length + Y.length:Nat):Int) - _) (by omega) (by omega)]
   by_cases e1:X.length = 1
   ·obtain ⟨x,rfl⟩:=List.length_eq_one_iff.1 e1
    obtain ⟨Z,z1,z2,z3⟩:=Abk (A:=A) (Y:=Y) (B:=B) (x:=x) (by omega) (ho x (by simp)) (fun y g=>ho y (by simp [g])) sY
    rw [if_pos (by simp; omega)]
    refine ⟨Z,by simpa using z1,z2,?_⟩
    rw [← z3]
    simp
   ·rw [if_neg (by simp; omega)]
    by_cases e2:Y.length = 1
    ·obtain ⟨y,rfl⟩:=List.length_eq_one_iff.1 e2
     obtain ⟨Z,z1,z2,z3⟩:=ZK (A:=A) (X:=X) (B:=B) (y:=y) (by omega) (ho y (by simp)) (fun x f=>ho x (by simp [f])) sX
     rw [if_pos (by simp; omega)]
     refine ⟨Z,z1,z2,?_⟩
     rw [← z3]
     simp
    ·rw [if_neg (by simp; omega)]
     obtain ⟨e,bf⟩:∃ e,e = (A.length + (A.length + X.length + Y.length)) / 2:=⟨_,rfl⟩
     have hh:Ag (Br .u64 (Bh (Ag ((A.length:Int) + ((A.length + X.length + Y.length:Nat):Int)))) 1) = (e:Int):=by rw [bf]; exact RC (by omega)
     unfold FT
     dsimp only
     rw [hh,A8 (x:=(e:Int) + _) (by omega) (by omega),A8 (x:=(e:Int) + _ - _) (by omega) (by omega)]
     -- where the search starts
     have az:∀ lo v:Nat,A.length ≤ lo → lo ≤ v → v ≤ A.length + X.length → A.length + X.length ≤ e + (A.length + X.length) - v → e + (A.length + X.length) - lo ≤ A.length + X.length + Y.length →
       (lo = A.length ∨ e + (A.length + X.length) - lo = A.length + X.length + Y.length) → (v = A.length + X.length ∨ e + (A.length + X.length) - v = A.length + X.length) →
       ∃ Z,Z.Perm (X ++ Y) ∧ Gc Z ∧ AG (A ++ X ++ Y ++ B) (A.length:Int) ((A.length + X.length + Y.length:Nat):Int) ((A.length + X.length:Nat):Int) (AO m) FU (lo:Int) (v:Int) = some (A ++ Z ++ B):=by
      intro lo v bz bu cb ce cg be bl
      obtain ⟨s,h1,h2,h3,h4,h5⟩:=U4 (AG (A ++ X ++ Y ++ B) (A.length:Int) ((A.length + X.length + Y.length:Nat):Int) ((A.length + X.length:Nat):Int) (AO m))
       (fun c=>!decide (FV (CN Y (e - 1 - c)) (CN X (c - A.length)))) (fun i=>AG (A ++ X ++ Y ++ B) (A.length:Int) ((A.length + X.length + Y.length:Nat):Int) ((A.length + X.length:Nat):Int) (AO m) 1 (i:Int) (i:Int)) lo v
       (fun m' i j b4 hj b9=>by
        have b1:A.length ≤ (i + j) / 2:=by omega
        have bw:(i + j) / 2 < v:=by omega
        have bh:=Jb (Y:=X) (k:=(i + j) / 2 - A.length) (by omega)
        have a8:=Jb (Y:=Y) (k:=e - 1 - (i + j) / 2) (by omega)
        obtain ⟨u,hu,bj,_⟩:=Rg (ho _ (Bi _ a8)) (ho _ (At _ bh))
        have eX:=Tq (A:=A) (Y:=X) (B:=Y ++ B) (k:=(i + j) / 2) (by omega) (by omega)
        have eY:=Tq (A:=A ++ X) (Y:=Y) (B:=B) (k:=e + (A.length + X.length) - 1 - (i + j) / 2) (by simp; omega) (by simp; omega)
        rw [CH,show e + (A.length + X.length) - 1 - (i + j) / 2 - (A.length + X.length) = e - 1 - (i + j) / 2 by omega] at eY
        rw [show A ++ X ++ (Y ++ B) = A ++ X ++ Y ++ B by simp] at eX
        rw [AG,if_pos (by simp; omega),hh,RC (by omega),A8 (x:=(e:Int) + _) (by omega) (by omega),A8 (x:=(e:Int) + _ - 1) (by omega) (by omega),A8 (x:=(e:Int) + _ - 1 - _) (by omega) (by omega),
         show (e:Int) + ((A.length + X.length:Nat):Int) - 1 - (((i + j) / 2:Nat):Int) = ((e + (A.length + X.length) - 1 - (i + j) / 2:Nat):Int) by omega,eY,Aa,eX,Aa,hu,Aa,bj,AC (by omega)])
       (fun m' i=>by
        rw [AG,if_neg (by simp),AG,if_neg (by simp)])
       (fun c c' hc b0 cf hq=>by
        have an:=Mp sX (i:=c - A.length) (j:=c' - A.length) (by omega) (by omega)
        have aq:=Mp sY (i:=e - 1 - c') (j:=e - 1 - c) (by omega) (by omega)
        simp only [Bool.not_eq_true',decide_eq_false_iff_not] at hq ⊢
        unfold Kj FV at *
        omega) X.length FU lo v (by omega) (D1 (by omega)) (by omega) bu (by omega) (fun c h1 h2=>by omega) (fun c h1 h2=>by omega)
      rw [h5]
      obtain ⟨X1,U,rfl,br⟩:=MH (l:=X) (k:=s - A.length) (by omega)
      obtain ⟨V,Y2,rfl,hV⟩:=MH (l:=Y) (k:=e - s) (by omega)
      simp only [CH] at *
      -- what stands left goes ahead of what stands right
      have c1:∀ x ∈ X1,∀ y ∈ Y2,Kj x y:=fun x f y g=>by
       obtain ⟨i,bv,rfl⟩:=Mj f
       obtain ⟨j,ba,rfl⟩:=Mj g
       have bo:lo < s:=by
        rcases be with h | h
        ·omega
        ·rcases Nat.lt_or_ge lo s with h' | h'
         ·exact h'
         ·exfalso
          have:s = lo:=by omega
          omega
       have hq:=h3 (s - 1) (by omega) (by omega)
       simp only [Bool.not_eq_true',decide_eq_false_iff_not] at hq
       rw [show e - 1 - (s - 1) = V.length + 0 by omega,OJ,Qf (by omega)] at hq
       have an:=Mp (M9 sX) (i:=i) (j:=s - 1 - A.length) (by omega) (by omega)
       have aq:=Mp (LS sY) (i:=0) (j:=j) (by omega) (by omega)
       exact LX an (LX hq aq)
      have c2:∀ x ∈ V,∀ y ∈ U,Kj x y:=fun x f y g=>by
       obtain ⟨i,bv,rfl⟩:=Mj f
       obtain ⟨j,ba,rfl⟩:=Mj g
       have bo:s < v:=by
        rcases bl with h | h
        ·omega
        ·rcases Nat.lt_or_ge s v with h' | h'
         ·exact h'
         ·exfalso
          have:s = v:=by omega
          omega
       have hq:=h4 s (by omega) (by omega)
       simp only [Bool.not_eq_false',C9] at hq
       rw [Qf (by omega),show s - A.length = X1.length + 0 by omega,OJ] at hq
       have an:=Mp (LS sX) (i:=0) (j:=j) (by omega) (by omega)
       have aq:=Mp (M9 sY) (i:=i) (j:=e - 1 - s) (by omega) (by omega)
       exact LX aq (LX (LY hq) an)
      have a4:∀ x ∈ X1 ++ V,∀ y ∈ U ++ Y2,Kj x y:=fun x f y g=>by
       rcases AP.1 f with f | f <;> rcases AP.1 g with g | g
       ·exact UZ sX x f y g
       ·exact c1 x f y g
       ·exact c2 x f y g
       ·exact UZ sY x f y g
      rw [AG,if_neg (by simp)]
      unfold Bj
      dsimp only
      rw [hh,A8 (x:=(e:Int) + _) (by omega) (by omega),A8 (x:=(e:Int) + _ - _) (by omega) (by omega),show (e:Int) + ((A.length + (X1.length + U.length):Nat):Int) - (s:Int) = ((A.length + X1.length + V.length + U.length:Nat):Int) by omega]
      simp only [Ach]
      have cd:e = A.length + X1.length + V.length:=by omega
      have bp:∀ (K:List BL → Af (List BL)),(if (decide ((s:Int) < ((A.length + (X1.length + U.length):Nat):Int)) && decide (((A.length + (X1.length + U.length):Nat):Int) < ((A.length + X1.length + V.length + U.length:Nat):Int))) = true then
        Option.bind (BI (A ++ (X1 ++ U) ++ (V ++ Y2) ++ B) (s:Int) ((A.length + (X1.length + U.length):Nat):Int) ((A.length + X1.length + V.length + U.length:Nat):Int)) K else K (A ++ (X1 ++ U) ++ (V ++ Y2) ++ B)) = K (A ++ (X1 ++ V) ++ (U ++ Y2) ++ B):=by
       intro K
       by_cases hU:U = []
       ·subst hU
        rw [if_neg (by simp; omega)]
        simp
       ·by_cases aj:V = []
        ·subst aj
         rw [if_neg (by simp; omega)]
         simp
        ·have u0:=List.length_pos_iff.2 hU
         have v0:=List.length_pos_iff.2 aj
         have:=YS (A:=A ++ X1) (U:=U) (V:=V) (B:=Y2 ++ B) (x1:=s) (x2:=A.length + (X1.length + U.length)) (x3:=A.length + X1.length + V.length + U.length) hU aj (by simp; omega) (by simp; omega) (by simp; omega) (by omega)
         rw [if_pos (by simp; omega),show A ++ (X1 ++ U) ++ (V ++ Y2) ++ B = A ++ X1 ++ U ++ V ++ (Y2 ++ B) by simp,this,Aa]
         simp
      have bc:∃ Z1:List BL,Z1.Perm (X1 ++ V) ∧ Gc Z1 ∧ ∀ (K:List BL → Af (List BL)),(if (decide ((A.length:Int) < (s:Int)) && decide ((s:Int) < (e:Int))) = true then
        Option.bind (AO m (A ++ (X1 ++ V) ++ (U ++ Y2) ++ B) (A.length:Int) (s:Int) (e:Int)) K else K (A ++ (X1 ++ V) ++ (U ++ Y2) ++ B)) = K (A ++ Z1 ++ (U ++ Y2) ++ B):=by
       by_cases ar:X1 = []
       ·subst ar
        exact ⟨[] ++ V,List.Perm.refl _,M9 sY,fun K=>by rw [if_neg (by simp at br ⊢; omega)]⟩
       ·by_cases aj:V = []
        ·subst aj
         exact ⟨X1 ++ [],List.Perm.refl _,by simpa using M9 sX,fun K=>by rw [if_neg (by simp at hV ⊢; omega)]⟩
        ·have x0:=List.length_pos_iff.2 ar
         have v0:=List.length_pos_iff.2 aj
         obtain ⟨Z1,z1,z2,z3⟩:=ih m A X1 V (U ++ Y2 ++ B) (by omega) (by omega) ar aj (M9 sX) (M9 sY) (fun x f=>ho x (by
          rcases AP.1 f with h | h
          ·simp [h]
          ·simp [h])) (by omega)
         refine ⟨Z1,z1,z2,fun K=>?_⟩
         rw [show A.length + X1.length = s by omega,show s + V.length = e by omega] at z3
         rw [if_pos (by simp; omega),show A ++ (X1 ++ V) ++ (U ++ Y2) ++ B = A ++ X1 ++ V ++ (U ++ Y2 ++ B) by simp,z3,Aa]
         simp
      obtain ⟨Z1,z1,z2,z3⟩:=bc
      have zl:Z1.length = X1.length + V.length:=by have:=z1.length_eq; simpa using this
      have a9:∃ Z2:List BL,Z2.Perm (U ++ Y2) ∧ Gc Z2 ∧ (if (decide ((e:Int) < ((A.length + X1.length + V.length + U.length:Nat):Int)) && decide (((A.length + X1.length + V.length + U.length:Nat):Int) < ((A.length + (X1.length + U.length) + (V.length + Y2.length):Nat):Int))) = true then
        Option.bind (AO m (A ++ Z1 ++ (U ++ Y2) ++ B) (e:Int) ((A.length + X1.length + V.length + U.length:Nat):Int) ((A.length + (X1.length + U.length) + (V.length + Y2.length):Nat):Int)) (fun u=>some u) else some (A ++ Z1 ++ (U ++ Y2) ++ B)) = some (A ++ Z1 ++ Z2 ++ B):=by
       by_cases hU:U = []
       ·subst hU
        exact ⟨[] ++ Y2,List.Perm.refl _,LS sY,by rw [if_neg (by simp; omega)]⟩
       ·by_cases aw:Y2 = []
        ·subst aw
         exact ⟨U ++ [],List.Perm.refl _,by simpa using LS sX,by rw [if_neg (by simp; omega)]⟩
        ·have u0:=List.length_pos_iff.2 hU
         have y0:=List.length_pos_iff.2 aw
         obtain ⟨Z2,w1,w2,w3⟩:=ih m (A ++ Z1) U Y2 B (by omega) (by omega) hU aw (LS sX) (LS sY) (fun x f=>ho x (by
          rcases AP.1 f with h | h
          ·simp [h]
          ·simp [h])) (by simp; omega)
         refine ⟨Z2,w1,w2,?_⟩
         simp only [CH] at w3
         rw [show A.length + Z1.length = e by omega,show e + U.length = A.length + X1.length + V.length + U.length by omega,show A.length + X1.length + V.length + U.length + Y2.length = A.length + (X1.length + U.length) + (V.length + Y2.length) by omega] at w3
         rw [if_pos (by simp; omega),show A ++ Z1 ++ (U ++ Y2) ++ B = A ++ Z1 ++ U ++ Y2 ++ B by simp,w3,Aa]
      obtain ⟨Z2,w1,w2,w3⟩:=a9
      refine ⟨Z1 ++ Z2,?_,Abn z2 w2 (fun x f y g=>a4 x (z1.mem_iff.1 f) y (w1.mem_iff.1 g)),?_⟩
      ·have h1:=z1.append w1
       have h2:(X1 ++ V ++ (U ++ Y2)).Perm (X1 ++ U ++ (V ++ Y2)):=by
        have h3:=((List.perm_append_comm (l₁:=V) (l₂:=U)).append_left X1).append_right Y2
        simpa using h3
       exact h1.trans h2
      ·rw [bp,z3,w3]
       simp
     by_cases b8:e < A.length + X.length
     ·rw [if_pos (by simp; omega),show (e:Int) + ((A.length + X.length:Nat):Int) - ((A.length + X.length + Y.length:Nat):Int) = ((e + (A.length + X.length) - (A.length + X.length + Y.length):Nat):Int) by omega]
      exact az _ _ (by omega) (by omega) (by omega) (by omega) (by omega) (by omega) (by omega)
     ·rw [if_neg (by simp; omega)]
      exact az _ _ (by omega) (by omega) (by omega) (by omega) (by omega) (by omega) (by omega)
theorem Xm {X Y:List BL} (h:X ≠ []) (m:Y ≠ []) (f:Gc X) (l:Gc Y) (v:∀ x ∈ X ++ Y,L5 x) (u:X.length + Y.length < 10000) :
  ∃ Z,Z.Perm (X ++ Y) ∧ Gc Z ∧ Cd (X ++ Y) 0 (X.length:Int) ((X.length + Y.length:Nat):Int) = some Z:=by
 obtain ⟨Z,g,e,s⟩:=ZJ (X.length + Y.length) FU [] X Y [] (Nat.le_refl _) (D1 (by omega)) h m f l v (by simpa using u)
 exact ⟨Z,g,e,by simpa [Cd] using s⟩
theorem YD {l:List BL} (hl:l.length ≤ 40) (ho:∀ x ∈ l,L5 x):∃ Z,Z.Perm l ∧ Gc Z ∧ B7 l = some Z:=by
 have f1 (g:Nat):g + 1 = g.succ:=rfl
 unfold B7 C7
 by_cases a9:l.length < 20
 ·obtain ⟨Z,z1,v,u⟩:=Ml (A:=[]) (X:=l) (B:=[]) (a:=0) (b:=l.length) rfl (by simp) (by omega) ho
  simp only [List.nil_append,List.append_nil] at u
  refine ⟨Z,z1,v,?_⟩
  have e2:AF (l.length:Int) FU Z 20 = some Z:=by
   have:∀ g,AF (l.length:Int) (g + 1) Z 20 = some Z:=fun g=>by
    rw [AF,if_neg (by simp; omega)]
   exact this (FU - 1)
  have e1:AM (l.length:Int) FU l 0 20 = some Z:=by
   have:∀ g,AM (l.length:Int) (g + 1) l 0 20 = some Z:=fun g=>by
    rw [AM,if_neg (by simp; omega),show (0:Int) = ((0:Nat):Int) from rfl,u,Aa,e2]
   exact this (FU - 1)
  rw [e1,Aa]
 ·obtain ⟨X,Y,rfl,hX⟩:=MH (l:=l) (k:=20) (by omega)
  simp only [CH] at hl a9
  obtain ⟨Z1,z1,v,u⟩:=Ml (A:=[]) (X:=X) (B:=Y) (a:=0) (b:=20) rfl (by simp [hX]) (by omega) (fun s h=>ho s (by simp [h]))
  have zl:Z1.length = 20:=by rw [z1.length_eq,hX]
  obtain ⟨Z2,w1,w2,w3⟩:=Ml (A:=Z1) (X:=Y) (B:=[]) (a:=20) (b:=20 + Y.length) (by omega) (by omega) (by omega) (fun s h=>ho s (by simp [h]))
  have wl:Z2.length = Y.length:=w1.length_eq
  simp only [List.nil_append,List.append_nil] at u w3
  have al:(Z1 ++ Z2).Perm (X ++ Y):=z1.append w1
  have a4:∀ x ∈ Z1 ++ Z2,L5 x:=fun x hx=>ho x (al.mem_iff.1 hx)
  have hn:(((X ++ Y).length:Nat):Int) = ((20 + Y.length:Nat):Int):=by simp [hX]
  have an:Ag ((0:Int) + 20) = ((20:Nat):Int):=by decide
  have ap:Ag (2 * 20) = ((40:Nat):Int):=by decide
  have ao:Ag ((20:Int) * 2) = ((40:Nat):Int):=by decide
  -- the merge
  have ay:∃ Z,Z.Perm (X ++ Y) ∧ Gc Z ∧ AF ((20 + Y.length:Nat):Int) FU (Z1 ++ Z2) 20 = some Z:=by
   by_cases hY:Y = []
   ·subst hY
    have:Z2 = []:=List.Perm.eq_nil w1
    subst this
    refine ⟨Z1 ++ [],al,by simpa using v,?_⟩
    have:∀ g,AF ((20 + 0:Nat):Int) (g + 1) (Z1 ++ []) 20 = some (Z1 ++ []):=fun g=>by
     rw [AF,if_neg (by simp)]
    exact this (FU - 1)
   ·have y0:=List.length_pos_iff.2 hY
    obtain ⟨Z,v1,v2,f⟩:=Xm (X:=Z1) (Y:=Z2) (fun h=>by subst h; simp at zl) (fun h=>by subst h; simp at wl; exact hY (List.length_eq_zero_iff.1 wl.symm)) v w2 a4 (by omega)
    rw [zl,wl] at f
    refine ⟨Z,v1.trans al,v2,?_⟩
    have l3:∀ (m:List BL → Int → Af (List BL)),Bo ((20 + Y.length:Nat):Int) 20 m FU (Z1 ++ Z2) 0 ((40:Nat):Int) = m Z ((40:Nat):Int):=by
     intro m
     have:∀ g,Bo ((20 + Y.length:Nat):Int) 20 m (g + 2) (Z1 ++ Z2) 0 ((40:Nat):Int) = m Z ((40:Nat):Int):=fun g=>by
      rw [Bo]
      unfold Bj
      dsimp only
      by_cases am:Y.length = 20
      ·have e:((40:Nat):Int) = ((20 + Y.length:Nat):Int):=by omega
       have az:Ag (((20 + Y.length:Nat):Int) + 20) = ((60:Nat):Int):=by rw [am]; decide
       rw [if_pos (by simp; omega),an,e,f,Aa,Bo]
       unfold Bj
       dsimp only
       rw [ap,if_neg (by rw [A8 (by omega) (by omega)]; simp; omega),az,if_neg (by simp; omega),ao,e]
      ·rw [if_neg (by simp; omega),an,if_pos (by simp; omega),f,Aa,ao]
     exact this (FU - 2)
    have:∀ g,AF ((20 + Y.length:Nat):Int) (g + 2) (Z1 ++ Z2) 20 = some Z:=fun g=>by
     rw [AF,if_pos (by simp; omega),ap,l3,AF,if_neg (by simp; omega)]
    exact this (FU - 2)
  obtain ⟨Z,v1,v2,f⟩:=ay
  refine ⟨Z,v1,v2,?_⟩
  have l1:AM ((20 + Y.length:Nat):Int) FU (X ++ Y) 0 20 = some Z:=by
   have:∀ g,AM ((20 + Y.length:Nat):Int) (g + 3) (X ++ Y) 0 20 = some Z:=fun g=>by
    have a1:Ag ((20:Int) + 20) = ((40:Nat):Int):=by decide
    have a2:Ag (((40:Nat):Int) + 20) = ((60:Nat):Int):=by decide
    have av:Bk (X ++ Y) 0 20 = some (Z1 ++ Y):=u
    rw [AM,if_pos (by simp; omega),av,Aa,a1,AM]
    by_cases am:Y.length = 20
    ·have e:((40:Nat):Int) = ((20 + Y.length:Nat):Int):=by omega
     have ac:Bk (Z1 ++ Y) 20 ((40:Nat):Int) = some (Z1 ++ Z2):=by rw [e]; exact w3
     obtain ⟨Z3,y1,_,y3⟩:=Ml (A:=Z1 ++ Z2) (X:=[]) (B:=[]) (a:=40) (b:=20 + Y.length) (by simp; omega) (by simp; omega) (by omega) (fun s h=>by cases h)
     have:Z3 = []:=List.Perm.eq_nil y1
     subst this
     simp only [List.append_nil] at y3
     rw [if_pos (by simp; omega),ac,Aa,a2,AM,if_neg (by simp; omega),y3,Aa,f]
    ·have ac:Bk (Z1 ++ Y) 20 ((20 + Y.length:Nat):Int) = some (Z1 ++ Z2):=w3
     rw [if_neg (by simp; omega),ac,Aa,f]
   exact this (FU - 3)
  rw [hn,l1,Aa]
def IP (x:BL):Bool:=BK x.1 1 12 && (BK x.2.1 1 9 && (BK x.2.2.1 0 999 && BK x.2.2.2 (x.2.2.1 + 1) 1000))
theorem Ng {x:BL}:IP x = true ↔ (1 ≤ x.1 ∧ x.1 ≤ 12) ∧ (1 ≤ x.2.1 ∧ x.2.1 ≤ 9) ∧ (0 ≤ x.2.2.1 ∧ x.2.2.1 ≤ 999) ∧ x.2.2.1 + 1 ≤ x.2.2.2 ∧ x.2.2.2 ≤ 1000:=by
 unfold IP
 simp only [Ck,DB]
theorem WD (x:BL):JV x = some (IP x):=by
 unfold JV Bj
 dsimp only
 rw [CT,Aa,CT,Aa]
 cases h1:BK x.1 1 12 with
 | false=>simp [IP,h1]
 | true =>
  cases f:BK x.2.1 1 9 with
  | false=>simp [IP,h1,f]
  | true =>
   rw [if_pos rfl,if_pos rfl]
   have e:IP x = (decide (0 ≤ x.2.2.1) && (decide (x.2.2.1 < x.2.2.2) && decide (x.2.2.2 ≤ 1000))):=by
    unfold IP BK at *
    rw [h1,f,Bool.eq_iff_iff]
    simp
    omega
   rw [e]
   by_cases g:0 ≤ x.2.2.1 <;> by_cases h:x.2.2.1 < x.2.2.2 <;> simp [g,h]
theorem Sl (a b:BL):HV a b = some (decide (FV a b)):=by
 unfold HV Bj FV
 dsimp only
 by_cases h1:a.2.2.1 < b.2.2.1
 ·simp [h1]
 ·by_cases e:a.2.2.1 = b.2.2.1 <;> simp [h1,e]
def Oo (x y:BL):Bool:=!((decide (y.2.1 = x.2.1) || decide (y.1 = x.1)) && decide (x.2.2.1 < y.2.2.2))
def Kk (l:List BL) (k:Nat):Bool:=decide (k = 0) || decide (FV (CN l (k - 1)) (CN l k))
def WR (l:List BL) (k:Nat):Bool:=IP (CN l k) && (Kk l k && (l.take k).all (Oo (CN l k)))
def Fz (l:List BL):Bool:=(List.range l.length).all (WR l) && decide (l.length ≤ 40)
theorem Sc {l:List BL} (hl:l.length < 4611686018427387904) (ho:∀ x ∈ l,L5 x):Jl l = some (Fz l):=by
 unfold Jl Fz
 rw [OA (Dv l) l.length (WR l) (some (decide (l.length ≤ 40))) (some false) hl (fun m k u=>?_) (fun m=>?_)]
 ·cases (List.range l.length).all (WR l) <;> simp
 ·have h:l[k]? = some (CN l k):=by rw [Cb u,FW u]
  have ab:=ho _ (Jb u)
  rw [Dv,if_pos (by simp; omega),AX,h,Aa]
  unfold Bj J0 Jk WR
  dsimp only
  rw [CU,Aa,Aa,CU,Aa,Aa,CU,Aa,A8 (x:=(CN l k).2.2.1 + 1) (by have:=ab.2; omega) (by have:=ab.2; omega),CU,Aa]
  by_cases s:IP (CN l k) = true
  ·have e:=s
   unfold IP at e
   simp only [Ck] at e
   rw [e.1,if_neg (by simp),e.2.1,if_neg (by simp),e.2.2.1,if_neg (by simp),e.2.2.2,if_neg (by simp),s,Bool.true_and]
   have ah:(Option.bind (sl l 0 (k:Int)) fun am=>EM am (CN l k) (Dv l m) (k:Int) FU 0) = if (l.take k).all (Oo (CN l k)) = true then Dv l m ((k + 1:Nat):Int) else some false:=by
    rw [Ll l (by omega),Aa]
    rw [N5 (EM (l.take k) (CN l k) (Dv l m) (k:Int)) (l.take k) (Oo (CN l k)) (Dv l m ((k + 1:Nat):Int)) (some false) (by simp; omega) (fun m' j x hj h=>?_) (fun m'=>?_)]
    ·rw [EM,if_pos (by simp at hj ⊢; omega),AX,h,Aa,AC (by simp at hj; omega)]
     unfold Bj Oo
     dsimp only
     by_cases f:x.2.1 = (CN l k).2.1
     ·rw [if_pos (by simpa using f)]
      by_cases v:(CN l k).2.2.1 < x.2.2.2 <;> simp [f,v]
     ·rw [if_neg (by simpa using f)]
      by_cases g:x.1 = (CN l k).1
      ·rw [if_pos (by simpa using g)]
       by_cases v:(CN l k).2.2.1 < x.2.2.2 <;> simp [f,g,v]
      ·rw [if_neg (by simpa using g)]
       simp [f,g]
    ·rw [EM,if_neg (by simp),AC (by omega)]
   rw [ah]
   by_cases h0:k = 0
   ·subst h0
    rw [if_neg (by simp)]
    simp [Kk]
   ·have ai:l[k - 1]? = some (CN l (k - 1)):=by rw [Cb (by omega),FW (by omega)]
    rw [if_pos (by simp; omega),A8 (by omega) (by omega),show (k:Int) - 1 = ((k - 1:Nat):Int) by omega,AX,ai,Aa,Sl,Aa]
    unfold Kk
    by_cases hb:FV (CN l (k - 1)) (CN l k)
    ·rw [decide_eq_true hb,Bool.or_true,Bool.true_and,if_neg (by simp)]
    ·rw [decide_eq_false hb,decide_eq_false h0]
     simp
  ·have e:IP (CN l k) = false:=by simpa using s
   rw [e,Bool.false_and,if_neg (c:=false = true) (by simp)]
   unfold IP at e
   cases b1:BK (CN l k).1 1 12 with
   | false=>simp
   | true =>
    cases b2:BK (CN l k).2.1 1 9 with
    | false=>simp
    | true =>
     cases b3:BK (CN l k).2.2.1 0 999 with
     | false=>simp
     | true =>
      rw [b1,b2,b3] at e
      simp only [Bool.true_and] at e
      rw [e]
      simp
 ·rw [Dv,if_neg (by simp),show decide ((l.length:Int) ≤ 40) = decide (l.length ≤ 40) by rw [decide_eq_decide]; omega]
theorem Hn {l:List BL}:Fz l = true ↔ l.length ≤ 40 ∧ (∀ x ∈ l,IP x = true) ∧ l.Pairwise FV ∧ ∀ k,k < l.length → (l.take k).all (Oo (CN l k)) = true:=by
 unfold Fz WR
 simp only [Ck,List.all_eq_true,List.mem_range,C9]
 constructor
 ·rintro ⟨h1,g⟩
  refine ⟨g,fun x hx=>?_,?_,fun k e=>?_⟩
  ·obtain ⟨k,e,rfl⟩:=Mj hx
   exact (h1 k e).1
  ·have m:∀ k,k + 1 < l.length → FV (CN l k) (CN l (k + 1)):=fun k e=>by
    have:=(h1 (k + 1) e).2.1
    unfold Kk at this
    simpa using this
   have v:∀ d i,i + d + 1 < l.length → FV (CN l i) (CN l (i + d + 1)):=by
    intro d
    induction d with
    | zero=>intro i f; exact m i f
    | succ d ih =>
     intro i f
     have u:=ih i (by omega)
     have s:=m (i + d + 1) (by omega)
     rw [show i + (d + 1) + 1 = i + d + 1 + 1 by omega]
     unfold FV at *
     omega
   rw [List.pairwise_iff_getElem]
   intro i j f hj ae
   have:=v (j - i - 1) i (by omega)
   rw [show i + (j - i - 1) + 1 = j by omega,FW f,FW hj] at this
   exact this
  ·exact fun y h=>(h1 k e).2.2 y h
 ·rintro ⟨h1,g,u,s⟩
  refine ⟨fun k e=>⟨g _ (Jb e),?_,fun y h=>s k e y h⟩,h1⟩
  unfold Kk
  by_cases h0:k = 0
  ·simp [h0]
  ·have:=(List.pairwise_iff_getElem.1 u) (k - 1) k (by omega) e (by omega)
   rw [← FW (by omega:k - 1 < l.length),← FW e] at this
   simp [this]
def On (x y:BL):Bool:=!((decide (x.2.1 = y.2.1) || decide (x.1 = y.1)) && decide (FB x.2.2.1 y.2.2.1 < Fr x.2.2.2 y.2.2.2))
theorem T9 {x y:BL} (g:IP x = true) (f:IP y = true) (h:FV y x):On x y = Oo x y:=by
 have m:=Ng.1 g
 have l:=Ng.1 f
 have e:decide (FB x.2.2.1 y.2.2.1 < Fr x.2.2.2 y.2.2.2) = decide (x.2.2.1 < y.2.2.2):=by
  rw [decide_eq_decide]
  unfold FB Fr
  unfold FV at h
  split <;> split <;> omega
 unfold On Oo
 rw [e,show decide (x.2.1 = y.2.1) = decide (y.2.1 = x.2.1) by rw [decide_eq_decide]; exact eq_comm,show decide (x.1 = y.1) = decide (y.1 = x.1) by rw [decide_eq_decide]; exact eq_comm]
theorem Aa2 {l:List BL} (h:∀ k,k < l.length → Kk l k = true):l.Pairwise FV:=by
 have f:∀ k,k + 1 < l.length → FV (CN l k) (CN l (k + 1)):=fun k u=>by
  have:=h (k + 1) u
  unfold Kk at this
  simpa using this
 have g:∀ d i,i + d + 1 < l.length → FV (CN l i) (CN l (i + d + 1)):=by
  intro d
  induction d with
  | zero=>intro i e; exact f i e
  | succ d m =>
   intro i e
   have h3:=m i (by omega)
   have h4:=f (i + d + 1) (by omega)
   rw [show i + (d + 1) + 1 = i + d + 1 + 1 by omega]
   unfold FV at *
   omega
 rw [List.pairwise_iff_getElem]
 intro i j e s v
 have:=g (j - i - 1) i (by omega)
 rw [show i + (j - i - 1) + 1 = j by omega,FW e,FW s] at this
 exact this
theorem XE {l:List BL} (h:l.Pairwise FV) {k:Nat} (e:k < l.length) {y:BL} (f:y ∈ l.take k):FV y (CN l k):=by
 obtain ⟨i,g,rfl⟩:=List.mem_take_iff_getElem.1 f
 rw [FW e]
 exact (List.pairwise_iff_getElem.1 h) i k (by omega) e (by omega)
theorem OB {l:List BL} (hl:l.length < 4611686018427387904) (ho:∀ x ∈ l,L5 x):FZ l = some (Fz l):=by
 unfold FZ
 by_cases ag:l.length ≤ 40
 ·rw [if_neg (by simp; omega)]
  rw [N5 (Ej l) l IP (CE l FU 0) (some false) hl (fun m k x hx e=>?_) (fun m=>?_)]
  ·cases ha:l.all IP with
   | false =>
    rw [if_neg (by simp)]
    have:Fz l = false:=by
     rw [← Bool.not_eq_true]
     intro h
     rw [List.all_eq_true.2 (Hn.1 h).2.1] at ha
     cases ha
    rw [this]
   | true =>
    have g:=List.all_eq_true.1 ha
    rw [if_pos rfl]
    rw [OA (CE l) l.length (fun k=>Kk l k && (l.take k).all (On (CN l k))) (some true) (some false) hl (fun m k e=>?_) (fun m=>?_)]
    ·have:(List.range l.length).all (fun k=>Kk l k && (l.take k).all (On (CN l k))) = Fz l:=by
      rw [Bool.eq_iff_iff,Hn]
      simp only [List.all_eq_true,List.mem_range,Ck]
      constructor
      ·intro h
       have v:=Aa2 fun k e=>(h k e).1
       refine ⟨ag,g,v,fun k e y f=>?_⟩
       rw [← T9 (g _ (Jb e)) (g y (List.mem_of_mem_take f)) (XE v e f)]
       exact (h k e).2 y f
      ·rintro ⟨_,_,v,h⟩ k e
       refine ⟨?_,fun y f=>?_⟩
       ·unfold Kk
        by_cases h0:k = 0
        ·simp [h0]
        ·have:=(List.pairwise_iff_getElem.1 v) (k - 1) k (by omega) e (by omega)
         rw [← FW (by omega:k - 1 < l.length),← FW e] at this
         simp [this]
       ·rw [T9 (g _ (Jb e)) (g y (List.mem_of_mem_take f)) (XE v e f)]
        exact h k e y f
     rw [this]
     cases Fz l <;> rfl
    ·have hx:l[k]? = some (CN l k):=by rw [Cb e,FW e]
     rw [CE,if_pos (by simp; omega),AX,hx,Aa]
     unfold Bj
     dsimp only
     have an:(Option.bind (sl l 0 (k:Int)) fun al=>D6 al (CN l k) (CE l m) (k:Int) FU 0) = if (l.take k).all (On (CN l k)) = true then CE l m ((k + 1:Nat):Int) else some false:=by
      rw [Ll l (by omega),Aa]
      rw [N5 (D6 (l.take k) (CN l k) (CE l m) (k:Int)) (l.take k) (On (CN l k)) (CE l m ((k + 1:Nat):Int)) (some false) (by simp; omega) (fun m' j x hj hx=>?_) (fun m'=>?_)]
      ·rw [D6,if_pos (by simp at hj ⊢; omega),AX,hx,Aa,AC (by simp at hj; omega)]
       unfold Bj On
       dsimp only
       by_cases s:(CN l k).2.1 = x.2.1
       ·rw [if_pos (by simpa using s)]
        by_cases a3:FB (CN l k).2.2.1 x.2.2.1 < Fr (CN l k).2.2.2 x.2.2.2 <;> simp [s,a3]
       ·rw [if_neg (by simpa using s)]
        by_cases a2:(CN l k).1 = x.1
        ·rw [if_pos (by simpa using a2)]
         by_cases a3:FB (CN l k).2.2.1 x.2.2.1 < Fr (CN l k).2.2.2 x.2.2.2 <;> simp [s,a2,a3]
        ·rw [if_neg (by simpa using a2)]
         simp [s,a2]
      ·rw [D6,if_neg (by simp),AC (by omega)]
     rw [an]
     by_cases h0:k = 0
     ·subst h0
      rw [if_neg (by simp)]
      simp [Kk]
     ·have ao:l[k - 1]? = some (CN l (k - 1)):=by rw [Cb (by omega),FW (by omega)]
      obtain ⟨u,hu,_,aq⟩:=Rg (ho _ (Jb (Y:=l) (k:=k - 1) (by omega))) (ho _ (Jb e))
      rw [if_pos (by simp; omega),A8 (by omega) (by omega),show (k:Int) - 1 = ((k - 1:Nat):Int) by omega,AX,ao,Aa,hu,Aa,aq]
      unfold Kk
      by_cases hb:FV (CN l (k - 1)) (CN l k)
      ·rw [decide_eq_true hb,Bool.or_true,Bool.true_and,if_neg (by simp)]
      ·rw [decide_eq_false hb,decide_eq_false h0]
       simp
    ·rw [CE,if_neg (by simp)]
  ·rw [Ej,if_pos (by simp; have:=(List.getElem?_eq_some_iff.1 e).1; omega),AX,e,Aa,WD,Aa,AC (by have:=(List.getElem?_eq_some_iff.1 e).1; omega)]
   cases IP x <;> simp
  ·rw [Ej,if_neg (by simp)]
 ·rw [if_pos (by simp; omega)]
  have:Fz l = false:=by
   rw [← Bool.not_eq_true]
   intro h
   exact ag (Hn.1 h).1
  rw [this]
theorem Ad4 {l:List BL} {x:BL} {K:List BL → Af (List BL × Bool)} (hl:l.length < 100000) (hs:Gc l):∀ (k m:Nat),k ≤ l.length → k < m → (∀ s ∈ l.drop k,FV x s) →
  ∃ Z,Z.Perm (x :: l) ∧ Gc Z ∧ FJ l x K m (k:Int) = K Z:=by
 intro k
 have ac:∀ (k:Nat),k ≤ l.length → (∀ s ∈ l.drop k,FV x s) → (k = 0 ∨ ¬ FV x (CN l (k - 1))) → (Option.bind (sl l 0 (k:Int)) fun ai=>Option.bind (sl l (k:Int) (List.length l:Int)) fun am=>Option.bind (Cg [] ai) fun ak=>Option.bind (Cg ak [x]) fun an=>Option.bind (Cg an am) fun ag=>K ag) = K (l.take k ++ x :: l.drop k) ∧ Gc (l.take k ++ x :: l.drop k) ∧ (l.take k ++ x :: l.drop k).Perm (x :: l):=by
  intro k e h1 h2
  refine ⟨?_,?_,?_⟩
  ·rw [Ll l e,Aa,QO l e,Aa,Bm (by simp; omega),Aa,Bm (by simp; omega),Aa,Bm (by simp; omega),Aa]
   simp
  ·refine Pr (by rw [List.take_append_drop]; exact hs) (fun s h=>LY (h1 s h)) ?_
   rcases h2 with h | h
   ·left; rw [h,List.take_zero]
   ·refine Ue fun y hy=>?_
    obtain ⟨i,hi,rfl⟩:=List.mem_take_iff_getElem.1 hy
    have h3:=Mp hs (i:=i) (j:=k - 1) (by omega) (by omega)
    rw [FW (by omega)] at h3
    exact LX h3 h
  ·have:(l.take k ++ x :: l.drop k).Perm (x :: (l.take k ++ l.drop k)):=List.perm_middle
   rwa [List.take_append_drop] at this
 induction k with
 | zero =>
  intro m e hm h1
  cases m with
  | zero=>omega
  | succ m =>
   obtain ⟨v,u,f3⟩:=ac 0 e h1 (.inl rfl)
   refine ⟨_,f3,u,?_⟩
   rw [FJ]
   unfold Bj
   dsimp only
   rw [if_neg (by simp),if_neg (by simp)]
   exact v
 | succ k ih =>
  intro m e hm h1
  cases m with
  | zero=>omega
  | succ m =>
   have g:k < l.length:=by omega
   have hx:l[k]? = some (CN l k):=by rw [Cb g,FW g]
   have ek:Ag (((k + 1:Nat):Int) - 1) = (k:Int):=by rw [A8 (by omega) (by omega)]; omega
   rw [FJ]
   unfold Bj
   dsimp only
   rw [if_pos (by simp <;> omega),ek,AX,hx,Aa,Sl,Aa]
   by_cases f:FV x (CN l k)
   ·rw [if_pos (by simpa using f)]
    refine ih m (by omega) (by omega) (fun s h=>?_)
    rw [List.drop_eq_getElem_cons g] at h
    rcases List.mem_cons.1 h with rfl | h
    ·rw [← FW g]; exact f
    ·exact h1 s h
   ·obtain ⟨v,u,f3⟩:=ac (k + 1) e h1 (.inr (by simpa using f))
    refine ⟨_,f3,u,?_⟩
    rw [if_neg (by simpa using f)]
    exact v
theorem Z7 {l:List BL} (hl:l.length < 50000) (ho:∀ x ∈ l,L5 x):∃ Z,Z.Perm l ∧ Gc Z ∧ Jj l = some (if Fz Z = true then (Z,true) else ([],false)):=by
 unfold Jj
 have ac:∀ (d k m:Nat) (S:List BL),l.length - k = d → k ≤ l.length → d < m → S.Perm (l.take k) → Gc S → ∃ Z,Z.Perm l ∧ Gc Z ∧ EL l m S (k:Int) = some (if Fz Z = true then (Z,true) else ([],false)):=by
  intro d
  induction d with
  | zero =>
   intro k m S hd hk hm e f
   have:k = l.length:=by omega
   subst this
   rw [List.take_length] at e
   cases m with
   | zero=>omega
   | succ m =>
    refine ⟨S,e,f,?_⟩
    rw [EL,if_neg (by simp),Sc (by have:=e.length_eq; omega) (fun x v=>ho x (e.mem_iff.1 v)),Aa]
    cases Fz S <;> rfl
  | succ d ih =>
   intro k m S hd hk hm e f
   have g:k < l.length:=by omega
   have an:S.length = k:=by rw [e.length_eq]; simp; omega
   cases m with
   | zero=>omega
   | succ m =>
    obtain ⟨Z,z1,u,z3⟩:=Ad4 (l:=S) (x:=l[k]) (K:=fun am=>EL l m am (Ag ((k:Int) + 1))) (by omega) f S.length FU (Nat.le_refl _) (D1 (by omega)) (fun s h=>by rw [List.drop_length] at h; cases h)
    rw [EL,if_pos (by simp; omega)]
    unfold Bj
    dsimp only
    rw [Js g,Aa]
    obtain ⟨W,w1,w2,w3⟩:=ih (k + 1) m Z (by omega) (by omega) (by omega) (by
     rw [List.take_succ_eq_append_getElem g]
     exact z1.trans ((List.Perm.cons _ e).trans (List.perm_append_singleton _ _).symm)) u
    refine ⟨W,w1,w2,?_⟩
    rw [z3,AC (by omega)]
    exact w3
 exact ac l.length 0 FU [] rfl (by omega) (D1 (by omega)) (by simp) List.Pairwise.nil
theorem Sv:∀ {Z W:List BL},Z.Perm W → Z.Pairwise FV → Gc W → Z = W
 | [],W,h,_,_=>(List.Perm.nil_eq h)
 | a :: Z,[],h,_,_=>by have:=h.length_eq; simp at this
 | a :: Z,b :: W,h,h1,h2=>by
  have e:a = b:=by
   have g:a ∈ b :: W:=h.mem_iff.1 (List.mem_cons_self ..)
   have f:b ∈ a :: Z:=h.mem_iff.2 (List.mem_cons_self ..)
   rcases List.mem_cons.1 g with e | g
   ·exact e
   ·rcases List.mem_cons.1 f with e | f
    ·exact e.symm
    ·have m:=(List.pairwise_cons.1 h1).1 b f
     have l:=(List.pairwise_cons.1 h2).1 a g
     exact absurd m l
  subst e
  rw [Sv (List.Perm.cons_inv h) (List.pairwise_cons.1 h1).2 (List.pairwise_cons.1 h2).2]
theorem Aav {Z W:List BL} (h:Z.Perm W) (h1:Gc Z) (g:Gc W):(if Fz Z = true then (Z,true) else ([],false)) = (if Fz W = true then (W,true) else (([]:List BL),false)):=by
 by_cases f:Fz Z = true
 ·rw [Sv h (Hn.1 f).2.2.1 g]
 ·by_cases e:Fz W = true
  ·exact absurd (by rw [← Sv h.symm (Hn.1 e).2.2.1 h1]; exact e) f
  ·rw [if_neg f,if_neg e]
theorem Yz {l:List BL} (hl:l.length ≤ 40) (f:∀ x ∈ l,L5 x):∃ Z,Z.Perm l ∧ B7 l = some Z ∧ FZ Z = some (Fz Z) ∧ Jj l = some (if Fz Z = true then (Z,true) else ([],false)):=by
 obtain ⟨Z,e,g,u⟩:=YD hl f
 obtain ⟨W,h,s,v⟩:=Z7 (by omega) f
 refine ⟨Z,e,u,OB (by rw [e.length_eq]; omega) (fun x m=>f x (e.mem_iff.1 m)),?_⟩
 rw [v,Aav (h.trans e.symm) s g]
def TQ:Int:=4611686018427387904
theorem Acz (c d:Nat):(c:Int) * ((d + 1:Nat):Int) = (c:Int) * (d:Int) + (c:Int):=by
 rw [Int.natCast_add,Int.mul_add]
 simp
theorem Ad1 {α:Type} {S:α → Prop} (f:Nat → List α → Int → Int → Af (Int × List α)) (h:List α → Nat → Int → Int → Af Int) (c:Nat) (l:List α)
  (hs:∀ (m j:Nat) (s:List α) (k:Int) (u:α),s.length = l.length → j < l.length → s[j]? = some u → S u → 0 ≤ k → k + c ≤ TQ → ∃ (k1:Int) (u':α),k ≤ k1 ∧ k1 ≤ k + c ∧ f (m + 1) s k (j:Int) = f m (s.set j u') k1 ((j + 1:Nat):Int) ∧
   ∀ (v:Nat) (g:List α),g.length = l.length → g[j]? = some u' → h g (v + 1) k (j:Int) = h g v k1 ((j + 1:Nat):Int))
  (he:∀ m s k,s.length = l.length → f (m + 1) s k (l.length:Int) = some (k,s)) (hh:∀ g m k,g.length = l.length → h g (m + 1) k (l.length:Int) = some k)
  (hl:l.length < 4611686018427387904) (hS:∀ u ∈ l,S u) (k:Int) (h0:0 ≤ k) (hb:k + c * l.length ≤ TQ) :
  ∃ k' g,f FU l k 0 = some (k',g) ∧ k ≤ k' ∧ k' ≤ k + c * l.length ∧ g.length = l.length ∧ h g FU k 0 = some k':=by
 have aq:∀ (d j m:Nat) (s:List α) (k:Int),l.length - j = d → j ≤ l.length → d < m → s.length = l.length → (∀ i,j ≤ i → s[i]? = l[i]?) → 0 ≤ k → k + (c:Int) * (d:Int) ≤ TQ →
   ∃ k' g,f m s k (j:Int) = some (k',g) ∧ k ≤ k' ∧ k' ≤ k + (c:Int) * (d:Int) ∧ g.length = l.length ∧ (∀ i,i < j → g[i]? = s[i]?) ∧ ∀ v,d < v → h g v k (j:Int) = some k':=by
  intro d
  induction d with
  | zero =>
   intro j m s k hd hj hm hc hr h0 hb
   have:j = l.length:=by omega
   subst this
   cases m with
   | zero=>omega
   | succ m =>
    refine ⟨k,s,he m s k hc,by omega,by simp,hc,fun i _=>rfl,fun v ay=>?_⟩
    cases v with
    | zero=>omega
    | succ v=>exact hh s v k hc
  | succ d ih =>
   intro j m s k hd hj hm hc hr h0 hb
   rw [Acz] at hb
   have a9:0 ≤ (c:Int) * (d:Int):=Int.mul_nonneg (by omega) (by omega)
   cases m with
   | zero=>omega
   | succ m =>
    have ah:j < l.length:=by omega
    have hu:s[j]? = some l[j]:=by rw [hr j (Nat.le_refl _)]; exact Cb ah
    obtain ⟨k1,u',a1,a2,a3,a4⟩:=hs m j s k l[j] hc ah hu (hS _ (List.getElem_mem ah)) h0 (by omega)
    obtain ⟨k',g,b1,b2,b3,b4,b5,b6⟩:=ih (j + 1) m (s.set j u') k1 (by omega) (by omega) (by omega) (by simpa using hc) (fun i hi=>by rw [List.getElem?_set_ne (by omega)]; exact hr i (by omega)) (by omega) (by omega)
    refine ⟨k',g,a3.trans b1,by omega,by rw [Acz]; omega,b4,fun i hi=>?_,fun v ay=>?_⟩
    ·rw [b5 i (by omega),List.getElem?_set_ne (by omega)]
    ·cases v with
     | zero=>omega
     | succ v =>
      have e:g[j]? = some u':=by rw [b5 j (by omega),List.getElem?_set_self (by omega)]
      rw [a4 v g b4 e]
      exact b6 v (by omega)
 obtain ⟨k',g,b1,b2,b3,b4,_,b6⟩:=aq l.length 0 FU l k (by omega) (by omega) (D1 (by omega)) rfl (fun _ _=>rfl) h0 hb
 exact ⟨k',g,b1,b2,b3,b4,b6 FU (D1 (by omega))⟩
end Go.Proofs.YtellehgihceicaaGreatDoor
