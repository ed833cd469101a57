/-
 REPAIRS, PLAIN: both sides tell the same kind.
-/
import Derived.Test.YtellehgihceicaaGreatDoorCore20
import Derived.Test.YtellehgihceicaaGreatDoorF
import Derived.Test.YtellehgihceicaaGreatDoorLibF
import Derived.Lib.Mul64
set_option linter.unusedVariables false
set_option linter.unusedSimpArgs false
set_option maxHeartbeats 1600000
namespace Go.Proofs.YtellehgihceicaaGreatDoor
open Go
theorem A6 {x:Int} (h1:-9223372036854775808 ≤ x) (e:x ≤ 9223372036854775807):Af x = x:=by
 unfold Af IntKind.wrap
 simp only [IntKind.bits,IntKind.signed]
 simp only [ge_iff_le,Bool.true_and,C9]
 split <;> omega
theorem AD {k:Nat} (h:k < 4611686018427387904):Af ((k:Int) + 1) = ((k + 1:Nat):Int):=by
 rw [A6 (by omega) (by omega)]; omega
theorem AY {α:Type} (l:List α) (k:Nat):AM l (k:Int) = l[k]?:=by unfold AM; simp
theorem Sq {α:Type} (l:List α):AM l 0 = l[0]?:=by unfold AM; simp
theorem It {α:Type} {l:List α} {i:Int} (e:0 ≤ i):AM l i = l[i.toNat]?:=by unfold AM; rw [if_pos e]
theorem DH {n:Nat} (h:n < 4611686018427387904):n < FU:=h
theorem LM {α:Type} (l:List α) {k:Nat} (h:k ≤ l.length):sl l 0 (k:Int) = some (l.take k):=by
 unfold sl
 rw [if_pos (by omega)]
 simp
theorem O0 {R:Type} (f:Nat → Int → Ag R) (n:Nat) (p:Nat → Bool) (rest e:Ag R) (hn:n < 4611686018427387904)
  (v:∀ m k,k < n → f (m + 1) (k:Int) = if p k = true then f m ((k + 1:Nat):Int) else e) (u:∀ m,f (m + 1) (n:Int) = rest):f FU 0 = if (List.range n).all p = true then rest else e:=by
 have h:∀ d k m,n - k = d → k ≤ n → n - k < m → f m (k:Int) = if (List.range' k (n - k)).all p = true then rest else e:=by
  intro d
  induction d with
  | zero =>
   intro k m g s l
   have:k = n:=by omega
   subst this
   cases m with
   | zero=>omega
   | succ m=>simp [u]
  | succ d ih =>
   intro k m g s l
   cases m with
   | zero=>omega
   | succ m =>
    rw [v m k (by omega),g,List.range'_succ,List.all_cons]
    cases hp:p k with
    | false=>simp
    | true =>
     simp only [if_true,Bool.true_and]
     rw [ih (k + 1) m (by omega) (by omega) (by omega),show n - (k + 1) = d by omega]
 have:=h n 0 FU (by omega) (by omega) (DH (by omega))
 simpa [List.range_eq_range'] using this
theorem YD {α:Type} (l:List α) (p:Nat → Bool) (q:α → Bool) (h:∀ k x,l[k]? = some x → p k = q x):(List.range l.length).all p = l.all q:=by
 rw [Bool.eq_iff_iff,List.all_eq_true,List.all_eq_true]
 constructor
 ·intro h1 x g
  obtain ⟨k,e⟩:=List.getElem?_of_mem g
  rw [← h k x e]
  exact h1 k (List.mem_range.2 (List.getElem?_eq_some_iff.1 e).1)
 ·intro h1 k e
  have f:=List.mem_range.1 e
  rw [h k l[k] (by simp [f])]
  exact h1 _ (List.getElem_mem f)
theorem O1 {α R:Type} (f:Nat → Int → Ag R) (l:List α) (q:α → Bool) (rest g:Ag R) (s:l.length < 4611686018427387904)
  (v:∀ m k x,k < l.length → l[k]? = some x → f (m + 1) (k:Int) = if q x = true then f m ((k + 1:Nat):Int) else g) (u:∀ m,f (m + 1) (l.length:Int) = rest):f FU 0 = if l.all q = true then rest else g:=by
 rw [O0 f l.length (fun k=>match l[k]? with | some x=>q x | none=>true) rest g s (fun m k h=>?_) u,YD l _ q (fun k x e=>by simp [e])]
 have e:l[k]? = some l[k]:=by simp [h]
 rw [v m k l[k] h e]
 simp [e]
def Szd (o:Ag Int) (n:Int) (Q:Prop):Prop:=∃ r,o = some r ∧ (r < 0 ∨ (0 ≤ r ∧ r ≤ n ∧ Q))
theorem Jl {α:Type} {l:List α} {k:Nat} (h:k < l.length):AM l (k:Int) = some l[k]:=by rw [AY]; simp [h]
theorem JV {α:Type} (l:List α) (k:Nat) (x:α):BF l (k:Int) x = l.set k x:=by unfold BF; simp
theorem Szd.imp {o:Ag Int} {n:Int} {Q R:Prop} (h:Szd o n Q) (e:Q → R):Szd o n R:=by
 obtain ⟨r,h1,f⟩:=h
 exact ⟨r,h1,f.imp id fun h=>⟨h.1,h.2.1,e h.2.2⟩⟩
theorem N7 {α:Type} {n:Nat} (h:n ≤ 1073741824) (z:α):RR (n:Int) z = some (List.replicate n z):=by
 unfold RR
 rw [if_pos (by omega)]
 simp
theorem Wo {α S R:Type} (f:Nat → S → Int → Ag R) (l:List α) (h:S → α → S) (rest:S → Ag R) (hn:l.length < 4611686018427387904)
  (hs:∀ m s k x,k < l.length → l[k]? = some x → f (m + 1) s (k:Int) = f m (h s x) ((k + 1:Nat):Int)) (he:∀ m s,f (m + 1) s (l.length:Int) = rest s) (e:S):f FU e 0 = rest (l.foldl h e):=by
 have u:∀ d k m s,l.length - k = d → k ≤ l.length → l.length - k < m → f m s (k:Int) = rest ((l.drop k).foldl h s):=by
  intro d
  induction d with
  | zero =>
   intro k m s hd hk v
   have:k = l.length:=by omega
   subst this
   cases m with
   | zero=>omega
   | succ m=>rw [he]; simp
  | succ d ih =>
   intro k m s hd hk v
   cases m with
   | zero=>omega
   | succ m =>
    have g:k < l.length:=by omega
    rw [hs m s k l[k] g (by simp [g]),ih (k + 1) m _ (by omega) (by omega) (by omega),List.drop_eq_getElem_cons g,List.foldl_cons]
 have:=u _ 0 FU e rfl (by omega) (DH (by omega))
 simpa using this
theorem Tj {α:Type} (l:List α) {k:Nat} (h:k ≤ l.length):sl l 0 (k:Int) = some (l.take k):=LM l h
theorem Bt {α:Type} {l m:List α} (h:l.length + m.length ≤ 1073741824):Cl l m = some (l ++ m):=by
 unfold Cl
 rw [if_pos h]
def PK (l:List Aj):Nat:=l.count 10
theorem ten:(10:Int).toNat.toUInt8 = 10:=by decide
def Hu (l:List Aj):Bool:=decide (l.length ≤ 2000) && (decide (l = []) || decide (l.getLast? = some 10)) && decide (PK l ≤ 40)
theorem TO {l:List Aj} (h:l ≠ []):∃ b,AM l ((l.length:Int) - 1) = some b ∧ l.getLast? = some b ∧ l = l.take (l.length - 1) ++ [b]:=by
 have f:0 < l.length:=List.length_pos_iff.2 h
 have e:l.length - 1 < l.length:=by omega
 refine ⟨l[l.length - 1],?_,?_,?_⟩
 ·rw [show (l.length:Int) - 1 = ((l.length - 1:Nat):Int) by omega,Jl e]
 ·rw [List.getLast?_eq_getElem?,Cp e]
 ·conv=>lhs; rw [← List.take_append_drop (l.length - 1) l]
  rw [List.drop_eq_getElem_cons e,List.drop_eq_nil_of_le (by omega)]
def Hq (b:Aj):Bool:=decide (48 ≤ b.toNat) && decide (b.toNat ≤ 57)
def OO (l:List Aj):Int:=l.foldl (fun a b=>10 * a + ((b.toNat:Int) - 48)) 0
theorem RW {d:Nat} (h:d < 10):(UInt8.ofNat (48 + d)).toNat = 48 + d:=by
 rw [UInt8.toNat_ofNat']
 omega
theorem QR {u:Nat} (h:u < 10):Lib.decDigits u = [UInt8.ofNat (48 + u)]:=Lib.decDigits_one h
theorem X7 {u:Nat} (h:¬ u < 10):Lib.decDigits u = Lib.decDigits (u / 10) ++ [UInt8.ofNat (48 + u % 10)]:=by
 rw [Lib.decDigits,dif_neg h]
theorem UZ:∀ (k u:Nat),u < 10 ^ (k + 1) → (∀ b ∈ Lib.decDigits u,Hq b = true) ∧ OO (Lib.decDigits u) = u ∧ 1 ≤ (Lib.decDigits u).length ∧ (Lib.decDigits u).length ≤ k + 1 ∧
  (0 < u → ∀ b,(Lib.decDigits u)[0]? = some b → b.toNat ≠ 48):=by
 intro k
 induction k with
 | zero =>
  intro u m
  have h:u < 10:=by simpa using m
  rw [QR h]
  have:=RW h
  refine ⟨fun b e=>?_,?_,by simp,by simp,fun h0 b e=>?_⟩
  ·rw [List.mem_singleton.1 e]
   unfold Hq
   rw [this]
   simp
   omega
  ·unfold OO
   simp only [List.foldl_cons,List.foldl_nil,this]
   omega
  ·rw [List.getElem?_cons_zero,Option.some.injEq] at e
   rw [← e,this]
   omega
 | succ k v =>
  intro u m
  by_cases h:u < 10
  ·obtain ⟨l,f,s,a4,g⟩:=v u (Nat.lt_of_lt_of_le h (by rw [Nat.pow_succ]; have:=Nat.pow_pos (n:=k) (show 0 < 10 by omega); omega))
   exact ⟨l,f,s,by omega,g⟩
  ·have hd:u / 10 < 10 ^ (k + 1):=by rw [Nat.pow_succ] at m; omega
   obtain ⟨l,f,s,a4,g⟩:=v (u / 10) hd
   have hm:u % 10 < 10:=by omega
   have:=RW hm
   rw [X7 h]
   refine ⟨fun b e=>?_,?_,by simp,by simp; omega,fun h0 b e=>?_⟩
   ·rcases AX.1 e with e | e
    ·exact l b e
    ·rw [List.mem_singleton.1 e]
     unfold Hq
     rw [this]
     simp
     omega
   ·unfold OO at f ⊢
    rw [List.foldl_append,List.foldl_cons,List.foldl_nil,f,this]
    omega
   ·rw [List.getElem?_append_left (by omega)] at e
    exact g (by omega) b e
theorem YR:∀ (l:List Aj) (a:Int),(∀ b ∈ l,Hq b = true) → 0 ≤ a → 0 ≤ l.foldl (fun a b=>10 * a + ((b.toNat:Int) - 48)) a ∧ l.foldl (fun a b=>10 * a + ((b.toNat:Int) - 48)) a < (a + 1) * 10 ^ l.length
 | [],a,_,h=>by simp; omega
 | b :: l,a,hd,h=>by
  have e:=hd b (by simp)
  unfold Hq at e
  simp only [Cf,C9] at e
  obtain ⟨h1,f⟩:=YR l (10 * a + ((b.toNat:Int) - 48)) (fun c m=>hd c (by simp [m])) (by omega)
  rw [List.foldl_cons,List.length_cons,Int.pow_succ]
  refine ⟨h1,Int.lt_of_lt_of_le f ?_⟩
  have g:(0:Int) ≤ 10 ^ l.length:=Int.le_of_lt (Int.pow_pos (by omega))
  have s:(10 * a + ((b.toNat:Int) - 48) + 1) * 10 ^ l.length ≤ ((a + 1) * 10) * 10 ^ l.length:=Int.mul_le_mul_of_nonneg_right (by omega) g
  have u:(a + 1) * (10 ^ l.length * 10) = ((a + 1) * 10) * 10 ^ l.length:=by rw [Int.mul_comm (10 ^ l.length) 10,Int.mul_assoc]
  omega
def CZ (c:Aj):List Aj → List (List Aj)
 | []=>[[]]
 | b :: l=>if b = c then [] :: CZ c l else match CZ c l with
  | []=>[[b]]
  | h :: t=>(b :: h) :: t
theorem OE {c:Aj}:∀ {l:List Aj},c ∉ l → CZ c l = [l]
 | [],_=>rfl
 | b :: l,h=>by
  rw [List.mem_cons,not_or] at h
  rw [CZ,if_neg (fun e=>h.1 e.symm),OE h.2]
theorem OG {c:Aj}:∀ {A B:List Aj},c ∉ A → CZ c (A ++ c :: B) = A :: CZ c B
 | [],B,_=>by rw [List.nil_append,CZ,if_pos rfl]
 | b :: A,B,h=>by
  rw [List.mem_cons,not_or] at h
  rw [List.cons_append,CZ,if_neg (fun e=>h.1 e.symm),OG h.2]
theorem Jh (c:Aj):∀ l:List Aj,(CZ c l).length = l.count c + 1
 | []=>rfl
 | b :: l=>by
  have e:=Jh c l
  rw [CZ]
  by_cases h:b = c
  ·rw [if_pos h,List.length_cons,e,List.count_cons,if_pos (by simp [h])]
  ·rw [if_neg h,List.count_cons,if_neg (by simpa using h)]
   cases f:CZ c l with
   | nil=>rw [f] at e; simp at e
   | cons a t=>rw [f] at e; simpa using e
theorem Y6 {α:Type} (l:List α) {k:Nat} (h:k ≤ l.length):sl l 0 (k:Int) = some (l.take k):=LM l h
theorem SU {α:Type} (l:List α) {k:Nat} (h:k ≤ l.length):sl l (k:Int) (List.length l:Int) = some (l.drop k):=by
 unfold sl
 rw [if_pos (by omega)]
 simp
theorem Y7 (c:Aj):(UInt8.toNat c:Int).toNat.toUInt8 = c:=by
 rw [Int.toNat_natCast]
 exact UInt8.ofNat_toNat
theorem MP {b c:Aj} (h:b ≠ c):((b.toNat:Nat):Int) ≠ (c.toNat:Int):=fun e=>h (UInt8.toNat_inj.1 (by omega))
theorem Aao (l:List Aj) (c:Aj):(PN l (c.toNat:Int) = -1 ∧ c ∉ l) ∨ ∃ A B,l = A ++ c :: B ∧ c ∉ A ∧ PN l (c.toNat:Int) = (A.length:Int):=by
 unfold PN
 rw [Y7]
 cases h:(List.range l.length).find? (fun i=>l[i]? == some c) with
 | none =>
  left
  refine ⟨rfl,fun g=>?_⟩
  obtain ⟨k,f,e⟩:=List.getElem_of_mem g
  have:=List.find?_eq_none.1 h k (List.mem_range.2 f)
  rw [Cp f,e] at this
  simp at this
 | some i =>
  right
  have m:=List.find?_some h
  have u:i < l.length:=List.mem_range.1 (List.mem_of_find?_eq_some h)
  have he:l[i] = c:=by
   rw [Cp u] at m
   simpa using m
  have ad:c ∉ l.take i:=by
   intro g
   obtain ⟨k,f,e⟩:=List.getElem_of_mem g
   rw [List.getElem_take] at e
   have ab:k < i:=by simp at f; omega
   have v:k < l.length:=by omega
   have s:=(List.find?_range_eq_some.1 h).2.2 k ab
   rw [Cp v,e] at s
   simp at s
  have hl:l = l.take i ++ c :: l.drop (i + 1):=by
   conv=>rhs; rw [← he]
   rw [List.getElem_cons_drop,List.take_append_drop]
  exact ⟨l.take i,l.drop (i + 1),hl,ad,by simp; omega⟩
theorem W4 {c:Aj}:∀ {A A' B B':List Aj},c ∉ A → c ∉ A' → A ++ c :: B = A' ++ c :: B' → A = A' ∧ B = B'
 | [],[],B,B',_,_,e=>by simpa using e
 | [],a :: A',B,B',_,h,e=>by
  rw [List.nil_append,List.cons_append,List.cons.injEq] at e
  exact absurd (by rw [e.1]; simp) h
 | a :: A,[],B,B',h,_,e=>by
  rw [List.nil_append,List.cons_append,List.cons.injEq] at e
  exact absurd (by rw [e.1]; simp) h
 | a :: A,a' :: A',B,B',h,h',e=>by
  rw [List.cons_append,List.cons_append,List.cons.injEq] at e
  rw [List.mem_cons,not_or] at h h'
  obtain ⟨f,g⟩:=W4 h.2 h'.2 e.2
  exact ⟨by rw [e.1,f],g⟩
theorem Z5 {A B:List Aj} {c:Aj} (h:c ∉ A):PN (A ++ c :: B) (c.toNat:Int) = (A.length:Int):=by
 rcases Aao (A ++ c :: B) c with ⟨_,g⟩ | ⟨A',B',e,f,l⟩
 ·exact absurd (by simp) g
 ·rw [l,(W4 h f e).1]
theorem Aa5 (l:List Aj) (c:Aj):HP l [c] = some (PN l (c.toNat:Int)):=by
 unfold HP IJ Hm Bk
 dsimp only
 by_cases h:l = [c]
 ·subst h
  have:=Z5 (A:=[]) (B:=[]) (c:=c) (by simp)
  rw [List.nil_append] at this
  rw [this]
  simp
 ·have f:([c] == l) = false:=by
   rw [beq_eq_false_iff_ne]
   exact fun e=>h e.symm
  rw [if_neg (by simp),f,if_neg (by simp),if_pos (by simp)]
  rfl
theorem Aa6 (l:List Aj) (c:Aj):Jo l [c] = some ((l.count c:Nat):Int):=by
 unfold Jo
 rw [if_neg (by simp),if_pos (by simp)]
 show some (Yb l (UInt8.toNat c:Int)) = _
 unfold Yb
 rw [Y7]
theorem Aan {α:Type} (L:List α) (i:Nat) (x:α) (h:i < L.length):(BF L (i:Int) x).take (i + 1) = L.take i ++ [x]:=by
 unfold BF
 rw [Int.toNat_natCast,List.take_add_one,List.getElem?_set_self h,List.take_set_of_le (Nat.le_refl _)]
 rfl
theorem Xr (l:List Aj) (c:Aj) (hl:l.length ≤ 4194304):FZ l [c] = some (CZ c l):=by
 have hc:l.count c ≤ l.length:=List.count_le_length
 unfold FZ Jn Bk Wt
 dsimp only
 have h:Fn ((l.count c:Int) + 1) ((l.length:Int) + 1) = ((l.count c + 1:Nat):Int):=by
  unfold Fn
  split <;> omega
 rw [if_neg (by simp),if_neg (by simp),if_pos (by simp),Aa6,Aa,A6 (x:=((l.count c:Nat):Int) + 1) (by omega) (by omega),A6 (x:=(List.length l:Int) + 1) (by omega) (by omega),h,N7 (by omega),Aa]
 have aj:∀ (d i m:Nat) (y:List Aj) (L:List (List Aj)),l.count c - i = d → i ≤ l.count c → d < m → y.count c = d → L.length = l.count c + 1 → y.length ≤ 4194304 →
   DK ((l.count c:Int) + 1) l [c] (fun ak v g=>Option.bind (AM v g) fun aq=>Option.bind (sl (BF v g ak) 0 (Af (g + 1))) fun an=>some an) 0 m y L (i:Int) = some (L.take i ++ CZ c y):=by
  intro d
  induction d with
  | zero =>
   intro i m y L hd hi hm f u ad
   have:i = l.count c:=by omega
   subst this
   cases m with
   | zero=>omega
   | succ m =>
    rw [DK,A6 (x:=(List.length l:Int) + 1) (by omega) (by omega),h,A6 (x:=((l.count c + 1:Nat):Int) - 1) (by omega) (by omega),if_neg (by simp <;> omega),Jl (by omega),Aa,AD (by omega),Y6 _ (by simp [BF]; omega),Aa,Aan _ _ _ (by omega),OE (List.count_eq_zero.1 f)]
  | succ d ih =>
   intro i m y L hd hi hm f u ad
   cases m with
   | zero=>omega
   | succ m =>
    rcases Aao y c with ⟨_,h0⟩ | ⟨A,B,e,hA,hx⟩
    ·rw [List.count_eq_zero.2 h0] at f; omega
    ·have au:y.length = A.length + (B.length + 1):=by rw [e]; simp
     have hB:y.drop (A.length + 1) = B:=by rw [e,show A ++ c :: B = (A ++ [c]) ++ B by simp]; exact List.drop_left' (by simp)
     have am:y.take A.length = A:=by rw [e]; exact List.take_left' rfl
     have ae:B.count c = d:=by
      rw [e,List.count_append,List.count_eq_zero.2 hA,List.count_cons_self] at f
      omega
     rw [DK,A6 (x:=(List.length l:Int) + 1) (by omega) (by omega),h,A6 (x:=((l.count c + 1:Nat):Int) - 1) (by omega) (by omega),if_pos (by simp <;> omega),Aa5,Aa,hx,if_neg (by simp),A6 (x:=(A.length:Int) + 0) (by omega) (by omega),Int.add_zero,Y6 _ (by omega),Aa,Jl (by omega),Aa]
     rw [show (List.length ([c]:List Aj):Int) = 1 by rfl,AD (by omega),SU _ (by omega),Aa,AD (by omega),hB,am]
     rw [ih (i + 1) m B _ (by omega) (by omega) (by omega) ae (by simp [BF]; exact u) (by omega),Aan _ _ _ (by omega)]
     conv=>rhs; rw [e]
     rw [OG hA,List.append_assoc]
     rfl
 have s:=aj (l.count c) 0 FU l (List.replicate (l.count c + 1) []) (by omega) (by omega) (DH (by omega)) rfl (by simp) hl
 rw [show ((0:Nat):Int) = 0 by rfl] at s
 rw [s]
 rfl
def BJ (a lo hi:Int):Bool:=decide (lo ≤ a) && decide (a ≤ hi)
theorem CU (a e f:Int):BO a e f = some (BJ a e f):=by
 unfold BO Bk BJ
 by_cases h:e ≤ a <;> simp [h]
theorem CT (a e f:Int):BX a e f = some (BJ a e f):=by
 unfold BX Bk BJ
 by_cases h:e ≤ a <;> simp [h]
def CX (s:Int × Int):Bool:=BJ s.1 0 1280 && BJ s.2 0 672
theorem OI (s:Int × Int):HW s = some (CX s):=by
 unfold HW Bk CX
 dsimp only
 rw [CU,Aa,CU]
 cases BJ s.1 0 1280 <;> simp
theorem Lw (s:Int × Int):Gu s = some (CX s):=by
 unfold Gu Bk CX
 dsimp only
 rw [CT,Aa,CT]
 cases BJ s.1 0 1280 <;> simp
theorem RU (x y:Int × Int):M9 x y = decide (x = y):=by
 obtain ⟨a,b⟩:=x
 obtain ⟨c,d⟩:=y
 simp [M9]
 by_cases h1:a = c <;> by_cases e:b = d <;> simp [h1,e]
def PH (l:List (Int × Int)) (k:Nat):Bool:=match l[k]? with
 | some s=>CX s && (l.take k).all (fun u=>!decide (s = u))
 | none=>true
theorem NY {l:List (Int × Int)} {k:Nat} {s:Int × Int} (h:l[k]? = some s):PH l k = (CX s && (l.take k).all (fun u=>!decide (s = u))):=by
 unfold PH
 rw [h]
def Cu (l:List (Int × Int)):Bool:=BJ (l.length:Int) 1 12 && (List.range l.length).all (PH l)
theorem Jy (l:List (Int × Int)) (hl:l.length < 4611686018427387904):FK l = some (Cu l):=by
 unfold FK
 rw [O0 (Ej l) l.length (PH l) (some (BJ (l.length:Int) 1 12)) (some false) hl (fun m k h=>?_) (fun m=>?_)]
 ·unfold Cu
  cases (List.range l.length).all (PH l) <;> simp
 ·obtain ⟨s,e⟩:∃ s,l[k]? = some s:=⟨_,Cp h⟩
  rw [Ej,if_pos (by simp; omega),AY,e,Aa,OI,Aa,NY e]
  cases CX s with
  | false=>simp
  | true =>
   rw [if_neg (by simp),LM l (by omega),Aa,Bool.true_and]
   have ab:(l.take k).length = k:=by simp; omega
   rw [O1 (FF (l.take k) s (Ej l m) (k:Int)) (l.take k) (fun u=>!decide (s = u)) (Ej l m ((k + 1:Nat):Int)) (some false) (by omega) (fun f j x hj g=>?_) (fun f=>?_)]
   ·rw [FF,if_pos (by simp; omega),AY,g,Aa,RU,AD (by omega)]
    by_cases v:s = x <;> simp [v]
   ·rw [FF,if_neg (by simp),AD (by omega)]
 ·rw [Ej,if_neg (by simp),CU]
  rfl
theorem Vl (l:List (Int × Int)) (s:Int × Int) (hl:l.length < 4611686018427387904):Dk l s = some (!l.all (fun u=>!decide (s = u))):=by
 unfold Dk Ex
 have h:∀ d k m,l.length - k = d → k ≤ l.length → l.length - k < m → ∃ i,Cn l s m (k:Int) = some i ∧ decide (0 ≤ i) = !(l.drop k).all (fun u=>!decide (s = u)):=by
  intro d
  induction d with
  | zero =>
   intro k m hd hk v
   cases m with
   | zero=>omega
   | succ m =>
    rw [Cn,if_neg (by simp; omega)]
    exact ⟨-1,rfl,by rw [List.drop_eq_nil_of_le (by omega)]; simp⟩
  | succ d ih =>
   intro k m hd hk v
   cases m with
   | zero=>omega
   | succ m =>
    have g:k < l.length:=by omega
    rw [Cn,if_pos (by simp; omega),Jl g,Aa,RU,AD (by omega),List.drop_eq_getElem_cons g,List.all_cons]
    by_cases e:s = l[k]
    ·exact ⟨k,by simp [e],by simp [e]⟩
    ·rw [if_neg (by simp [e])]
     obtain ⟨i,h1,f⟩:=ih (k + 1) m (by omega) (by omega) (by omega)
     exact ⟨i,h1,by simp [e,f]⟩
 obtain ⟨i,h1,f⟩:=h _ 0 FU rfl (by omega) (DH (by omega))
 rw [show ((0:Nat):Int) = 0 from rfl] at h1
 rw [h1,Aa,f]
 simp
theorem GO (l:List (Int × Int)) (f:l.length < 4611686018427387904):Ea l = some (Cu l):=by
 unfold Ea Cu
 rw [CT,Aa]
 cases h:BJ (l.length:Int) 1 12 with
 | false=>simp
 | true =>
  rw [if_neg (by simp),O0 (Fm l) l.length (PH l) (some true) (some false) f (fun m k g=>?_) (fun m=>?_)]
  ·cases (List.range l.length).all (PH l) <;> simp
  ·obtain ⟨s,e⟩:∃ s,l[k]? = some s:=⟨_,Cp g⟩
   rw [Fm,if_pos (by simp; omega),AY,e,Aa]
   unfold Bk
   dsimp only
   rw [NY e,Lw,Aa]
   rw [LM l (by omega),Aa,Vl _ _ (by simp; omega),Aa,AD (by omega)]
   cases CX s with
   | false=>simp
   | true=>simp only [Bool.not_true,Bool.false_eq_true,if_false,Bool.true_and]; cases (List.take k l).all (fun u=>!decide (s = u)) <;> simp
  ·rw [Fm,if_neg (by simp)]
def Wf (l:List Int):Bool:=l.all fun u=>BJ u 1 64
theorem Ou (x:Int):Hd x = some (BJ x 0 80):=by
 unfold Hd
 rw [CU]; rfl
theorem QK (x:Int):I0 x = some (BJ x 0 80):=by
 unfold I0
 rw [CT]; rfl
def VS (cs:List Aed):Bool:=cs.all fun c=>Cu c && (match cs[0]? with | some d=>decide (c.length = d.length) | none=>true)
abbrev Tx:=(List Aed) × (List Int) × Int × Int
def YQ (x:Tx):Bool:=BJ (x.1.length:Int) 2 8 && decide (x.2.1.length + 1 = x.1.length) && VS x.1 && Wf x.2.1 && BJ x.2.2.1 0 80 && BJ x.2.2.2 1 24
theorem JZ {b:Aj}:Hq b = true ↔ 48 ≤ b.toNat ∧ b.toNat ≤ 57:=by
 unfold Hq
 simp
theorem UG {b:Aj} (h:Hq b = true):Af (Mt ((b.toNat:Int) - 48)) = (b.toNat:Int) - 48:=by
 have:=JZ.1 h
 have e:Mt ((b.toNat:Int) - 48) = (b.toNat:Int) - 48:=by
  unfold Mt
  show ((b.toNat:Int) - 48) % 256 = _
  omega
 rw [e,A6 (by omega) (by omega)]
def LZ (l:List Aj):Int × Bool:=if l = [] ∨ 9 < l.length ∨ (1 < l.length ∧ l[0]? = some 48) then (0,false) else if l.all Hq then (OO l,true) else (0,false)
theorem Wx (l:List Aj) (n:Int) (i:Nat) (m:0 ≤ n) (h:n < 10 ^ i) (g:i + l.length ≤ 9):n ≤ 1000000000:=by
 have:(10:Nat) ^ i ≤ 10 ^ 9:=Nat.pow_le_pow_right (by omega) (by omega)
 have f:((10 ^ i:Nat):Int) ≤ ((10 ^ 9:Nat):Int):=Int.ofNat_le.2 this
 rw [Int.natCast_pow] at f
 have e:((10 ^ 9:Nat):Int) = 1000000000:=by decide
 rw [e] at f
 exact Int.le_of_lt (Int.lt_of_lt_of_le h f)
theorem ZK (l:List Aj) (h9:l.length ≤ 9):∀ (d i m:Nat) (n:Int),l.length - i = d → i ≤ l.length → d < m → 0 ≤ n → n < 10 ^ i →
  Fj l m n (i:Int) = some (if (l.drop i).all Hq then ((l.drop i).foldl (fun a b=>10 * a + ((b.toNat:Int) - 48)) n,true) else (0,false)):=by
 intro d
 induction d with
 | zero =>
  intro i m n s hi v g h1
  have:i = l.length:=by omega
  subst this
  cases m with
  | zero=>omega
  | succ m =>
   rw [Fj,if_neg (by simp),List.drop_length]
   rfl
 | succ d ih =>
  intro i m n s hi v g h1
  cases m with
  | zero=>omega
  | succ m =>
   have f:i < l.length:=by omega
   have hb:=Wx (l.drop i) n i g h1 (by simp; omega)
   rw [Fj,if_pos (by simp; omega)]
   unfold Bk
   dsimp only
   rw [Jl f,Aa,Aa]
   rw [List.drop_eq_getElem_cons f,List.all_cons,List.foldl_cons]
   by_cases e:Hq l[i] = true
   ·have h:=JZ.1 e
    rw [if_neg (by simp; omega),Aa,if_neg (by simp; omega),e,Bool.true_and,UG e,A6 (x:=10 * n) (by omega) (by omega),A6 (x:=10 * n + _) (by omega) (by omega),AD (by omega)]
    refine ih (i + 1) m _ (by omega) (by omega) (by omega) (by omega) ?_
    rw [Int.pow_succ]
    omega
   ·have h:¬ (48 ≤ l[i].toNat ∧ l[i].toNat ≤ 57):=fun x=>e (JZ.2 x)
    have u:Hq l[i] = false:=by simpa using e
    rw [u,Bool.false_and,if_neg (c:=false = true) (by simp)]
    by_cases ae:l[i].toNat < 48
    ·rw [if_pos (by simp; omega),if_pos rfl]
    ·rw [if_neg (by simp; omega),Aa,if_pos (by simp; omega)]
theorem Wu (l:List Aj) (h:l.length < 4611686018427387904):JM l = some (LZ l):=by
 unfold JM LZ Bk
 dsimp only
 by_cases f:l = []
 ·rw [if_pos (by simp [f]),if_pos rfl,if_pos (Or.inl f)]
 ·rw [if_neg (by simpa using f)]
  by_cases g:9 < l.length
  ·rw [if_pos (by simp; omega),if_pos rfl,if_pos (Or.inr (Or.inl g))]
  ·rw [if_neg (by simp; omega)]
   have v:0 < l.length:=List.length_pos_iff.2 f
   have m:=ZK l (by omega) l.length 0 FU 0 rfl (by omega) (DH (by omega)) (by omega) (by simp)
   rw [show ((0:Nat):Int) = 0 by rfl] at m
   by_cases h1:1 < l.length
   ·rw [if_pos (by simp; omega),Sq,Cp v,Aa]
    by_cases s:l[0] = 48
    ·rw [s,if_pos (by decide),if_pos (Or.inr (Or.inr ⟨h1,rfl⟩))]
    ·have:((l[0].toNat:Int) == 48) = false:=by
      rw [beq_eq_false_iff_ne]
      exact MP (c:=48) s
     have u:¬ (l = [] ∨ 9 < l.length ∨ (1 < l.length ∧ some l[0] = some 48)):=by
      rintro (e | e | ⟨_,e⟩)
      ·exact f e
      ·exact g e
      ·exact s (Option.some.inj e)
     rw [this,if_neg (by simp),m,if_neg u]
     rfl
   ·have u:¬ (l = [] ∨ 9 < l.length ∨ (1 < l.length ∧ l[0]? = some 48)):=by
     rintro (e | e | ⟨e,_⟩)
     ·exact f e
     ·exact g e
     ·exact h1 e
    rw [if_neg (by simp; omega),if_neg (by simp),m,if_neg u]
    rfl
theorem D9 {a f e:Int}:BJ a f e = true ↔ f ≤ a ∧ a ≤ e:=by simp [BJ]
theorem FM {s:Int × Int}:CX s = true ↔ (0 ≤ s.1 ∧ s.1 ≤ 1280) ∧ 0 ≤ s.2 ∧ s.2 ≤ 672:=by
 unfold CX
 rw [Cf,D9,D9]
theorem Oz {α:Type} {l m:List α} (h:l.length + m.length ≤ 1073741824):Cl l m = some (l ++ m):=by
 unfold Cl
 rw [if_pos h]
def MN (n:Int):List Aj:=Lib.decDigits (n.toNat / 8) ++ if 0 < n.toNat % 8 then 43 :: Lib.decDigits (n.toNat % 8) else []
def PA (s:Int × Int):List Aj:=MN s.1 ++ 44 :: MN s.2
theorem Hw {k u:Nat} (h:u < 10 ^ (k + 1)):(Lib.decDigits u).length ≤ k + 1:=(UZ k u h).2.2.2.1
theorem L8 {n:Int} (h:0 ≤ n) (e:n ≤ 9223372036854775807):CY n = some (Lib.decDigits n.toNat):=by
 unfold CY Lib.itoa
 rw [if_pos (by omega),if_neg (by omega)]
theorem LJ {n:Int} (h:0 ≤ n ∧ n ≤ 1280):(MN n).length ≤ 5:=by
 unfold MN
 have h1:=Hw (k:=2) (u:=n.toNat / 8) (by omega)
 have e:=Hw (k:=0) (u:=n.toNat % 8) (by omega)
 rw [CD]
 split
 ·rw [List.length_cons]; omega
 ·simp; omega
theorem Pp {n:Int} (h:0 ≤ n ∧ n ≤ 1280):H2 n = some (MN n):=by
 have h1:=Hw (k:=2) (u:=n.toNat / 8) (by omega)
 have f:=Hw (k:=0) (u:=n.toNat % 8) (by omega)
 unfold H2 MN Bk
 dsimp only
 rw [Int.tdiv_eq_ediv_of_nonneg h.1,Int.tmod_eq_emod_of_nonneg h.1,A6 (by omega) (by omega),L8 (by omega) (by omega),Aa,show (n / 8).toNat = n.toNat / 8 by omega]
 by_cases e:0 < n.toNat % 8
 ·rw [if_pos (by simp; omega),L8 (by omega) (by omega),Aa,show (n % 8).toNat = n.toNat % 8 by omega,Oz (by simp; omega),Aa,Oz (by simp; omega),Aa,if_pos e]
  rfl
 ·rw [if_neg (by simp; omega),if_neg e,List.append_nil]
theorem Vk {s:Int × Int} (h:CX s = true):Jv s = some (PA s,true):=by
 unfold Jv
 rw [Lw,Aa,h,if_neg (by simp)]
 have g:=FM.1 h
 have f:=LJ (n:=s.1) (by omega)
 have e:=LJ (n:=s.2) (by omega)
 rw [Pp (by omega),Aa,Oz (by simp; omega),Aa,Pp (by omega),Aa,Oz (by simp; omega),Aa]
 unfold PA
 rw [List.append_assoc]
 rfl
theorem Yu {s:Int × Int} (h:CX s = true):(PA s).length ≤ 11:=by
 have g:=FM.1 h
 have f:=LJ (n:=s.1) (by omega)
 have e:=LJ (n:=s.2) (by omega)
 unfold PA
 rw [CD,List.length_cons]
 omega
theorem PG {a f e:Int}:BJ a f e = true ↔ f ≤ a ∧ a ≤ e:=by simp [BJ]
structure Zq (x:Tx):Prop where
 n0:2 ≤ x.1.length
 n1:x.1.length ≤ 8
 nc:x.2.1.length + 1 = x.1.length
 ch:∀ c ∈ x.1,Cu c = true
 cl:∀ c ∈ x.1,1 ≤ c.length ∧ c.length ≤ 12
 ce:∀ c ∈ x.1,∀ d,x.1[0]? = some d → c.length = d.length
 cn:∀ u ∈ x.2.1,1 ≤ u ∧ u ≤ 64
 le:0 ≤ x.2.2.1 ∧ x.2.2.1 ≤ 80
 st:1 ≤ x.2.2.2 ∧ x.2.2.2 ≤ 24
theorem Xd {c:List (Int × Int)} (h:Cu c = true):1 ≤ c.length ∧ c.length ≤ 12:=by
 unfold Cu at h
 rw [Cf,PG] at h
 omega
theorem Aea {x:Tx} (h:YQ x = true):Zq x:=by
 unfold YQ VS Wf at h
 simp only [Cf,PG,C9,List.all_eq_true] at h
 obtain ⟨⟨⟨⟨⟨h1,g⟩,f⟩,u⟩,l⟩,m⟩:=h
 refine ⟨by omega,by omega,g,fun c e=>(f c e).1,fun c e=>Xd (f c e).1,fun c e d s=>?_,u,l,m⟩
 have:=(f c e).2
 rw [s] at this
 simpa using this
theorem WG {α:Type} {l m:List α} (h:l.length + m.length ≤ 1073741824):Cl l m = some (l ++ m):=by
 unfold Cl
 rw [if_pos h]
abbrev FY:=(Int × Int) × (Int × Int) × Int
def GK (a b:Int × Int):Int:=Af ((Af ((Af (a.1 - b.1)) * (Af (a.1 - b.1)))) + (Af ((Af (a.2 - b.2)) * (Af (a.2 - b.2)))))
theorem L3 (a b:Int × Int):GQ a b = some (GK a b):=rfl
theorem Hi (a b:Int × Int):Ee a b = some (GK a b):=rfl
def SN (m:FY):Int:=GK m.1 m.2.1
theorem Ma {x y A B:Int} (h1:-A ≤ x) (l:x ≤ A) (f:-B ≤ y) (g:y ≤ B):-(A * B) ≤ x * y ∧ x * y ≤ A * B:=by
 have h:(x * y).natAbs ≤ A.toNat * B.toNat:=by rw [Int.natAbs_mul]; exact Nat.mul_le_mul (by omega) (by omega)
 have e:((A.toNat * B.toNat:Nat):Int) = A * B:=by
  rw [Int.natCast_mul,Int.toNat_of_nonneg (by omega),Int.toNat_of_nonneg (by omega)]
 omega
def Il (a b:Int):Int × Int:=(Af (Int.tdiv a (Nat.gcd a.toNat b.toNat:Int)),Af (Int.tdiv b (Nat.gcd a.toNat b.toNat:Int)))
theorem ZQ:∀ (y x m:Nat),y < m → GT m (x:Int) (y:Int) = some ((Nat.gcd x y:Nat):Int):=by
 intro y
 induction y using Nat.strongRecOn with
 | _ y ih =>
  intro x m g
  cases m with
  | zero=>omega
  | succ m =>
   rw [GT]
   by_cases h:y = 0
   ·subst h
    simp
   ·have f:((y:Int) != 0) = true:=by simp; omega
    have e:¬ (y:Int) = 0:=by omega
    rw [if_pos f,if_neg e,← Int.ofNat_tmod,ih (x % y) (Nat.mod_lt _ (by omega)) y m (by have:=Nat.mod_lt x (show 0 < y by omega); omega)]
    congr 2
    rw [Nat.gcd_comm x y,Nat.gcd_rec y x]
    exact Nat.gcd_comm _ _
theorem YM (a b:Int):∀ (y x m:Nat),y < m → 0 < Nat.gcd x y → Gy a b m (x:Int) (y:Int) = some (Af (Int.tdiv a (Nat.gcd x y:Int)),Af (Int.tdiv b (Nat.gcd x y:Int))):=by
 intro y
 induction y using Nat.strongRecOn with
 | _ y ih =>
  intro x m u f
  cases m with
  | zero=>omega
  | succ m =>
   rw [Gy]
   by_cases h:y = 0
   ·subst h
    have l:¬ x = 0:=by simp at f; omega
    simp [l]
   ·have g:decide (0 < (y:Int)) = true:=by simp; omega
    have s:¬ (y:Int) = 0:=by omega
    have e:Nat.gcd x y = Nat.gcd y (x % y):=by rw [Nat.gcd_comm x y,Nat.gcd_rec y x]; exact Nat.gcd_comm _ _
    rw [if_pos g,if_neg s,← Int.ofNat_tmod,ih (x % y) (Nat.mod_lt _ (by omega)) y m (by have:=Nat.mod_lt x (show 0 < y by omega); omega) (by rw [← e]; exact f),e]
theorem L9 (a b:Int) (l:0 ≤ a) (h:a ≤ 4000000000000000000) (m:0 < b) (s:b ≤ 1000000000000000):FH a b = some (Il a b):=by
 unfold FH Mo Il
 have f:Fx a (Af (0 - a)) = ((a.toNat:Nat):Int):=by unfold Fx; rw [A6 (by omega) (by omega)]; split <;> omega
 have g:Fx b (Af (0 - b)) = ((b.toNat:Nat):Int):=by unfold Fx; rw [A6 (by omega) (by omega)]; split <;> omega
 rw [f,g,ZQ b.toNat a.toNat FU (DH (by omega)),Aa]
 have u:0 < Nat.gcd a.toNat b.toNat:=Nat.gcd_pos_of_pos_right _ (by omega)
 have e:¬ ((Nat.gcd a.toNat b.toNat:Nat):Int) = 0:=by omega
 rw [if_neg e,if_neg e]
theorem RL (a b:Int) (m:0 ≤ a) (l:a ≤ 4000000000000000000) (s:0 < b) (u:b ≤ 1000000000000000):IY a b = some (Il a b):=by
 unfold IY Mm Hk Il
 have e:(if decide (Af (0 - a) < a) = true then some a else some (Af (0 - a))) = some ((a.toNat:Nat):Int):=by
  rw [A6 (by omega) (by omega)]
  by_cases h:0 - a < a
  ·rw [if_pos (by simp; omega)]; congr 1; omega
  ·rw [if_neg (by simp; omega)]; congr 1; omega
 have f:b = ((b.toNat:Nat):Int):=by omega
 rw [e,Aa,Aa]
 have g:0 < Nat.gcd a.toNat b.toNat:=Nat.gcd_pos_of_pos_right _ (by omega)
 have:=YM a b b.toNat a.toNat FU (DH (by omega)) g
 rw [← f] at this
 exact this
def XO (px py qx qy:Int):Int × Int :=
 if 0 ≤ px * (qx - px) + py * (qy - py) then (px * px + py * py,1)
 else if (qx - px) * (qx - px) + (qy - py) * (qy - py) ≤ 0 - (px * (qx - px) + py * (qy - py)) then (qx * qx + qy * qy,1)
 else Il ((px * qy - py * qx) * (px * qy - py * qx)) ((qx - px) * (qx - px) + (qy - py) * (qy - py))
def TN (a b:FY):Int × Int:=XO (a.1.1 - b.1.1) (a.1.2 - b.1.2) (a.2.1.1 - b.2.1.1) (a.2.1.2 - b.2.1.2)
structure InB (px py qx qy:Int):Prop where
 a1:-1280 ≤ px
 a2:px ≤ 1280
 b1:-672 ≤ py
 b2:py ≤ 672
 c1:-1280 ≤ qx
 c2:qx ≤ 1280
 d1:-672 ≤ qy
 d2:qy ≤ 672
theorem Mv {x A:Int} (h1:-A ≤ x) (e:x ≤ A):0 ≤ x * x ∧ x * x ≤ A * A:=by
 have:=Ma h1 e h1 e
 refine ⟨?_,this.2⟩
 have:(0:Int) ≤ ((x.natAbs * x.natAbs:Nat):Int):=Int.natCast_nonneg _
 rwa [Int.natAbs_mul_self] at this
structure Adi (px py qx qy:Int):Prop where
 m1:-3276800 ≤ px * (qx - px) ∧ px * (qx - px) ≤ 3276800
 m2:-903168 ≤ py * (qy - py) ∧ py * (qy - py) ≤ 903168
 m3:0 ≤ (qx - px) * (qx - px) ∧ (qx - px) * (qx - px) ≤ 6553600
 m4:0 ≤ (qy - py) * (qy - py) ∧ (qy - py) * (qy - py) ≤ 1806336
 m5:0 ≤ px * px ∧ px * px ≤ 1638400
 m6:0 ≤ py * py ∧ py * py ≤ 451584
 m7:0 ≤ qx * qx ∧ qx * qx ≤ 1638400
 m8:0 ≤ qy * qy ∧ qy * qy ≤ 451584
 m9:-860160 ≤ px * qy ∧ px * qy ≤ 860160
 m10:-860160 ≤ py * qx ∧ py * qx ≤ 860160
 m11:0 ≤ (px * qy - py * qx) * (px * qy - py * qx) ∧ (px * qy - py * qx) * (px * qy - py * qx) ≤ 2959500902400
theorem Aas {s v m g:Int} (h:InB s v m g):Adi s v m g:=by
 obtain ⟨l,e,u,f,c1,c2,d1,d2⟩:=h
 have m9:=Ma l e d1 d2
 have ag:=Ma u f c1 c2
 have ah:=Mv (x:=s * g - v * m) (A:=1720320) (by omega) (by omega)
 exact ⟨Ma (A:=1280) (B:=2560) l e (by omega) (by omega),Ma (A:=672) (B:=1344) u f (by omega) (by omega),Mv (A:=2560) (by omega) (by omega),Mv (A:=1344) (by omega) (by omega),Mv l e,Mv u f,Mv c1 c2,Mv d1 d2,by omega,by omega,by omega⟩
theorem inB {a b:FY} (e:CX a.1 = true) (f:CX a.2.1 = true) (g:CX b.1 = true) (h:CX b.2.1 = true):InB (a.1.1 - b.1.1) (a.1.2 - b.1.2) (a.2.1.1 - b.2.1.1) (a.2.1.2 - b.2.1.2):=by
 unfold CX at e f g h
 rw [Cf,PG,PG] at e f g h
 refine ⟨by omega,by omega,by omega,by omega,by omega,by omega,by omega,by omega⟩
theorem Tm (a b:FY) (l:CX a.1 = true) (aa:CX a.2.1 = true) (m:CX b.1 = true) (v:CX b.2.1 = true):Ig a b = some (TN a b):=by
 have f:=inB l aa m v
 unfold Ig Lj Ee TN
 generalize a.1.1 - b.1.1 = px at *
 generalize a.1.2 - b.1.2 = py at *
 generalize a.2.1.1 - b.2.1.1 = qx at *
 generalize a.2.1.2 - b.2.1.2 = qy at *
 obtain ⟨m1,m2,m3,m4,m5,m6,m7,m8,m9,ag,ac⟩:=Aas f
 obtain ⟨g,s,h,u,c1,c2,d1,d2⟩:=f
 have k:(px * (qy - py) - py * (qx - px)) = px * qy - py * qx:=by
  rw [Int.mul_sub,Int.mul_sub,Int.mul_comm px py]; omega
 have au:=Ma (x:=px) (y:=qy - py) (A:=1280) (B:=1344) g s (by omega) (by omega)
 have ar:=Ma (x:=py) (y:=qx - px) (A:=672) (B:=2560) h u (by omega) (by omega)
 simp only [Aa,A6 (x:=px) (by omega) (by omega),A6 (x:=py) (by omega) (by omega),A6 (x:=qx) (by omega) (by omega),A6 (x:=qy) (by omega) (by omega),
  A6 (x:=qx - px) (by omega) (by omega),A6 (x:=qy - py) (by omega) (by omega),A6 (x:=px * (qx - px)) (by omega) (by omega),A6 (x:=py * (qy - py)) (by omega) (by omega),
  A6 (x:=px * (qx - px) + py * (qy - py)) (by omega) (by omega),A6 (x:=0 - (px * (qx - px) + py * (qy - py))) (by omega) (by omega),
  A6 (x:=(qx - px) * (qx - px)) (by omega) (by omega),A6 (x:=(qy - py) * (qy - py)) (by omega) (by omega),A6 (x:=(qx - px) * (qx - px) + (qy - py) * (qy - py)) (by omega) (by omega),
  A6 (x:=px * px) (by omega) (by omega),A6 (x:=py * py) (by omega) (by omega),A6 (x:=px * px + py * py) (by omega) (by omega),
  A6 (x:=qx * qx) (by omega) (by omega),A6 (x:=qy * qy) (by omega) (by omega),A6 (x:=qx * qx + qy * qy) (by omega) (by omega),
  A6 (x:=px * (qy - py)) (by omega) (by omega),A6 (x:=py * (qx - px)) (by omega) (by omega),k,A6 (x:=px * qy - py * qx) (by omega) (by omega),A6 (x:=(px * qy - py * qx) * (px * qy - py * qx)) (by omega) (by omega)]
 unfold XO
 by_cases h1:0 ≤ px * (qx - px) + py * (qy - py)
 ·rw [if_pos (by simpa using h1),if_pos h1]
 ·rw [if_neg (by simpa using h1),if_neg h1]
  by_cases e:(qx - px) * (qx - px) + (qy - py) * (qy - py) ≤ 0 - (px * (qx - px) + py * (qy - py))
  ·rw [if_pos (by simpa using e),if_pos e]
  ·rw [if_neg (by simpa using e),if_neg e,L9 _ _ (by omega) (by omega) (by omega) (by omega)]
   rfl
theorem VN (a b:FY) (l:CX a.1 = true) (u:CX a.2.1 = true) (m:CX b.1 = true) (s:CX b.2.1 = true):JJ a b = some (TN a b):=by
 have g:=inB l u m s
 unfold JJ Li Ko TN Bk
 generalize a.1.1 - b.1.1 = px at *
 generalize a.1.2 - b.1.2 = py at *
 generalize a.2.1.1 - b.2.1.1 = qx at *
 generalize a.2.1.2 - b.2.1.2 = qy at *
 obtain ⟨m1,m2,m3,m4,m5,m6,m7,m8,m9,ai,ae⟩:=Aas g
 obtain ⟨a1,a2,b1,b2,c1,c2,d1,d2⟩:=g
 simp only [Aa,A6 (x:=px) (by omega) (by omega),A6 (x:=py) (by omega) (by omega),A6 (x:=qx) (by omega) (by omega),A6 (x:=qy) (by omega) (by omega),
  A6 (x:=qx - px) (by omega) (by omega),A6 (x:=qy - py) (by omega) (by omega),A6 (x:=px * (qx - px)) (by omega) (by omega),A6 (x:=py * (qy - py)) (by omega) (by omega),
  A6 (x:=px * (qx - px) + py * (qy - py)) (by omega) (by omega),A6 (x:=0 - (px * (qx - px) + py * (qy - py))) (by omega) (by omega),
  A6 (x:=(qx - px) * (qx - px)) (by omega) (by omega),A6 (x:=(qy - py) * (qy - py)) (by omega) (by omega),A6 (x:=(qx - px) * (qx - px) + (qy - py) * (qy - py)) (by omega) (by omega),
  A6 (x:=px * px) (by omega) (by omega),A6 (x:=py * py) (by omega) (by omega),A6 (x:=px * px + py * py) (by omega) (by omega),
  A6 (x:=qx * qx) (by omega) (by omega),A6 (x:=qy * qy) (by omega) (by omega),A6 (x:=qx * qx + qy * qy) (by omega) (by omega),
  A6 (x:=px * qy) (by omega) (by omega),A6 (x:=py * qx) (by omega) (by omega),A6 (x:=px * qy - py * qx) (by omega) (by omega),A6 (x:=(px * qy - py * qx) * (px * qy - py * qx)) (by omega) (by omega)]
 have q1:qx * qx = px * px + 2 * (px * (qx - px)) + (qx - px) * (qx - px):=by
  have:qx * qx = (px + (qx - px)) * (px + (qx - px)):=by rw [show px + (qx - px) = qx by omega]
  rw [this,Int.add_mul,Int.mul_add,Int.mul_add,Int.mul_comm (qx - px) px]; omega
 have q2:qy * qy = py * py + 2 * (py * (qy - py)) + (qy - py) * (qy - py):=by
  have:qy * qy = (py + (qy - py)) * (py + (qy - py)):=by rw [show py + (qy - py) = qy by omega]
  rw [this,Int.add_mul,Int.mul_add,Int.mul_add,Int.mul_comm (qy - py) py]; omega
 unfold XO EQ
 generalize hd:px * (qx - px) + py * (qy - py) = dot at *
 generalize v:(qx - px) * (qx - px) + (qy - py) * (qy - py) = size at *
 by_cases h1:0 ≤ dot
 ·have f:0 - dot ≤ 0:=by omega
  rw [if_pos h1]
  simp only [f,decide_true,if_true,Aa]
  rw [if_neg (by simp)]
  by_cases h:px * px + py * py < qx * qx + qy * qy
  ·rw [if_pos (by simpa using h)]; rfl
  ·rw [if_neg (by simpa using h),Aa]
   have:qx * qx + qy * qy = px * px + py * py:=by omega
   rw [this]
 ·have f:¬ 0 - dot ≤ 0:=by omega
  rw [if_neg h1]
  by_cases e:size ≤ 0 - dot
  ·rw [if_pos e]
   simp only [f,e,decide_true,decide_false,Bool.false_eq_true,if_false,if_true,Aa]
   rw [if_neg (by simp),if_neg (by simp; omega)]
   rfl
  ·rw [if_neg e]
   simp only [f,e,decide_true,decide_false,Bool.false_eq_true,if_false,if_true,Aa]
   rw [if_pos (by simp; omega),RL _ _ (by omega) (by omega) (by omega) (by omega)]
   rfl
theorem ZL {β R:Type} (f:Nat → List β → Int → Ag R) (n B:Nat) (p:Nat → Bool) (g:Nat → β) (rest:List β → Ag R) (hn:n < 4611686018427387904)
  (hs:∀ m s k,k < n → s.length < B → f (m + 1) s (k:Int) = f m (if p k then s ++ [g k] else s) ((k + 1:Nat):Int)) (he:∀ m s,f (m + 1) s (n:Int) = rest s) :
  ∀ (k:Nat) (s:List β),k ≤ n → s.length + (n - k) ≤ B → f FU s (k:Int) = rest (s ++ ((List.range' k (n - k)).filter p).map g):=by
 have v:∀ d k m s,n - k = d → k ≤ n → n - k < m → s.length + (n - k) ≤ B → f m s (k:Int) = rest (s ++ ((List.range' k (n - k)).filter p).map g):=by
  intro d
  induction d with
  | zero =>
   intro k m s u e hm h
   have:k = n:=by omega
   subst this
   cases m with
   | zero=>omega
   | succ m=>rw [he]; simp
  | succ d l =>
   intro k m s u e hm h
   cases m with
   | zero=>omega
   | succ m =>
    rw [hs m s k (by omega) (by omega),u,List.range'_succ,List.filter_cons]
    cases hp:p k with
    | false =>
     simp only [Bool.false_eq_true,if_false]
     rw [l (k + 1) m s (by omega) (by omega) (by omega) (by omega),show n - (k + 1) = d by omega]
    | true =>
     simp only [if_true,List.map_cons]
     rw [l (k + 1) m (s ++ [g k]) (by omega) (by omega) (by omega) (by simp; omega),show n - (k + 1) = d by omega]
     simp
 exact fun k s e h=>v _ k FU s rfl e (DH (by omega)) h
def Se (u v:FY) (least:Int):Bool:=decide (Af (Af (least * least) * (TN u v).2) ≤ (TN u v).1)
def I5 (u:FY):Prop:=CX u.1 = true ∧ CX u.2.1 = true
theorem TR (u v:FY) (f:Int) (g:I5 u) (e:I5 v):IA u v f = some (Se u v f):=by
 unfold IA Se
 rw [Tm u v g.1 g.2 e.1 e.2]
 rfl
theorem Xa (u v:FY) (f:Int) (g:I5 u) (e:I5 v):Km u v f = some (Se u v f):=by
 unfold Km Se
 rw [VN u v g.1 g.2 e.1 e.2]
 rfl
theorem LO {a f e:Int}:BJ a f e = true ↔ f ≤ a ∧ a ≤ e:=by simp [BJ]
abbrev G7:=List (Int × Int)
abbrev Ac5:=Int × (List Aj)
def G4 (u:Int × Int):Bool:=BJ u.1 1 12 && BJ u.2 40 220
def Gd (x:G7):Bool:=BJ (x.length:Int) 1 40 && x.all G4
theorem TE (u:Int × Int):I8 u = some (G4 u):=by
 unfold I8 Bk G4
 dsimp only
 rw [CU,Aa,CU,Aa]
 cases BJ u.1 1 12 <;> simp
theorem RM (x:G7) (h:x.length < 4611686018427387904):IZ x = some (Gd x):=by
 unfold IZ Gd
 rw [O1 (FD x) x G4 (some (BJ (x.length:Int) 1 40)) (some false) h (fun m k u f e=>?_) (fun m=>?_)]
 ·cases x.all G4 <;> simp
 ·rw [FD,if_pos (by simp; omega),AY,e,Aa,TE,Aa,AD (by omega)]
  cases G4 u <;> simp
 ·rw [FD,if_neg (by simp),CU]
  rfl
theorem QL (x:G7) (h:x.length < 4611686018427387904):I1 x = some (Gd x):=by
 unfold I1 Gd
 rw [O1 (Fl x) x G4 (some (BJ (x.length:Int) 1 40)) (some false) h (fun m k u f e=>?_) (fun m=>?_)]
 ·cases x.all G4 <;> simp
 ·rw [Fl,if_pos (by simp; omega),AY,e,Aa]
  unfold Bk G4
  dsimp only
  rw [CT,Aa,CT,Aa,AD (by omega)]
  cases BJ u.1 1 12 <;> cases BJ u.2 40 220 <;> simp
 ·rw [Fl,if_neg (by simp),CT]
  rfl
def Sd (x:G7):Int:=x.foldl (fun a u=>Af (a + u.1)) 0
theorem Vh (x:G7) (h:x.length < 4611686018427387904):Jq x = some (Sd x):=by
 unfold Jq Sd
 rw [Wo (E9 x) x (fun a u=>Af (a + u.1)) some h (fun m s k u f e=>?_) (fun m s=>?_)]
 ·rw [E9,if_pos (by simp; omega),AY,e,Aa,AD (by omega)]
 ·rw [E9,if_neg (by simp)]
theorem Vj (x:G7) (h:x.length < 4611686018427387904):Ju x = some (Sd x):=by
 unfold Ju Sd
 rw [Wo (EB x) x (fun a u=>Af (a + u.1)) some h (fun m s k u f e=>?_) (fun m s=>?_)]
 ·rw [EB,if_pos (by simp; omega),AY,e,Aa,AD (by omega)]
 ·rw [EB,if_neg (by simp)]
theorem MS {x:G7} (h:Gd x = true):1 ≤ x.length ∧ x.length ≤ 40 ∧ x.all G4 = true:=by
 unfold Gd at h
 rw [Cf,LO] at h
 exact ⟨by omega,by omega,h.2⟩
structure CueLens (x:G7) (l:List Ac5):Prop where
 hx:x.length < 4611686018427387904
 hl:l.length < 1073741824
 hn:∀ c ∈ l,c.2.length < 4611686018427387904
theorem CueLens.hl' {x:G7} {l:List Ac5} (h:CueLens x l):l.length < 4611686018427387904:=by have:=h.hl; omega
theorem Yr (x:G7):∀ (m:Nat) (a b c:Int),Gz x m a b c = Di x m a b c:=by
 intro m
 induction m with
 | zero=>intro a b c; rfl
 | succ m e =>
  intro a b c
  rw [Gz,Di]
  split
  ·cases AM x c with
   | none=>rfl
   | some u =>
    simp only [Aa,Hy,e]
    by_cases h:u.2 = 0 <;> simp [h]
  ·rfl
theorem TQ (x:G7) (c:Int):Jf x c = FJ x c:=by
 unfold Jf FJ
 exact Yr x FU c 0 0
theorem Yq (x:G7) (h:x.all G4 = true) (hl:x.length < 4611686018427387904) (c:Int):∃ t,FJ x c = some t:=by
 unfold FJ
 have g:∀ d k m (a b:Int),x.length - k = d → k ≤ x.length → x.length - k < m → ∃ t,Di x m a b (k:Int) = some t:=by
  intro d
  induction d with
  | zero =>
   intro k m a b v s l
   cases m with
   | zero=>omega
   | succ m =>
    rw [Di,if_neg (by simp; omega)]
    exact ⟨_,rfl⟩
  | succ d u =>
   intro k m a b v s l
   cases m with
   | zero=>omega
   | succ m =>
    have e:k < x.length:=by omega
    have f:=List.all_eq_true.1 h x[k] (List.getElem_mem e)
    unfold G4 at f
    rw [Cf,LO,LO] at f
    have h0:¬ x[k].2 = 0:=by omega
    rw [Di,if_pos (by simp; omega),Jl e,Aa]
    simp only [Hy,if_neg h0,Aa,AD (k:=k) (by omega)]
    split
    ·exact ⟨_,rfl⟩
    ·exact u (k + 1) m _ _ (by omega) (by omega) (by omega)
 exact g _ 0 FU c 0 rfl (by omega) (DH (by omega))
def Rm (x:G7) (c:Int):Int:=(FJ x c).getD 0
theorem OJ (x:G7) (h:Gd x = true) (c:Int):FJ x c = some (Rm x c):=by
 obtain ⟨h1,g,e⟩:=MS h
 obtain ⟨t,f⟩:=Yq x e (by omega) c
 unfold Rm
 rw [f]
 rfl
theorem Xf (x:G7) (h:Gd x = true) (c:Int):Jf x c = some (Rm x c):=by
 rw [TQ,OJ x h]
def rd (x c:Int):Int:=Int.tdiv (2 * x + c) (2 * c)
def KB (L:List (List Aj)):List Aj:=(L.map (· ++ [10])).flatten
theorem XS (a:List Aj) (L:List (List Aj)):KB (a :: L) = a ++ 10 :: KB L:=by
 unfold KB
 rw [List.map_cons,List.flatten_cons,List.append_assoc]
 rfl
theorem Wr (L M:List (List Aj)):KB (L ++ M) = KB L ++ KB M:=by
 unfold KB
 rw [List.map_append,List.flatten_append]
theorem UV (B:Nat):∀ (L:List (List Aj)),(∀ a ∈ L,a.length ≤ B) → (KB L).length ≤ (B + 1) * L.length
 | [],_=>by simp [KB]
 | a :: L,h=>by
  have g:=UV B L fun b e=>h b (List.mem_cons_of_mem _ e)
  have f:=h a (by simp)
  rw [XS,CD,List.length_cons,List.length_cons,Nat.mul_add]
  omega
theorem Ace {α:Type} (l:List α) {j k:Nat} (h:j ≤ k) (e:k ≤ l.length):sl l (j:Int) (k:Int) = some ((l.take k).drop j):=by
 unfold sl
 rw [if_pos (by omega)]
 simp
theorem Add {α:Type} {l:List α} {k:Nat} (h:k < l.length) {e:Nat} (f:e ≤ k):l.drop e = (l.take k).drop e ++ l[k] :: l.drop (k + 1):=by
 conv=>lhs; rw [← List.take_append_drop k l]
 rw [List.drop_append_of_le_length (by simp; omega),List.drop_eq_getElem_cons h]
theorem SP (l:List Aj) (c:Aj) (hl:l.length ≤ 4194304):FN l (c.toNat:Int) = some (CZ c l):=by
 unfold FN
 have ag:∀ (d k m f:Nat) (s:List (List Aj)),l.length - k = d → k ≤ l.length → d < m → f ≤ k → c ∉ (l.take k).drop f → s ++ CZ c (l.drop f) = CZ c l →
   Fc l (c.toNat:Int) m s (f:Int) (k:Int) = some (CZ c l):=by
  have hn:(CZ c l).length ≤ l.length + 1:=by
   have:=List.count_le_length (a:=c) (l:=l)
   rw [Jh]; omega
  intro d
  induction d with
  | zero =>
   intro k m f s hd hk hm v u g
   have:k = l.length:=by omega
   subst this
   have aj:s.length ≤ l.length + 1:=by rw [← g,CD] at hn; omega
   rw [List.take_length] at u
   cases m with
   | zero=>omega
   | succ m=>rw [Fc,if_neg (by simp),SU _ v,Aa,Bt (by simp; omega),Aa,← g,OE u]
  | succ d ih =>
   intro k m f s hd hk hm v u g
   have aa:k < l.length:=by omega
   have aj:s.length ≤ l.length + 1:=by rw [← g,CD] at hn; omega
   have ae:=Add aa v
   cases m with
   | zero=>omega
   | succ m =>
    rw [Fc,if_pos (by simp; omega)]
    unfold Fz
    dsimp only
    rw [Jl aa,Aa]
    by_cases h:l[k] = c
    ·rw [h,if_pos (by simp),Ace _ v hk,Aa,Bt (by simp; omega),Aa,AD (by omega)]
     refine ih (k + 1) m (k + 1) _ (by omega) (by omega) (by omega) (by omega) ?_ ?_
     ·rw [List.drop_eq_nil_of_le (by simp; omega)]; simp
     ·rw [h] at ae
      rw [← g,ae,OG u,List.append_assoc]
      rfl
    ·rw [if_neg (by simpa using MP h),AD (by omega)]
     refine ih (k + 1) m f s (by omega) (by omega) (by omega) (by omega) ?_ g
     rw [List.take_succ_eq_append_getElem aa,List.drop_append_of_le_length (by simp; omega),AX,not_or]
     exact ⟨u,by simpa using fun e=>h e.symm⟩
 exact ag l.length 0 FU 0 [] rfl (by omega) (DH (by omega)) (by omega) (by simp) (by simp)
def Ds (l:List Aj):List (List Aj):=if l = [] then [] else CZ 10 (l.take (l.length - 1))
theorem SO (c:Aj):∀ A:List Aj,CZ c (A ++ [c]) = CZ c A ++ [[]]
 | []=>by simp [CZ]
 | b :: A=>by
  rw [List.cons_append,CZ,CZ,SO c A]
  by_cases h:b = c
  ·rw [if_pos h,if_pos h]; rfl
  ·rw [if_neg h,if_neg h]
   cases e:CZ c A with
   | nil=>have:=Jh c A; rw [e] at this; simp at this
   | cons a t=>rfl
theorem RS {l:List Aj} (h:l = [] ∨ l.getLast? = some 10):CZ 10 l = Ds l ++ [[]]:=by
 unfold Ds
 by_cases e:l = []
 ·rw [if_pos e,e]; rfl
 ·rw [if_neg e]
  obtain ⟨b,_,f,g⟩:=TO e
  have m:b = 10:=by
   rcases h with h | h
   ·exact absurd h e
   ·rw [f] at h; exact Option.some.inj h
  subst m
  conv=>lhs; rw [g]
  exact SO 10 _
theorem PJ {l:List Aj} (h:l = [] ∨ l.getLast? = some 10):(Ds l).length = PK l:=by
 have h1:=congrArg List.length (RS h)
 rw [Jh,CD] at h1
 unfold PK
 simpa using h1.symm
theorem XQ {l a:List Aj} (h:a ∈ Ds l):a.length ≤ l.length:=by
 have s:∀ (m:List Aj),∀ b ∈ CZ 10 m,b.length ≤ m.length:=by
  intro m
  induction m with
  | nil=>intro b e; simp [CZ] at e; simp [e]
  | cons x m f =>
   intro b e
   rw [CZ] at e
   split at e
   ·rcases List.mem_cons.1 e with rfl | e
    ·simp
    ·have:=f b e; simp; omega
   ·cases g:CZ 10 m with
    | nil=>have:=Jh 10 m; rw [g] at this; simp at this
    | cons a t =>
     rw [g] at e f
     rcases List.mem_cons.1 e with rfl | e
     ·have:=f a (List.mem_cons_self ..); simp; omega
     ·have:=f b (List.mem_cons_of_mem _ e); simp; omega
 unfold Ds at h
 split at h
 ·cases h
 ·have:=s _ a h
  simp at this
  omega
def N5 (l:List Aj):List (List Aj) × Bool:=if Hu l = true then (Ds l,true) else ([],false)
theorem GN {l:List Aj}:Hu l = true ↔ l.length ≤ 2000 ∧ (l = [] ∨ l.getLast? = some 10) ∧ PK l ≤ 40:=by
 unfold Hu
 simp [and_assoc]
theorem XZ (l:List Aj) (hl:l.length ≤ 4194304):JF l = some (N5 l):=by
 unfold JF Bk N5
 dsimp only
 by_cases h1:l.length ≤ 2000
 ·rw [if_neg (by simp; omega)]
  have s (e:l = [] ∨ l.getLast? = some 10):(Option.bind (FN l 10) fun g=>Option.bind (sl g 0 (Af ((List.length g:Int) - 1))) fun v=>(if (decide (40 < (List.length v:Int))) = true then some (([]:List (List Aj)),false) else some (v,true))) = some (if Hu l = true then (Ds l,true) else ([],false)):=by
   have hs:FN l 10 = some (CZ 10 l):=SP l 10 hl
   have hc:PK l ≤ l.length:=List.count_le_length
   have hL:=PJ e
   rw [hs,Aa,RS e,CD,List.length_singleton,A6 (by omega) (by omega),show (((Ds l).length + 1:Nat):Int) - 1 = ((Ds l).length:Int) by omega,Tj _ (by simp),Aa,List.take_left']
   ·by_cases m:PK l ≤ 40
    ·rw [if_neg (by simp; omega),if_pos (GN.2 ⟨h1,e,m⟩)]
    ·rw [if_pos (by simp; omega),if_neg (fun h=>m (GN.1 h).2.2)]
   ·rfl
  by_cases e:l = []
  ·rw [if_neg (by simp [e]),if_neg (by simp)]
   exact s (.inl e)
  ·obtain ⟨b,hb,u,_⟩:=TO e
   rw [if_pos (by simp [e]),A6 (by omega) (by omega),hb,Aa]
   by_cases f:b = 10
   ·subst f
    rw [if_neg (by decide)]
    exact s (.inr u)
   ·have aa:((b.toNat:Nat):Int) ≠ 10:=MP (c:=10) f
    rw [if_pos (by simpa using aa),if_neg (fun h=>?_)]
    rcases (GN.1 h).2.1 with h | h
    ·exact e h
    ·rw [u] at h; exact f (Option.some.inj h)
 ·rw [if_pos (by simp; omega),if_pos rfl,if_neg (fun h=>h1 (GN.1 h).1)]
theorem XP (l:List Aj) (hl:l.length ≤ 4194304):JN l = some (if l = [] ∨ l.getLast? = some 10 then (Ds l,true) else ([],false)):=by
 unfold JN Ds
 by_cases e:l = []
 ·rw [if_pos (by simp [e]),if_pos (.inl e),if_pos e]
 ·obtain ⟨b,s,g,hd⟩:=TO e
  have v:0 < l.length:=List.length_pos_iff.2 e
  rw [if_neg (by simpa using e),A6 (by omega) (by omega),s,Aa,if_neg e]
  by_cases f:b = 10
  ·subst f
   have u:FZ (l.take (l.length - 1)) [10] = some (CZ 10 (l.take (l.length - 1))):=Xr _ 10 (by simp; omega)
   rw [if_neg (by decide),show (l.length:Int) - 1 = ((l.length - 1:Nat):Int) by omega,Tj _ (by omega),Aa,u,Aa,if_pos (.inr g)]
  ·have m:((b.toNat:Nat):Int) ≠ 10:=MP (c:=10) f
   rw [if_pos (by simpa using m),if_neg]
   rintro (h | h)
   ·exact e h
   ·rw [g] at h; exact f (Option.some.inj h)
theorem TJ (l:List Aj) (g:l.length ≤ 4194304):HF l = some (N5 l):=by
 unfold HF Bk N5
 rw [XP l g,Aa]
 by_cases e:l = [] ∨ l.getLast? = some 10
 ·rw [if_pos e]
  dsimp only
  rw [if_neg (by simp)]
  have m:=PJ e
  by_cases h1:l.length ≤ 2000
  ·rw [if_neg (by simp; omega)]
   by_cases f:PK l ≤ 40
   ·rw [if_neg (by simp; omega),if_pos (GN.2 ⟨h1,e,f⟩)]
   ·rw [if_pos (by simp; omega),if_neg (fun h=>f (GN.1 h).2.2)]
  ·rw [if_pos (by simp; omega),if_pos rfl,if_neg (fun h=>h1 (GN.1 h).1)]
 ·rw [if_neg e]
  dsimp only
  rw [if_pos (by simp),if_pos rfl,if_neg (fun h=>e (GN.1 h).2.1)]
def Lc (l:List Aj):Int:=if l = [] ∨ 6 < l.length ∨ (1 < l.length ∧ l[0]? = some 48) then -1 else if l.all Hq then OO l else -1
theorem YC (l:List Aj) (h9:l.length ≤ 6):∀ (d i m:Nat) (n:Int),l.length - i = d → i ≤ l.length → d < m → 0 ≤ n → n < 10 ^ i →
  FE l m n (i:Int) = some (if (l.drop i).all Hq then (l.drop i).foldl (fun a b=>10 * a + ((b.toNat:Int) - 48)) n else -1):=by
 intro d
 induction d with
 | zero =>
  intro i m n s hi v g h1
  have:i = l.length:=by omega
  subst this
  cases m with
  | zero=>omega
  | succ m =>
   rw [FE,if_neg (by simp),List.drop_length]
   rfl
 | succ d ih =>
  intro i m n s hi v g h1
  cases m with
  | zero=>omega
  | succ m =>
   have f:i < l.length:=by omega
   have hb:=Wx (l.drop i) n i g h1 (by simp; omega)
   rw [FE,if_pos (by simp; omega)]
   unfold Bk
   dsimp only
   rw [Jl f,Aa,Aa]
   rw [List.drop_eq_getElem_cons f,List.all_cons,List.foldl_cons]
   by_cases e:Hq l[i] = true
   ·have h:=JZ.1 e
    rw [if_neg (by simp; omega),Aa,if_neg (by simp; omega),e,Bool.true_and,UG e,A6 (x:=10 * n) (by omega) (by omega),A6 (x:=10 * n + _) (by omega) (by omega),AD (by omega)]
    refine ih (i + 1) m _ (by omega) (by omega) (by omega) (by omega) ?_
    rw [Int.pow_succ]
    omega
   ·have h:¬ (48 ≤ l[i].toNat ∧ l[i].toNat ≤ 57):=fun x=>e (JZ.2 x)
    have u:Hq l[i] = false:=by simpa using e
    rw [u,Bool.false_and,if_neg (c:=false = true) (by simp)]
    by_cases ae:l[i].toNat < 48
    ·rw [if_pos (by simp; omega),if_pos rfl]
    ·rw [if_neg (by simp; omega),Aa,if_pos (by simp; omega)]
theorem YY (l:List Aj) (h:l.length < 4611686018427387904):Kk l = some (Lc l):=by
 unfold Kk Lc Bk
 dsimp only
 rw [CU,Aa]
 by_cases f:l = []
 ·rw [if_pos (by simp [f,BJ]),if_pos rfl,if_pos (Or.inl f)]
 ·have v:0 < l.length:=List.length_pos_iff.2 f
  by_cases g:6 < l.length
  ·have e:BJ (l.length:Int) 1 6 = false:=by rw [← Bool.not_eq_true,D9]; omega
   rw [e,if_pos (c:=(!false) = true) rfl,if_pos rfl,if_pos (Or.inr (Or.inl g))]
  ·have e:BJ (l.length:Int) 1 6 = true:=by rw [D9]; omega
   rw [e,if_neg (by simp),Sq,Cp v,Aa]
   have m:=YC l (by omega) l.length 0 FU 0 rfl (by omega) (DH (by omega)) (by omega) (by simp)
   rw [show ((0:Nat):Int) = 0 by rfl] at m
   by_cases s:l[0] = 48
   ·rw [s,if_pos (by decide)]
    by_cases h1:1 < l.length
    ·rw [if_pos (by simp; omega),if_pos (Or.inr (Or.inr ⟨h1,rfl⟩))]
    ·have u:¬ (l = [] ∨ 6 < l.length ∨ (1 < l.length ∧ some (48:Aj) = some 48)):=by
      rintro (e | e | ⟨e,_⟩)
      ·exact f e
      ·exact g e
      ·exact h1 e
     rw [if_neg (by simp; omega),m,if_neg u]
     rfl
   ·have:((l[0].toNat:Int) == 48) = false:=by
     rw [beq_eq_false_iff_ne]
     exact MP (c:=48) s
    have u:¬ (l = [] ∨ 6 < l.length ∨ (1 < l.length ∧ some l[0] = some 48)):=by
     rintro (e | e | ⟨_,e⟩)
     ·exact f e
     ·exact g e
     ·exact s (Option.some.inj e)
    rw [this,if_neg (by simp),if_neg (by simp),m,if_neg u]
    rfl
theorem Xy:∀ (l:List Aj) (a:Int),(∀ b ∈ l,Hq b = true) → 0 ≤ a → a * (10:Int) ^ l.length ≤ l.foldl (fun a b=>10 * a + ((b.toNat:Int) - 48)) a
 | [],a,_,_=>by simp
 | b :: l,a,h,h0=>by
  have g:=JZ.1 (h b (List.mem_cons_self ..))
  have f:=Xy l (10 * a + ((b.toNat:Int) - 48)) (fun x e=>h x (List.mem_cons_of_mem _ e)) (by omega)
  rw [List.foldl_cons,List.length_cons]
  refine Int.le_trans ?_ f
  rw [Int.pow_succ,Int.mul_comm ((10:Int) ^ l.length) 10,← Int.mul_assoc,Int.mul_comm a 10]
  exact Int.mul_le_mul_of_nonneg_right (by omega) (Int.pow_nonneg (by omega))
def Pj (l:List Aj):Ag Int:=if BJ (Lc l) 0 99999 = true then some (Lc l) else none
theorem Xe {l:List Aj} (h:BJ (Lc l) 0 99999 = true):LZ l = (Lc l,true) ∧ Lc l ≤ 99999:=by
 have e:=D9.1 h
 refine ⟨?_,e.2⟩
 unfold LZ
 unfold Lc at e ⊢
 split at e
 ·omega
 ·rename_i f
  rw [not_or,not_or] at f
  split at e
  ·rename_i g
   rw [if_neg (by rw [not_or,not_or]; exact ⟨f.1,by omega,f.2.2⟩),if_pos g,if_neg (by rw [not_or,not_or]; exact f),if_pos g]
  ·omega
theorem Wg {l:List Aj} (h:BJ (Lc l) 0 99999 = false):(LZ l).2 = false ∨ 99999 < (LZ l).1:=by
 unfold LZ
 split
 ·exact .inl rfl
 ·rename_i g
  rw [not_or,not_or] at g
  split
  ·rename_i v
   right
   show 99999 < OO l
   have m:∀ b ∈ l,Hq b = true:=List.all_eq_true.1 v
   by_cases s:6 < l.length
   ·cases l with
    | nil=>exact absurd rfl g.1
    | cons b t =>
     have hb:=JZ.1 (m b (List.mem_cons_self ..))
     have ad:b ≠ 48:=fun e=>g.2.2 ⟨by omega,by rw [e]; rfl⟩
     have ag:49 ≤ b.toNat:=by
      rcases Nat.lt_or_ge b.toNat 49 with f | f
      ·exact absurd (UInt8.toNat_inj.1 (show b.toNat = (48:Aj).toNat by show b.toNat = 48; omega)) ad
      ·exact f
     have hl:=Xy t (10 * 0 + ((b.toNat:Int) - 48)) (fun x hx=>m x (List.mem_cons_of_mem _ hx)) (by omega)
     unfold OO
     rw [List.foldl_cons]
     refine Int.lt_of_lt_of_le ?_ hl
     have hp:(10:Int) ^ 6 ≤ (10:Int) ^ t.length:=by
      have h2:(10:Nat) ^ 6 ≤ 10 ^ t.length:=Nat.pow_le_pow_right (by omega) (by simp at s; omega)
      have u:=Int.ofNat_le.2 h2
      rw [Int.natCast_pow,Int.natCast_pow] at u
      exact u
     have e6:(10:Int) ^ 6 = 1000000:=by decide
     have hm:1 * (10:Int) ^ t.length ≤ (10 * 0 + ((b.toNat:Int) - 48)) * (10:Int) ^ t.length:=Int.mul_le_mul_of_nonneg_right (by omega) (by omega)
     omega
   ·have e:Lc l = OO l:=by
     unfold Lc
     rw [if_neg (by rw [not_or,not_or]; exact ⟨g.1,s,g.2.2⟩),if_pos v]
    have h0:=(YR l 0 m (by omega)).1
    rw [e] at h
    rcases Int.lt_or_le 99999 (OO l) with f | f
    ·exact f
    ·rw [show BJ (OO l) 0 99999 = true from D9.2 ⟨h0,f⟩] at h; cases h
  ·exact .inl rfl
def IM {α β:Type} (g:α → Ag β):List α → Ag (List β)
 | []=>some []
 | x :: t=>(g x).bind fun y=>(IM g t).map (y :: ·)
theorem Wn {α β:Type} {g:α → Ag β}:∀ {l:List α} {m:List β},IM g l = some m → m.length = l.length
 | [],m,h=>by cases h; rfl
 | x :: t,m,h=>by
  rw [IM,Option.bind_eq_some_iff] at h
  obtain ⟨y,_,h⟩:=h
  rw [Option.map_eq_some_iff] at h
  obtain ⟨f,e,rfl⟩:=h
  simp [Wn e]
theorem Wm {α β:Type} {g:α → Ag β} {p:β → Prop} (f:∀ x y,g x = some y → p y):∀ {l:List α} {m:List β},IM g l = some m → ∀ y ∈ m,p y
 | [],m,h,y,e=>by cases h; cases e
 | x :: t,m,h,y,e=>by
  rw [IM,Option.bind_eq_some_iff] at h
  obtain ⟨z,s,h⟩:=h
  rw [Option.map_eq_some_iff] at h
  obtain ⟨v,u,rfl⟩:=h
  rcases List.mem_cons.1 e with rfl | e
  ·exact f _ _ s
  ·exact Wm f u y e
theorem V5 {α β R:Type} (f:Nat → List β → Int → Ag R) (l:List α) (g:α → Ag β) (rest:List β → Ag R) (u:Ag R) (hn:l.length < 4611686018427387904)
  (hs:∀ (m k:Nat) e x,l[k]? = some x → e.length = k → f (m + 1) e (k:Int) = match g x with
   | none=>u
   | some y=>f m (e ++ [y]) ((k + 1:Nat):Int))
  (he:∀ m e,e.length = l.length → f (m + 1) e (l.length:Int) = rest e):f FU [] 0 = match IM g l with
   | none=>u
   | some s=>rest s:=by
 have aa:∀ d k m e,l.length - k = d → k ≤ l.length → d < m → e.length = k → f m e (k:Int) = match IM g (l.drop k) with
   | none=>u
   | some s=>rest (e ++ s):=by
  intro d
  induction d with
  | zero =>
   intro k m e hd hk hm h
   have:k = l.length:=by omega
   subst this
   cases m with
   | zero=>omega
   | succ m=>rw [he m e h,List.drop_length,IM]; simp
  | succ d ih =>
   intro k m e hd hk hm h
   have v:k < l.length:=by omega
   cases m with
   | zero=>omega
   | succ m =>
    rw [hs m k e l[k] (Cp v) h,List.drop_eq_getElem_cons v,IM]
    cases hg:g l[k] with
    | none=>rfl
    | some y =>
     dsimp only
     rw [ih (k + 1) m _ (by omega) (by omega) (by omega) (by simp [h]),Aa]
     cases IM g (l.drop (k + 1)) with
     | none=>rfl
     | some s=>simp
 have:=aa l.length 0 FU [] rfl (by omega) (DH hn) rfl
 simpa using this
def OW (w:List Aj):Int:=(G9 w).getD 0
theorem Acq {R:Type} {c:Prop} [Decidable c] {a b:Ag R} (e:∃ n,a = some n) (f:∃ n,b = some n):∃ n,(if c then a else b) = some n:=by
 split
 ·exact e
 ·exact f
theorem Acp {A R:Type} {rest:A → Ag R} {e:(A → Ag R) → Ag R} (h:∀ y,∃ n,rest y = some n) (f:∀ k,(∀ y,∃ n,k y = some n) → ∃ n,e k = some n):∃ n,Bk rest e = some n:=f rest h
theorem Tq (w:List Aj):G9 w = some (OW w):=by
 have:∃ n,G9 w = some n:=by
  unfold G9
  repeat' first
   | refine Acq ?_ ?_
   | exact e _
   | refine Acp (fun y=>?_) (fun k e=>?_)
   | exact ⟨_,rfl⟩
 obtain ⟨n,h⟩:=this
 unfold OW
 rw [h]
 rfl
theorem TA (w:List Aj):Jt w = some (OW w):=Tq w
def SH:List Aj:=[115,112,111,116]
def Q1:List Aj:=[112,108,97,99,101]
def Pe:List Aj:=[109,105,114,114,111,114]
def SJ:List Aj:=[107,101,101,112]
def Pf:List Aj:=[99,111,117,110,116,115]
def NG:List Aj:=[109,101,97,115,117,114,101]
def Q4:List Aj:=[99,97,114,114,121]
def NE:List Aj:=[118,101,114,115,105,111,110]
def VD:List Aj:=[115,117,109]
def Q3:List Aj:=[99,108,111,115,101]
def SI:List Aj:=[107,105,110,100]
def Q2:List Aj:=[108,101,97,115,116]
def SF:List Aj:=[116,105,109,101]
def VC:List Aj:=[119,104,111]
def Qz:List Aj:=[115,116,97,116,101]
def SG:List Aj:=[116,101,120,116]
def NF:List Aj:=[115,111,117,110,100]
def IR:List (List Aj):=[SH,Q1,Pe,SJ,Pf]
def OX:List (List Aj):=[NG,Q4,NE]
def LG:List (List Aj):=[VD,Q3,SI,Q2,SF,VC,Qz,SG,NF]
theorem ZN {w:List Aj} (h:OW w ≠ -1):w ∈ IR ++ OX ++ LG:=by
 refine Classical.byContradiction fun f=>h ?_
 simp only [IR,OX,LG,SH,Q1,Pe,SJ,Pf,NG,Q4,NE,VD,Q3,SI,Q2,SF,VC,Qz,SG,NF,List.cons_append,List.nil_append,List.mem_cons,List.not_mem_nil,or_false,not_or] at f
 obtain ⟨h1,m,h3,h4,s,u,h7,h8,h9,ab,v,g,ac,aj,ag,ai,l⟩:=f
 have e {a:List Aj} (h:¬ w = a):(w == a) = false:=beq_eq_false_iff_ne.2 h
 unfold OW G9 Bk
 rw [e h1,e m,e h3,e h4,e s,e u,e h7,e h8,e h9,e ab,e v,e g,e ac,e aj,e ag,e ai,e l]
 rfl
theorem I4 {l:List (Int × Int)}:Cu l = true ↔ (1 ≤ l.length ∧ l.length ≤ 12) ∧ (∀ s ∈ l,CX s = true) ∧ l.Nodup:=by
 unfold Cu
 rw [Cf,D9,List.all_eq_true]
 constructor
 ·rintro ⟨h1,f⟩
  refine ⟨by omega,fun s hs=>?_,?_⟩
  ·obtain ⟨k,g⟩:=List.getElem?_of_mem hs
   have:=f k (List.mem_range.2 (List.getElem?_eq_some_iff.1 g).1)
   rw [NY g,Cf] at this
   exact this.1
  ·rw [List.nodup_iff_pairwise_ne,List.pairwise_iff_getElem]
   intro i j hi v ad e
   have:=f j (List.mem_range.2 v)
   rw [NY (Cp v),Cf,List.all_eq_true] at this
   have h:=this.2 l[i] (List.mem_take_iff_getElem.2 ⟨i,by omega,rfl⟩)
   simp [e] at h
 ·rintro ⟨h1,f,h⟩
  refine ⟨by omega,fun k g=>?_⟩
  have m:=List.mem_range.1 g
  rw [NY (Cp m),Cf,List.all_eq_true]
  refine ⟨f _ (List.getElem_mem m),fun u hu=>?_⟩
  obtain ⟨i,hi,rfl⟩:=List.mem_take_iff_getElem.1 hu
  rw [List.nodup_iff_pairwise_ne,List.pairwise_iff_getElem] at h
  have:=h i k (by omega) m (by omega)
  simpa using fun e=>this e.symm
theorem Dc {l:List (Int × Int)} (h:Cu l = true):1 ≤ l.length ∧ l.length ≤ 12:=(I4.1 h).1
def Ps (l:List (Int × Int)):List (Int × Int) × Bool:=if Cu l = true then (l,true) else ([],false)
theorem UJ (l:List (Int × Int)) (e:l.length < 4611686018427387904):Hc l = some (Ps l):=by
 unfold Hc Ps
 rw [Jy l e,Aa]
 cases Cu l <;> rfl
theorem RT (l:List (Int × Int)) (e:l.length < 4611686018427387904):Gi l = some (Ps l):=by
 unfold Gi Ps
 rw [GO l e,Aa]
 cases Cu l <;> rfl
def MZ (s:Int × Int):Int × Int:=(1280 - s.1,s.2)
theorem Acb {l:List (Int × Int)} (h:Cu l = true):Cu (l.map MZ) = true:=by
 obtain ⟨h1,g,f⟩:=I4.1 h
 refine I4.2 ⟨by simpa using h1,fun s m=>?_,?_⟩
 ·obtain ⟨u,v,rfl⟩:=List.mem_map.1 m
  have:=FM.1 (g u v)
  exact FM.2 ⟨by unfold MZ; dsimp only; omega,this.2⟩
 ·rw [List.nodup_iff_pairwise_ne,List.pairwise_map]
  rw [List.nodup_iff_pairwise_ne] at f
  refine f.imp fun {a b} hab e=>hab ?_
  obtain ⟨a1,a2⟩:=a
  obtain ⟨b1,b2⟩:=b
  simp only [MZ,Prod.mk.injEq] at e ⊢
  omega
theorem Sg {l:List (Int × Int)} (h:Cu l = true):HE l = some (l.map MZ,true):=by
 obtain ⟨h1,f,v⟩:=I4.1 h
 unfold HE
 rw [Jy l (by omega),Aa,h,if_neg (by simp)]
 rw [V5 (DL l) l (fun s=>if CX s = true then some (MZ s) else none) (fun m=>some (m,true)) none (by omega) (fun m k ab x g u=>?_) (fun m ab u=>?_)]
 ·have:IM (fun s=>if CX s = true then some (MZ s) else none) l = some (l.map MZ):=by
   clear h h1 v
   induction l with
   | nil=>rfl
   | cons a t ih=>rw [IM,if_pos (f a (List.mem_cons_self ..)),Aa,ih (fun s e=>f s (List.mem_cons_of_mem _ e))]; rfl
  rw [this]
 ·have hk:=(List.getElem?_eq_some_iff.1 g).1
  have e:=f x (List.mem_of_getElem? g)
  have ac:=FM.1 e
  rw [DL,if_pos (by simp; omega),AY,g,Aa,if_pos e]
  unfold KC
  rw [Aa,Bt (by simp; omega),Aa,AD (by omega),A6 (by omega) (by omega)]
  rfl
 ·rw [DL,if_neg (by simp)]
theorem So {l:List (Int × Int)} (h:Cu l = true):HJ l = some (l.map MZ,true):=by
 obtain ⟨h1,f,v⟩:=I4.1 h
 unfold HJ
 rw [GO l (by omega),Aa,h,if_neg (by simp)]
 rw [V5 (DS l) l (fun s=>if CX s = true then some (MZ s) else none) (fun m=>some (m,true)) none (by omega) (fun m k ab x g u=>?_) (fun m ab u=>?_)]
 ·have:IM (fun s=>if CX s = true then some (MZ s) else none) l = some (l.map MZ):=by
   clear h h1 v
   induction l with
   | nil=>rfl
   | cons a t ih=>rw [IM,if_pos (f a (List.mem_cons_self ..)),Aa,ih (fun s e=>f s (List.mem_cons_of_mem _ e))]; rfl
  rw [this]
 ·have hk:=(List.getElem?_eq_some_iff.1 g).1
  have e:=f x (List.mem_of_getElem? g)
  have ac:=FM.1 e
  rw [DS,if_pos (by simp; omega),AY,g,Aa,if_pos e]
  rw [Bt (by simp; omega),Aa,AD (by omega),A6 (by omega) (by omega)]
  rfl
 ·rw [DS,if_neg (by simp)]
def Lu (l:List (Int × Int)) (p:Int) (s:Int × Int):List (Int × Int) × Bool:=if BJ p 0 ((l.length:Int) - 1) = true then Ps (BF l p s) else ([],false)
theorem Qn {l:List (Int × Int)} (h:Cu l = true) (p:Int) (s:Int × Int):GC l p s = some (Lu l p s):=by
 have m:=Dc h
 unfold GC Mn Bk Gm Lu
 dsimp only
 rw [Jy l (by omega),h,Aa,if_pos rfl,CU,A6 (by omega) (by omega),Aa,Aa]
 cases f:BJ p 0 ((l.length:Int) - 1) with
 | false=>rfl
 | true =>
  have g:=D9.1 f
  have e:p.toNat < l.length:=by omega
  rw [if_neg (by simp),Bt (by simp; omega),Aa,Aa,List.nil_append,It g.1,Cp e,Aa,UJ _ (by unfold BF; simp; omega),Aa,if_pos rfl]
theorem Abj {l:List (Int × Int)} {p:Int} {s:Int × Int} (e:p.toNat < l.length) (f:CX s = false):Ps (BF l p s) = ([],false):=by
 unfold Ps BF
 rw [if_neg]
 intro h
 have:=(I4.1 h).2.1 s (List.mem_iff_getElem.2 ⟨p.toNat,by simpa using e,by simp⟩)
 rw [f] at this
 cases this
theorem Qo {l:List (Int × Int)} (h:Cu l = true) (p:Int) (s:Int × Int):GD l p s = some (Lu l p s):=by
 have u:=Dc h
 unfold GD Bk Lu
 dsimp only
 rw [GO l (by omega),h,Aa,if_neg (by simp),CT,A6 (by omega) (by omega),Aa,Lw]
 cases g:BJ p 0 ((l.length:Int) - 1) with
 | false=>rfl
 | true =>
  have f:=D9.1 g
  have e:p.toNat < l.length:=by omega
  rw [if_neg (by simp),Aa,if_pos rfl]
  cases m:CX s with
  | false=>rw [Abj e m]; rfl
  | true=>rw [if_neg (by simp),Bt (by simp; omega),Aa,List.nil_append,It f.1,Cp e,Aa,RT _ (by unfold BF; simp; omega),Aa]
theorem EN {x:Int} (h1:0 ≤ x) (e:x < 18446744073709551616):Bg x = x:=by
 unfold Bg IntKind.wrap
 simp only [IntKind.bits,IntKind.signed]
 simp only [ge_iff_le,Bool.false_and,Bool.false_eq_true,if_false]
 omega
theorem Zr (x:Int):Bg x = x % 18446744073709551616:=by
 unfold Bg IntKind.wrap
 simp only [IntKind.bits,IntKind.signed]
 simp only [ge_iff_le,Bool.false_and,Bool.false_eq_true,if_false]
 omega
theorem ST (n:Nat):Bq .u64 (n:Int) 32 = ((n / 4294967296:Nat):Int):=by
 unfold Bq
 have e:(2:Int) ^ (min (32:Int).toNat IntKind.u64.bits) = 4294967296:=by decide
 rw [e,Int.fdiv_eq_ediv_of_nonneg _ (by decide)]
 omega
theorem Yl (n:Nat) (h:n < 18446744073709551616):B4 .u64 (n:Int) 4294967295 = ((n % 4294967296:Nat):Int):=by
 have f:BitVec.ofInt 64 (n:Int) = BitVec.ofNat 64 n:=BitVec.ofInt_natCast ..
 have g:BitVec.ofInt 64 4294967295 = BitVec.ofNat 64 4294967295:=rfl
 have e:(BitVec.ofNat 64 n &&& BitVec.ofNat 64 4294967295).toNat = n % 4294967296:=by
  rw [BitVec.toNat_and,BitVec.toNat_ofNat,BitVec.toNat_ofNat,Nat.mod_eq_of_lt (show n < 2 ^ 64 by omega),Nat.mod_eq_of_lt (show 4294967295 < 2 ^ 64 by omega)]
  exact Nat.and_two_pow_sub_one_eq_mod n 32
 show Bg ((BitVec.ofInt 64 (n:Int) &&& BitVec.ofInt 64 4294967295).toNat:Int) = _
 rw [f,g,e,EN (by omega) (by omega)]
theorem Tu (x y:Nat) (f:x < 18446744073709551616) (e:y < 18446744073709551616):JQ (x:Int) (y:Int) = some (((x * y / 18446744073709551616:Nat):Int),((x * y % 18446744073709551616:Nat):Int)):=by
 obtain ⟨h1,g,s,v⟩:=Go.Lib.mul64_hi x y f e
 have h:x * y / 18446744073709551616 < 18446744073709551616:=by
  have:x * y < 18446744073709551616 * 18446744073709551616:=Nat.mul_lt_mul'' f e
  omega
 unfold JQ
 rw [ST,ST,Yl x f,Yl y e]
 simp only [← Int.natCast_mul,EN (x:=((x % 4294967296 * (y % 4294967296):Nat):Int)) (by omega) (by omega),ST]
 have l:=Go.Lib.half_mul_le (a:=x / 4294967296) (b:=y / 4294967296) (by omega) (by omega)
 have m:=Go.Lib.half_mul_le (a:=x / 4294967296) (b:=y % 4294967296) (by omega) (by omega)
 have u:=Go.Lib.half_mul_le (a:=x % 4294967296) (b:=y / 4294967296) (by omega) (by omega)
 rw [Zr ((x * y:Nat):Int)]
 generalize (x / 4294967296) * (y / 4294967296) = A at *
 generalize (x / 4294967296) * (y % 4294967296) = B at *
 generalize (x % 4294967296) * (y / 4294967296) = C at *
 generalize (x % 4294967296) * (y % 4294967296) = D at *
 rw [EN (x:=(A:Int)) (by omega) (by omega),EN (x:=(B:Int)) (by omega) (by omega),EN (x:=(C:Int)) (by omega) (by omega)]
 simp only [← Int.natCast_add]
 rw [EN (x:=((B + D / 4294967296:Nat):Int)) (by omega) (by omega),ST,Yl _ g]
 simp only [← Int.natCast_add]
 rw [EN (x:=(((B + D / 4294967296) % 4294967296 + C:Nat):Int)) (by omega) (by omega),ST,EN (x:=((A + (B + D / 4294967296) / 4294967296:Nat):Int)) (by omega) (by omega)]
 simp only [← Int.natCast_add]
 rw [EN (by omega) (by omega)]
 congr 2
 omega
theorem Acu (P Q:Nat):(if decide (((P / 18446744073709551616:Nat):Int) < ((Q / 18446744073709551616:Nat):Int)) = true then some true
  else if (((P / 18446744073709551616:Nat):Int) == ((Q / 18446744073709551616:Nat):Int)) = true then some (decide (((P % 18446744073709551616:Nat):Int) < ((Q % 18446744073709551616:Nat):Int))) else some false) = some (decide ((P:Int) < (Q:Int))):=by
 by_cases h1:P / 18446744073709551616 < Q / 18446744073709551616
 ·rw [if_pos (by simp; omega)]
  congr 1
  symm
  simp
  omega
 ·rw [if_neg (by simp; omega)]
  by_cases e:P / 18446744073709551616 = Q / 18446744073709551616
  ·rw [if_pos (by simp; omega)]
   congr 1
   rw [Bool.eq_iff_iff]
   simp
   omega
  ·rw [if_neg (by simp; omega)]
   congr 1
   symm
   simp
   omega
def Rw (a b c d:Int):Bool:=decide (a * d < c * b)
theorem R5 (a b c d:Int) (e:0 ≤ a) (l:a < 18446744073709551616) (f:0 ≤ b) (s:b < 18446744073709551616) (h:0 ≤ c) (u:c < 18446744073709551616) (g:0 ≤ d) (m:d < 18446744073709551616) :
  Fo a b c d = some (Rw a b c d):=by
 obtain ⟨a,rfl⟩:=Int.eq_ofNat_of_zero_le e
 obtain ⟨b,rfl⟩:=Int.eq_ofNat_of_zero_le f
 obtain ⟨c,rfl⟩:=Int.eq_ofNat_of_zero_le h
 obtain ⟨d,rfl⟩:=Int.eq_ofNat_of_zero_le g
 unfold Fo Bk Rw
 rw [EN e l,EN g m,EN h u,EN f s,Tu a d (by omega) (by omega),Aa,Tu c b (by omega) (by omega),Aa]
 simp only [← Int.natCast_mul]
 exact Acu _ _
theorem Xb (a b c d:Int) (e:0 ≤ a) (aw:a ≤ 4000000000000000000) (g:0 < b) (aj:b ≤ 3000000000) (l:0 ≤ c) (ax:c ≤ 4000000000000000000) (f:0 < d) (ai:d ≤ 3000000000) :
  Kn a b c d = some (Rw a b c d):=by
 have u:¬ b = 0:=by omega
 have m:¬ d = 0:=by omega
 unfold Kn Rw
 rw [if_neg u,if_neg m,if_neg u,if_neg m,if_neg u,if_neg m,Int.tdiv_eq_ediv_of_nonneg e,Int.tdiv_eq_ediv_of_nonneg l,Int.tmod_eq_emod_of_nonneg e,Int.tmod_eq_emod_of_nonneg l]
 have e1:=Int.emod_add_mul_ediv a b
 have e2:=Int.emod_add_mul_ediv c d
 have r1:=Int.emod_nonneg a u
 have r2:=Int.emod_lt_of_pos a g
 have r3:=Int.emod_nonneg c m
 have r4:=Int.emod_lt_of_pos c f
 have q1:=Int.ediv_nonneg e (Int.le_of_lt g)
 have q2:=Int.ediv_nonneg l (Int.le_of_lt f)
 have q3:a / b ≤ a:=Int.ediv_le_self _ e
 have q4:c / d ≤ c:=Int.ediv_le_self _ l
 generalize a / b = p at *
 generalize c / d = q at *
 generalize a % b = r at *
 generalize c % d = s at *
 have hP:0 < b * d:=Int.mul_pos g f
 have ar:b * d ≤ 3000000000 * 3000000000:=Int.mul_le_mul aj ai (by omega) (by omega)
 have f1:a * d = r * d + b * d * p:=by rw [← e1,Int.add_mul,Int.mul_assoc,Int.mul_assoc,Int.mul_comm p d]
 have f2:c * b = s * b + b * d * q:=by rw [← e2,Int.add_mul,Int.mul_comm b d,Int.mul_assoc,Int.mul_assoc,Int.mul_comm q b]
 have g1:0 ≤ r * d:=Int.mul_nonneg r1 (by omega)
 have g2:r * d < b * d:=Int.mul_lt_mul_of_pos_right r2 f
 have g3:0 ≤ s * b:=Int.mul_nonneg r3 (by omega)
 have g4:s * b < d * b:=Int.mul_lt_mul_of_pos_right r4 g
 rw [Int.mul_comm d b] at g4
 have v:∀ x y:Int,x + 1 ≤ y → b * d * x + b * d ≤ b * d * y:=fun x y h=>by
  have:=Int.mul_le_mul_of_nonneg_left h (Int.le_of_lt hP)
  rwa [Int.mul_add,Int.mul_one] at this
 rw [A6 (x:=p) (by omega) (by omega),A6 (x:=q) (by omega) (by omega),A6 (x:=r * d) (by omega) (by omega),A6 (x:=s * b) (by omega) (by omega)]
 by_cases h1:p = q
 ·subst h1
  rw [if_neg (by simp)]
  congr 1
  rw [Bool.eq_iff_iff]
  simp
  omega
 ·rw [if_pos (by simpa using h1)]
  congr 1
  rw [Bool.eq_iff_iff]
  simp
  rcases Int.lt_or_gt_of_ne h1 with h2 | h2
  ·have:=v p q (by omega)
   omega
  ·have:=v q p (by omega)
   omega
def Dh (n s:Nat):Nat:=(List.range n).foldl (fun a k=>a + (s.testBit k).toNat) 0
theorem Ik (n s:Nat):Dh (n + 1) s = Dh n s + (s.testBit n).toNat:=by
 unfold Dh
 rw [List.range_succ,List.foldl_append]
 rfl
theorem UP (n:Nat):Dh n 0 = 0:=by
 induction n with
 | zero=>rfl
 | succ n e=>rw [Ik,e]; simp
theorem LN (n s:Nat):Dh n s ≤ n:=by
 induction n with
 | zero=>exact Nat.le_refl _
 | succ n e =>
  rw [Ik]
  have:(s.testBit n).toNat ≤ 1:=by cases s.testBit n <;> simp
  omega
theorem VH (s k i:Nat):(s ^^^ 2 ^ k).testBit i = (s.testBit i ^^ decide (k = i)):=by
 rw [Nat.testBit_xor,Nat.testBit_two_pow]
theorem YG {n s t:Nat} (h:∀ i,i < n → s.testBit i = t.testBit i):Dh n s = Dh n t:=by
 induction n with
 | zero=>rfl
 | succ n e=>rw [Ik,Ik,e (fun i f=>h i (by omega)),h n (by omega)]
theorem NO {n s k:Nat} (l:k < n) (h:s.testBit k = true):Dh n (s ^^^ 2 ^ k) + 1 = Dh n s:=by
 induction n with
 | zero=>omega
 | succ n f =>
  rw [Ik,Ik,VH]
  by_cases e:k = n
  ·subst e
   rw [h,YG (t:=s) (fun i g=>by rw [VH,decide_eq_false (by omega)]; simp)]
   simp
  ·have:=f (by omega)
   simp [e]
   omega
theorem Ls:∀ {k s:Nat},s.testBit k = true → s ^^^ 2 ^ k < s
 | 0,s,h=>by
  have h1:=Nat.xor_div_two (a:=s) (b:=2 ^ 0)
  have f:s % 2 = 1:=by simpa [Nat.testBit_zero] using h
  have e:¬ ((s ^^^ 2 ^ 0) % 2 = 1):=by rw [Nat.xor_mod_two_eq_one,f]; simp
  simp only [Nat.pow_zero] at h1 e ⊢
  rw [show (1:Nat) / 2 = 0 by rfl,Nat.xor_zero] at h1
  omega
 | k + 1,s,h=>by
  rw [Nat.testBit_succ] at h
  have g:=Ls h
  have h1:=Nat.xor_div_two (a:=s) (b:=2 ^ (k + 1))
  rw [show 2 ^ (k + 1) / 2 = 2 ^ k by rw [Nat.pow_succ]; omega] at h1
  omega
theorem Nz {n s:Nat} (f:s < 2 ^ n) (g:0 < s):∃ k,k < n ∧ s.testBit k = true:=by
 obtain ⟨k,e⟩:=Nat.exists_testBit_of_ne_zero (by omega:s ≠ 0)
 refine ⟨k,?_,e⟩
 rcases Nat.lt_or_ge k n with h | h
 ·exact h
 ·have:=Nat.testBit_lt_two_pow (Nat.lt_of_lt_of_le f (Nat.pow_le_pow_right (by omega) h))
  rw [e] at this
  cases this
theorem Aa7 {n s:Nat} (f:s < 2 ^ n) (h:0 < Dh n s):0 < s:=by
 rcases Nat.eq_zero_or_pos s with e | e
 ·rw [e,UP] at h; omega
 ·exact e
theorem Pr {n s i:Nat} (f:s < 2 ^ n) (e:i < n):(2 ^ n - 1 - s).testBit i = !s.testBit i:=by
 rw [show 2 ^ n - 1 - s = 2 ^ n - (s + 1) by omega,Nat.testBit_two_pow_sub_succ f]
 simp [e]
theorem Ul {n s:Nat} (e:s < 2 ^ n):∀ m,m ≤ n → Dh m (2 ^ n - 1 - s) + Dh m s = m
 | 0,_=>rfl
 | m + 1,h=>by
  have:=Ul e m (by omega)
  rw [Ik,Ik,Pr e (by omega)]
  cases s.testBit m <;> simp <;> omega
theorem W6 {n s k:Nat} (g:s < 2 ^ n) (l:k < n) (h:s.testBit k = true):(2 ^ n - 1 - s) ||| 2 ^ k = 2 ^ n - 1 - (s ^^^ 2 ^ k):=by
 have m:=Ls h
 apply Nat.eq_of_testBit_eq
 intro i
 rw [Nat.testBit_or,Nat.testBit_two_pow]
 rcases Nat.lt_or_ge i n with f | f
 ·rw [Pr g f,Pr (by omega) f,VH]
  by_cases e:k = i
  ·subst e; simp [h]
  ·simp [e]
 ·have p:=Nat.pow_le_pow_right (n:=2) (by omega) f
  rw [Nat.testBit_lt_two_pow (by omega:2 ^ n - 1 - s < 2 ^ i),Nat.testBit_lt_two_pow (by omega:2 ^ n - 1 - (s ^^^ 2 ^ k) < 2 ^ i)]
  simp
  omega
def mf (g:Nat → Bool) (v:Nat → Int) (a:Int) (n:Nat):Int:=(List.range n).foldl (fun a k=>if g k then min a (v k) else a) a
theorem N8 (g:Nat → Bool) (v:Nat → Int) (a:Int) (n:Nat):mf g v a (n + 1) = if g n then min (mf g v a n) (v n) else mf g v a n:=by
 unfold mf
 rw [List.range_succ,List.foldl_append]
 rfl
theorem Rv (g:Nat → Bool) (v:Nat → Int) (a:Int):∀ (n k:Nat),k < n → g k = true → mf g v a n ≤ v k
 | n + 1,k,hk,hg=>by
  rw [N8]
  by_cases e:k = n
  ·subst e; rw [if_pos hg]; omega
  ·have:=Rv g v a n k (by omega) hg
   split <;> omega
theorem Tg (g:Nat → Bool) (v:Nat → Int) (a:Int):∀ (n:Nat),mf g v a n = a ∨ ∃ k,k < n ∧ g k = true ∧ mf g v a n = v k
 | 0=>.inl rfl
 | n + 1=>by
  rw [N8]
  have m:=Tg g v a n
  by_cases e:g n = true
  ·rw [if_pos e]
   rcases Int.le_total (mf g v a n) (v n) with h | h
   ·rw [Int.min_eq_left h]
    exact m.imp id fun ⟨k,h1,l,f⟩=>⟨k,by omega,l,f⟩
   ·rw [Int.min_eq_right h]
    exact .inr ⟨n,by omega,e,rfl⟩
  ·rw [if_neg e]
   exact m.imp id fun ⟨k,h1,l,f⟩=>⟨k,by omega,l,f⟩
theorem Acc {g:Nat → Bool} {v:Nat → Int} {a b:Int} {n k:Nat} (e:k < n) (f:g k = true) (ha:v k < a) (hb:v k < b):mf g v a n = mf g v b n:=by
 have h1:=Rv g v a n k e f
 have h2:=Rv g v b n k e f
 rcases Tg g v a n with h | ⟨i,s,aa,h⟩
 ·omega
 ·rcases Tg g v b n with l | ⟨j,u,m,l⟩
  ·omega
  ·have h3:=Rv g v a n j u m
   have h4:=Rv g v b n i s aa
   omega
theorem Wl {g l:Nat → Bool} {v f:Nat → Int} {a:Int}:∀ {n:Nat},(∀ k,k < n → g k = l k ∧ (g k = true → v k = f k)) → mf g v a n = mf l f a n
 | 0,_=>rfl
 | n + 1,h=>by
  have h1:=h n (by omega)
  rw [N8,N8,Wl (fun k m=>h k (by omega)),← h1.1]
  by_cases e:g n = true
  ·rw [if_pos e,if_pos e,h1.2 e]
  ·rw [if_neg e,if_neg e]
def Ve:Int:=1000000000
def Qb (n:Nat) (c:Nat → Nat → Int):Nat → List Int
 | 0=>[0]
 | m + 1=>Qb n c m ++ [mf (m + 1).testBit (fun k=>c (n - Dh n (m + 1)) k + (Qb n c m).getD ((m + 1) ^^^ 2 ^ k) 0) Ve n]
def VV (n:Nat) (c:Nat → Nat → Int) (s:Nat):Int:=(Qb n c s).getD s 0
theorem HK (n:Nat) (c:Nat → Nat → Int):∀ m,(Qb n c m).length = m + 1
 | 0=>rfl
 | m + 1=>by rw [Qb,CD,HK n c m]; rfl
theorem Rq (n:Nat) (c:Nat → Nat → Int) {s:Nat}:∀ {m:Nat},s ≤ m → (Qb n c m)[s]? = some (VV n c s)
 | 0,h=>by
  have:s = 0:=by omega
  subst this; rfl
 | m + 1,h=>by
  by_cases e:s = m + 1
  ·subst e
   have f:=HK n c (m + 1)
   unfold VV
   rw [List.getD_eq_getElem?_getD,Cp (by omega)]
   rfl
  ·rw [Qb,List.getElem?_append_left (by rw [HK]; omega)]
   exact Rq n c (by omega)
theorem R3 (n:Nat) (c:Nat → Nat → Int):VV n c 0 = 0:=rfl
theorem V7 (n:Nat) (c:Nat → Nat → Int) {s:Nat} (h:0 < s):VV n c s = mf s.testBit (fun k=>c (n - Dh n s) k + VV n c (s ^^^ 2 ^ k)) Ve n:=by
 cases s with
 | zero=>omega
 | succ m =>
  conv=>lhs; unfold VV
  rw [Qb,List.getD_eq_getElem?_getD,List.getElem?_append_right (by rw [HK]; omega),HK]
  simp only [Nat.sub_self,List.getElem?_cons_zero,Option.getD_some]
  refine Wl fun k f=>⟨rfl,fun e=>?_⟩
  have:=Ls e
  rw [List.getD_eq_getElem?_getD,Rq n c (by omega)]
  rfl
theorem XB {n:Nat} (hn:n ≤ 12) {c:Nat → Nat → Int} (hc:∀ i k,i < n → k < n → 0 ≤ c i k ∧ c i k ≤ 2100000):∀ (d s:Nat),s ≤ d → s < 2 ^ n → (0 ≤ VV n c s ∧ VV n c s ≤ 2100000 * (Dh n s:Int)) ∧ (0 < s → ∃ k,k < n ∧ s.testBit k = true ∧ c (n - Dh n s) k + VV n c (s ^^^ 2 ^ k) = VV n c s):=by
 intro d
 induction d with
 | zero =>
  intro s h u
  have:s = 0:=by omega
  subst this
  exact ⟨⟨by rw [R3]; omega,by rw [R3]; omega⟩,fun h=>by omega⟩
 | succ d ih =>
  intro s h u
  by_cases l:0 < s
  ·obtain ⟨k,f,e⟩:=Nz u l
   have am:=LN n s
   have ab:∀ k,k < n → s.testBit k = true → (0 ≤ c (n - Dh n s) k + VV n c (s ^^^ 2 ^ k)) ∧ c (n - Dh n s) k + VV n c (s ^^^ 2 ^ k) ≤ 2100000 * (Dh n s:Int):=by
    intro k f e
    have hx:=Ls e
    have hp:=NO f e
    have h1:=(ih (s ^^^ 2 ^ k) (by omega) (by omega)).1
    have h2:=hc (n - Dh n s) k (by omega) f
    omega
   have ac:=Rv s.testBit (fun k=>c (n - Dh n s) k + VV n c (s ^^^ 2 ^ k)) Ve n k f e
   rw [← V7 n c l] at ac
   have ht:=ab k f e
   have aa:=Tg s.testBit (fun k=>c (n - Dh n s) k + VV n c (s ^^^ 2 ^ k)) Ve n
   rw [← V7 n c l] at aa
   rcases aa with g | ⟨j,m,v,g⟩
   ·unfold Ve at g; omega
   ·have al:=ab j m v
    exact ⟨by omega,fun _=>⟨j,m,v,g.symm⟩⟩
  ·have:s = 0:=by omega
   subst this
   exact ⟨⟨by rw [R3]; omega,by rw [R3]; omega⟩,fun h=>by omega⟩
theorem V8 {n:Nat} (f:n ≤ 12) {c:Nat → Nat → Int} (e:∀ i k,i < n → k < n → 0 ≤ c i k ∧ c i k ≤ 2100000) {s:Nat} (g:s < 2 ^ n):0 ≤ VV n c s ∧ VV n c s ≤ 25200000:=by
 have h1:=(XB f e s s (Nat.le_refl _) g).1
 have h:=LN n s
 omega
def Kz (n:Nat) (c:Nat → Nat → Int) (m:Nat):List Int:=List.replicate (2 ^ n - 1 - m) 0 ++ (Qb n c m).reverse
theorem PQ (n:Nat) (c:Nat → Nat → Int) {m:Nat} (h:m < 2 ^ n):(Kz n c m).length = 2 ^ n:=by
 unfold Kz
 rw [CD,List.length_replicate,List.length_reverse,HK]
 omega
theorem MC (n:Nat) (c:Nat → Nat → Int) {m s:Nat} (h:m < 2 ^ n) (e:s ≤ m):(Kz n c m)[2 ^ n - 1 - s]? = some (VV n c s):=by
 unfold Kz
 rw [List.getElem?_append_right (by simp; omega),List.length_replicate,List.getElem?_reverse (by rw [HK]; omega),HK,show m + 1 - 1 - (2 ^ n - 1 - s - (2 ^ n - 1 - m)) = s by omega]
 exact Rq n c e
theorem Aac (n:Nat) (c:Nat → Nat → Int) {m:Nat} (h:m + 1 < 2 ^ n):(Kz n c m).set (2 ^ n - 1 - (m + 1)) (VV n c (m + 1)) = Kz n c (m + 1):=by
 apply List.ext_getElem?
 intro i
 have l:=PQ n c (m:=m) (by omega)
 have s:=PQ n c h
 rcases Nat.lt_trichotomy i (2 ^ n - 1 - (m + 1)) with g | g | g
 ·rw [List.getElem?_set_ne (by omega)]
  unfold Kz
  rw [List.getElem?_append_left (by simp; omega),List.getElem?_append_left (by simp; omega)]
  rw [List.getElem?_replicate,List.getElem?_replicate,if_pos (by omega),if_pos (by omega)]
 ·subst g
  rw [List.getElem?_set_self (by omega),MC n c h (Nat.le_refl _)]
 ·rw [List.getElem?_set_ne (by omega)]
  rcases Nat.lt_or_ge i (2 ^ n) with f | f
  ·have e:i = 2 ^ n - 1 - (2 ^ n - 1 - i):=by omega
   rw [e,MC n c (by omega) (by omega),MC n c h (by omega)]
  ·rw [List.getElem?_eq_none (by rw [l]; exact f),List.getElem?_eq_none (by rw [s]; exact f)]
theorem Tt (n:Nat):BitVec.ofInt 64 (n:Int) = BitVec.ofNat 64 n:=BitVec.ofInt_natCast ..
theorem Zl (k:Nat):((2:Int) ^ k) = ((2 ^ k:Nat):Int):=by rw [Int.natCast_pow]; rfl
theorem Lx {k:Nat} (h:k ≤ 30):Ky .i64 1 (k:Int) = ((2 ^ k:Nat):Int):=by
 have e:2 ^ k ≤ 2 ^ 30:=Nat.pow_le_pow_right (by omega) h
 show Af (1 * 2 ^ (min ((k:Int).toNat) 64)) = _
 rw [Int.toNat_natCast,Nat.min_eq_left (by omega),Int.one_mul,Zl]
 generalize 2 ^ k = P at e ⊢
 exact A6 (by omega) (by omega)
theorem Acv {s k:Nat} (h:k ≤ 30):Bq .i64 (s:Int) (k:Int) = ((s / 2 ^ k:Nat):Int):=by
 show Int.fdiv (s:Int) (2 ^ (min ((k:Int).toNat) 64)) = _
 rw [Int.toNat_natCast,Nat.min_eq_left (by omega),Zl,Int.fdiv_eq_ediv_of_nonneg _ (Int.natCast_nonneg _)]
 rfl
theorem Abd {x:Nat} (h:x < 4611686018427387904):B4 .i64 (x:Int) 1 = ((x % 2:Nat):Int):=by
 have e:(BitVec.ofNat 64 x &&& BitVec.ofNat 64 1).toNat = x % 2:=by
  rw [BitVec.toNat_and,BitVec.toNat_ofNat,BitVec.toNat_ofNat,Nat.mod_eq_of_lt (show x < 2 ^ 64 by omega),Nat.mod_eq_of_lt (show 1 < 2 ^ 64 by omega)]
  exact Nat.and_two_pow_sub_one_eq_mod x 1
 show Af ((BitVec.ofInt 64 (x:Int) &&& BitVec.ofInt 64 1).toNat:Int) = _
 rw [Tt,show BitVec.ofInt 64 1 = BitVec.ofNat 64 1 by rfl,e,A6 (by omega) (by omega)]
theorem Yj {x y:Nat} (g:x < 1073741824) (f:y < 1073741824):Td .i64 (x:Int) (y:Int) = ((x ||| y:Nat):Int):=by
 have e:x ||| y < 2 ^ 30:=Nat.or_lt_two_pow (by omega) (by omega)
 show Af ((BitVec.ofInt 64 (x:Int) ||| BitVec.ofInt 64 (y:Int)).toNat:Int) = _
 rw [Tt,Tt,BitVec.toNat_or,BitVec.toNat_ofNat,BitVec.toNat_ofNat,Nat.mod_eq_of_lt (show x < 2 ^ 64 by omega),Nat.mod_eq_of_lt (show y < 2 ^ 64 by omega),A6 (by omega) (by omega)]
theorem WB {x y:Nat} (g:x < 1073741824) (f:y < 1073741824):Sb .i64 (x:Int) (y:Int) = ((x ^^^ y:Nat):Int):=by
 have e:x ^^^ y < 2 ^ 30:=Nat.xor_lt_two_pow (by omega) (by omega)
 show Af ((BitVec.ofInt 64 (x:Int) ^^^ BitVec.ofInt 64 (y:Int)).toNat:Int) = _
 rw [Tt,Tt,BitVec.toNat_xor,BitVec.toNat_ofNat,BitVec.toNat_ofNat,Nat.mod_eq_of_lt (show x < 2 ^ 64 by omega),Nat.mod_eq_of_lt (show y < 2 ^ 64 by omega),A6 (by omega) (by omega)]
theorem WC {s k:Nat} (f:s < 1073741824) (h:k ≤ 30):B4 .i64 (Bq .i64 (s:Int) (k:Int)) 1 = (((s.testBit k).toNat:Nat):Int):=by
 have:s / 2 ^ k ≤ s:=Nat.div_le_self _ _
 rw [Acv h,Abd (by omega),Nat.testBit_eq_decide_div_mod_eq]
 have:s / 2 ^ k % 2 < 2:=Nat.mod_lt _ (by omega)
 by_cases e:s / 2 ^ k % 2 = 1
 ·simp [e]
 ·have:s / 2 ^ k % 2 = 0:=by omega
  simp [this]
theorem Up {s k:Nat} (e:s < 1073741824) (h:k ≤ 30):(B4 .i64 (Bq .i64 (s:Int) (k:Int)) 1 == 1) = s.testBit k:=by
 rw [WC e h]; cases s.testBit k <;> rfl
theorem XA {s k:Nat} (e:s < 1073741824) (h:k ≤ 30):(B4 .i64 (Bq .i64 (s:Int) (k:Int)) 1 == 0) = !s.testBit k:=by
 rw [WC e h]; cases s.testBit k <;> rfl
theorem EF {S R:Type} (f:Nat → S → Int → Ag R) (n:Nat) (e:Nat → S) (rest:Ag R) (hn:n < 4611686018427387904) {j:Nat} (u:j ≤ n)
  (hs:∀ m k,j ≤ k → k < n → f (m + 1) (e k) (k:Int) = f m (e (k + 1)) ((k + 1:Nat):Int)) (v:∀ m,f (m + 1) (e n) (n:Int) = rest):f FU (e j) (j:Int) = rest:=by
 have h:∀ d k m,n - k = d → j ≤ k → k ≤ n → d < m → f m (e k) (k:Int) = rest:=by
  intro d
  induction d with
  | zero =>
   intro k m hd g s l
   have:k = n:=by omega
   subst this
   cases m with
   | zero=>omega
   | succ m=>exact v m
  | succ d ih =>
   intro k m hd g s l
   cases m with
   | zero=>omega
   | succ m=>rw [hs m k g (by omega)]; exact ih (k + 1) m (by omega) (by omega) (by omega) (by omega)
 exact h (n - j) j FU rfl (Nat.le_refl _) u (DH (by omega))
theorem Acd {S R:Type} (f:Nat → S → Int → Ag R) (n:Nat) (g:Nat → Bool) (l:Nat → S) (rest u:Ag R) (hn:n < 4611686018427387904)
  (hs:∀ m k,k < n → (∀ i,i < k → g i = true) → f (m + 1) (l k) (k:Int) = if g k = true then f m (l (k + 1)) ((k + 1:Nat):Int) else u) (he:∀ m,f (m + 1) (l n) (n:Int) = rest):f FU (l 0) 0 = if (List.range n).all g = true then rest else u:=by
 have aa:∀ d k m,n - k = d → k ≤ n → d < m → (∀ i,i < k → g i = true) → f m (l k) (k:Int) = if (List.range n).all g = true then rest else u:=by
  intro d
  induction d with
  | zero =>
   intro k m hd hk hm s
   have:k = n:=by omega
   subst this
   cases m with
   | zero=>omega
   | succ m=>rw [he,if_pos (List.all_eq_true.2 fun i v=>s i (List.mem_range.1 v))]
  | succ d ih =>
   intro k m hd hk hm s
   cases m with
   | zero=>omega
   | succ m =>
    rw [hs m k (by omega) s]
    by_cases h:g k = true
    ·rw [if_pos h]
     exact ih (k + 1) m (by omega) (by omega) (by omega) (fun i v=>by
      by_cases e:i = k
      ·subst e; exact h
      ·exact s i (by omega))
    ·rw [if_neg h,if_neg]
     intro ha
     exact h (List.all_eq_true.1 ha k (List.mem_range.2 (by omega)))
 exact aa n 0 FU rfl (by omega) (DH hn) (fun i v=>by omega)
theorem Th {R:Type} (f:Nat → Int → Ag R) (n:Nat) (p:Nat → Bool) (g:Nat → Ag R) (e:Ag R) (v:n < 4611686018427387904)
  (hs:∀ m k,k < n → f (m + 1) (k:Int) = if p k = true then g k else f m ((k + 1:Nat):Int)) (he:∀ m,f (m + 1) (n:Int) = e):f FU 0 = match (List.range n).find? p with
   | some k=>g k
   | none=>e:=by
 have l:∀ d k m,n - k = d → k ≤ n → d < m → f m (k:Int) = match (List.range' k d).find? p with
   | some k=>g k
   | none=>e:=by
  intro d
  induction d with
  | zero =>
   intro k m s hk hm
   have:k = n:=by omega
   subst this
   cases m with
   | zero=>omega
   | succ m=>rw [he]; rfl
  | succ d ih =>
   intro k m s hk hm
   cases m with
   | zero=>omega
   | succ m =>
    rw [hs m k (by omega),List.range'_succ,List.find?_cons]
    by_cases h:p k = true
    ·rw [if_pos h,h]
    ·have u:p k = false:=by simpa using h
     rw [if_neg h,u]
     exact ih (k + 1) m (by omega) (by omega) (by omega)
 have:=l n 0 FU rfl (by omega) (DH v)
 rw [List.range_eq_range']
 exact this
theorem XN (u:Nat) (h:u < 4096):H6 (u:Int) = some (Dh 12 u:Int):=by
 have:∀ a:Nat,a < 64 → ∀ b:Nat,b < 64 → H6 ((64 * a + b:Nat):Int) = some (Dh 12 (64 * a + b):Int):=by decide +kernel
 have:=this (u / 64) (by omega) (u % 64) (by omega)
 rwa [Nat.div_add_mod] at this
structure CO (x:List (List Int)) (n:Nat) (c:Nat → Nat → Int):Prop where
 len:x.length = n
 row:∀ i,i < n → ∃ r,x[i]? = some r ∧ r.length = n ∧ ∀ k,k < n → r[k]? = some (c i k)
 bd:∀ i k,i < n → k < n → 0 ≤ c i k ∧ c i k ≤ 2100000
 n1:1 ≤ n
 n12:n ≤ 12
theorem Ox {n:Nat} (h:n ≤ 12):1 ≤ 2 ^ n ∧ 2 ^ n ≤ 4096:=⟨Nat.one_le_two_pow,Nat.pow_le_pow_right (n:=2) (by omega) h⟩
def J7 (n:Nat) (c:Nat → Nat → Int) (m:Nat):List Int:=Qb n c m ++ List.replicate (2 ^ n - 1 - m) 0
theorem NR (n:Nat) (c:Nat → Nat → Int) {m:Nat} (h:m < 2 ^ n):(J7 n c m).length = 2 ^ n:=by
 unfold J7
 rw [CD,List.length_replicate,HK]
 omega
theorem L7 (n:Nat) (c:Nat → Nat → Int) {m s:Nat} (e:s ≤ m):(J7 n c m)[s]? = some (VV n c s):=by
 unfold J7
 rw [List.getElem?_append_left (by rw [HK]; omega)]
 exact Rq n c e
theorem ZI (n:Nat) (c:Nat → Nat → Int) {m:Nat} (h:m + 1 < 2 ^ n):(J7 n c m).set (m + 1) (VV n c (m + 1)) = J7 n c (m + 1):=by
 apply List.ext_getElem?
 intro i
 have g:=NR n c (m:=m) (by omega)
 have l:=NR n c h
 rcases Nat.lt_trichotomy i (m + 1) with f | f | f
 ·rw [List.getElem?_set_ne (by omega),L7 n c (by omega),L7 n c (by omega)]
 ·subst f
  rw [List.getElem?_set_self (by omega),L7 n c (Nat.le_refl _)]
 ·rw [List.getElem?_set_ne (by omega)]
  unfold J7
  rw [List.getElem?_append_right (by rw [HK]; omega),List.getElem?_append_right (by rw [HK]; omega),HK,HK,List.getElem?_replicate,List.getElem?_replicate]
  by_cases e:i - (m + 1) < 2 ^ n - 1 - m
  ·rw [if_pos e,if_pos (by omega)]
  ·rw [if_neg e,if_neg (by omega)]
theorem JY (a b:Int):EQ a b = some (min a b):=by
 unfold EQ
 by_cases h:a < b
 ·rw [if_pos (by simpa using h),Int.min_eq_left (by omega)]
 ·rw [if_neg (by simpa using h),Int.min_eq_right (by omega)]
theorem Aa9 (a b:Int):Fn a b = min a b:=by
 unfold Fn
 by_cases h:b < a
 ·rw [if_pos h,Int.min_eq_right (by omega)]
 ·rw [if_neg h,Int.min_eq_left (by omega)]
theorem Y1 (x:List (List Int)) {n:Nat} (f:x.length = n) (hn:n ≤ 12) {s:Nat} (u:s < 1073741824) (l:List Int) (e:List Int → Int → Ag (List Int)) :
  Ev x (s:Int) l e FU 0 0 = Option.bind (AM l (s:Int)) fun v=>Option.bind (AM x ((n:Int) - (Dh n s:Int))) fun g=>D2 g (s:Int) e FU (BF l (s:Int) 1000000000) 0:=by
 have:=EF (Ev x (s:Int) l e) n (fun k=>(Dh k s:Int)) (Option.bind (AM l (s:Int)) fun v=>Option.bind (AM x ((n:Int) - (Dh n s:Int))) fun g=>D2 g (s:Int) e FU (BF l (s:Int) 1000000000) 0) (by omega) (j:=0) (by omega) (fun m k _ hk=>?_) (fun m=>?_)
 ·simpa [Dh] using this
 ·have h:=LN k s
  rw [Ev,if_pos (by rw [f]; simp; omega),EN (by omega) (by omega),if_pos (by simp),WC u (by omega),AD (by omega),Ik]
  have hb:(s.testBit k).toNat ≤ 1:=by cases s.testBit k <;> simp
  rw [A6 (by omega) (by omega)]
  rfl
 ·have h:=LN n s
  rw [Ev,if_neg (by rw [f]; simp),f,A6 (by omega) (by omega)]
theorem Aaz {x:List (List Int)} {n:Nat} {c:Nat → Nat → Int} (h:CO x n c) {m:Nat} (v:m + 1 < 2 ^ n) {r:List Int} (u:r.length = n) (hc:∀ k,k < n → r[k]? = some (c (n - Dh n (m + 1)) k)) (g:List Int → Int → Ag (List Int)) :
  D2 r ((m + 1:Nat):Int) g FU (BF (J7 n c m) ((m + 1:Nat):Int) 1000000000) 0 = g (J7 n c (m + 1)) ((m + 2:Nat):Int):=by
 have ab:=Ox h.n12
 have hn:=h.n12
 have hp:0 < Dh n (m + 1):=by
  obtain ⟨k,f,l⟩:=Nz v (by omega)
  have:=NO f l
  omega
 have ak:=LN n (m + 1)
 have ad:=NR n c (m:=m) (by omega)
 have aa:=EF (D2 r ((m + 1:Nat):Int) g) n (fun k=>(J7 n c m).set (m + 1) (mf (m + 1).testBit (fun k=>c (n - Dh n (m + 1)) k + VV n c ((m + 1) ^^^ 2 ^ k)) Ve k)) (g (J7 n c (m + 1)) ((m + 2:Nat):Int)) (by omega) (j:=0) (by omega) (fun q k _ f=>?_) (fun q=>?_)
 ·rw [JV]
  exact aa
 ·have l:=h.bd (n - Dh n (m + 1)) k (by omega) f
  rw [D2,if_pos (by rw [u]; simp; omega)]
  unfold Bk
  dsimp only
  rw [AY,hc k f,Aa,EN (by omega) (by omega),if_pos (by simp),Up (by omega) (by omega),N8]
  by_cases e:(m + 1).testBit k = true
  ·have hx:=Ls e
   have hv:=V8 h.n12 h.bd (s:=(m + 1) ^^^ 2 ^ k) (by omega)
   have ae:2 ^ k ≤ 4096:=Ay (Nat.pow_le_pow_right (by omega) (by omega:k ≤ n)) ab.2
   rw [if_pos e,AY,List.getElem?_set_self (by omega),Aa,Lx (by omega),WB (by omega) (by omega),AY,List.getElem?_set_ne (by omega),L7 n c (by omega),Aa,A6 (x:=c _ k + _) (by omega) (by omega),JY,Aa,Aa,JV,List.set_set,AD (by omega),if_pos e]
  ·rw [if_neg e,if_neg e,AD (by omega)]
 ·rw [D2,if_neg (by rw [u]; simp),← V7 n c (by omega),ZI n c v,A6 (by omega) (by omega)]
  rfl
theorem VK {x:List (List Int)} {n:Nat} {c:Nat → Nat → Int} (h:CO x n c):JB x = some (J7 n c (2 ^ n - 1)):=by
 have ad:=Ox h.n12
 have hn:=h.n12
 unfold JB
 rw [h.len,EN (by omega) (by omega),if_pos (by simp),Lx (by omega),N7 (by omega),Aa]
 have e0:List.replicate (2 ^ n) (0:Int) = J7 n c 0:=by
  unfold J7 Qb
  rw [show 2 ^ n = (2 ^ n - 1 - 0) + 1 by omega,List.replicate_succ]
  simp
 have g:=EF (EY x) (2 ^ n) (fun s=>J7 n c (s - 1)) (some (J7 n c (2 ^ n - 1))) (by omega) (j:=1) (by omega) (fun q s ah e=>?_) (fun q=>?_)
 ·rw [e0]; exact g
 ·rw [EY,h.len,EN (by omega) (by omega),Lx (by omega),if_pos (decide_eq_true (Int.ofNat_lt.2 e)),Y1 x h.len h.n12 (by omega)]
  obtain ⟨m,rfl⟩:∃ m,s = m + 1:=⟨s - 1,by omega⟩
  have hp:0 < Dh n (m + 1):=by
   obtain ⟨k,u,v⟩:=Nz e (by omega)
   have:=NO u v
   omega
  have ai:=LN n (m + 1)
  have ac:=NR n c (m:=m) (by omega)
  obtain ⟨r,hr,l,f⟩:=h.row (n - Dh n (m + 1)) (by omega)
  rw [Nat.add_sub_cancel,Jl (by omega),Aa,show (n:Int) - (Dh n (m + 1):Int) = ((n - Dh n (m + 1):Nat):Int) by omega,AY,hr,Aa,Aaz h e l f]
  rfl
 ·rw [EY,h.len,EN (by omega) (by omega),Lx (by omega),if_neg (by simp)]
theorem Xw {n s:Nat} (e:s < 2 ^ n):∀ m,Dh (n + m) s = Dh n s
 | 0=>rfl
 | m + 1=>by
  rw [← Nat.add_assoc,Ik,Xw e m,Nat.testBit_lt_two_pow (Nat.lt_of_lt_of_le e (Nat.pow_le_pow_right (by omega) (by omega)))]
  rfl
theorem ZJ {n s:Nat} (e:n ≤ 12) (f:s < 2 ^ n):H6 ((2 ^ n - 1 - s:Nat):Int) = some ((n - Dh n s:Nat):Int):=by
 have g:=Ox e
 rw [XN _ (by omega)]
 have h1:=Xw (n:=n) (s:=2 ^ n - 1 - s) (by omega) (12 - n)
 rw [show n + (12 - n) = 12 by omega] at h1
 have h:=Ul f n (Nat.le_refl _)
 rw [h1,show Dh n (2 ^ n - 1 - s) = n - Dh n s by omega]
theorem Abe {x:List (List Int)} {n:Nat} {c:Nat → Nat → Int} (h:CO x n c) {s:Nat} (h0:0 < s) (u:s < 2 ^ n) (g:List Int → Int → Ag (List Int)) :
  DG x ((2 ^ n - 1 - s:Nat):Int) ((n - Dh n s:Nat):Int) g FU (BF (Kz n c (s - 1)) ((2 ^ n - 1 - s:Nat):Int) 13194139533312) 0 = g (Kz n c s) (Af (((2 ^ n - 1 - s:Nat):Int) - 1)):=by
 have ae:=Ox h.n12
 have hn:=h.n12
 obtain ⟨j,l,v⟩:=Nz u h0
 have hp:0 < Dh n s:=by
  have:=NO l v
  omega
 have ap:=LN n s
 have am:=PQ n c (m:=s - 1) (by omega)
 obtain ⟨r,hr,al,ac⟩:=h.row (n - Dh n s) (by omega)
 have aa:∀ k,k < n → s.testBit k = true → 0 ≤ c (n - Dh n s) k + VV n c (s ^^^ 2 ^ k) ∧ c (n - Dh n s) k + VV n c (s ^^^ 2 ^ k) ≤ 27300000:=fun k f e=>by
  have hx:=Ls e
  have hb:=h.bd (n - Dh n s) k (by omega) f
  have hv:=V8 h.n12 h.bd (s:=s ^^^ 2 ^ k) (by omega)
  omega
 have ah:=EF (DG x ((2 ^ n - 1 - s:Nat):Int) ((n - Dh n s:Nat):Int) g) n (fun k=>(Kz n c (s - 1)).set (2 ^ n - 1 - s) (mf s.testBit (fun k=>c (n - Dh n s) k + VV n c (s ^^^ 2 ^ k)) 13194139533312 k)) (g (Kz n c s) (Af (((2 ^ n - 1 - s:Nat):Int) - 1))) (by omega) (j:=0) (by omega) (fun q k _ f=>?_) (fun q=>?_)
 ·rw [JV]
  exact ah
 ·have hb:=h.bd (n - Dh n s) k (by omega) f
  have ak:2 ^ k ≤ 4096:=Ay (Nat.pow_le_pow_right (by omega) (by omega:k ≤ n)) ae.2
  rw [DG,if_pos (by rw [h.len]; simp; omega)]
  unfold Bk
  dsimp only
  rw [if_pos (by simp),XA (by omega) (by omega),Pr u f,Bool.not_not,N8]
  by_cases e:s.testBit k = true
  ·have hx:=Ls e
   have hv:=aa k f e
   rw [if_pos e,AY,List.getElem?_set_self (by omega),Aa,AY,hr,Aa,AY,ac k f,Aa,Lx (by omega),Yj (by omega) (by omega),W6 u f e,AY,List.getElem?_set_ne (by omega),MC n c (by omega) (by omega),Aa,Aa,JV,List.set_set,AD (by omega),if_pos e,A6 (by omega) (by omega),Aa9]
  ·rw [if_neg e,if_neg e,AD (by omega)]
 ·have e:=aa j l v
  rw [DG,if_neg (by rw [h.len]; simp),Acc (b:=Ve) l v (by omega) (by unfold Ve; omega),← V7 n c h0]
  have:=Aac n c (m:=s - 1) (by omega)
  rw [show s - 1 + 1 = s by omega] at this
  rw [this]
theorem TU {x:List (List Int)} {n:Nat} {c:Nat → Nat → Int} (h:CO x n c):IE x = some (Kz n c (2 ^ n - 1)):=by
 have aa:=Ox h.n12
 have hn:=h.n12
 have u:=h.n1
 have ac:2 ≤ 2 ^ n:=Ay (by decide:2 ≤ 2 ^ 1) (Nat.pow_le_pow_right (by omega) u)
 unfold IE
 rw [h.len,if_pos (by simp),Lx (by omega),N7 (by omega),Aa]
 have g:List.replicate (2 ^ n) (0:Int) = Kz n c 0:=by
  unfold Kz Qb
  rw [show [(0:Int)].reverse = List.replicate 1 0 by rfl,List.replicate_append_replicate,show 2 ^ n - 1 - 0 + 1 = 2 ^ n by omega]
 have f:=EF (fun m l (k:Int)=>Et x m l (((2 ^ n - 1:Nat):Int) - k)) (2 ^ n) (fun s=>Kz n c (s - 1)) (some (Kz n c (2 ^ n - 1))) (by omega) (j:=1) (by omega) (fun q s ad e=>?_) (fun q=>?_)
 ·rw [g,A6 (by omega) (by omega),show ((2 ^ n:Nat):Int) - 2 = ((2 ^ n - 1:Nat):Int) - ((1:Nat):Int) by omega]
  exact f
 ·have ae:=LN n s
  have v:=PQ n c (m:=s - 1) (by omega)
  rw [show ((2 ^ n - 1:Nat):Int) - (s:Int) = ((2 ^ n - 1 - s:Nat):Int) by omega,Et,if_pos (by simp),EN (by omega) (by omega),ZJ h.n12 e,Aa,Jl (by omega),Aa,Abe h (by omega) e,A6 (by omega) (by omega),show ((2 ^ n - 1 - s:Nat):Int) - 1 = ((2 ^ n - 1:Nat):Int) - ((s + 1:Nat):Int) by omega]
  rfl
 ·rw [Et,if_neg (by rw [C9]; omega)]
def Pn (n:Nat) (c:Nat → Nat → Int) (r s k:Nat):Bool:=s.testBit k && decide (c r k + VV n c (s ^^^ 2 ^ k) = VV n c s)
def Pm (n:Nat) (c:Nat → Nat → Int) (r s:Nat):Nat:=((List.range n).find? (Pn n c r s)).getD 0
def EL (n:Nat) (c:Nat → Nat → Int):Nat → Nat
 | 0=>2 ^ n - 1
 | r + 1=>EL n c r ^^^ 2 ^ Pm n c r (EL n c r)
def KK (n:Nat) (c:Nat → Nat → Int) (r:Nat):List Int:=(List.range r).map fun i=>(Pm n c i (EL n c i):Int)
theorem UR (n:Nat) (c:Nat → Nat → Int) (r:Nat):KK n c (r + 1) = KK n c r ++ [(Pm n c r (EL n c r):Int)]:=by
 unfold KK
 rw [List.range_succ,List.map_append]
 rfl
theorem NQ (n:Nat) (c:Nat → Nat → Int) (r:Nat):(KK n c r).length = r:=by unfold KK; simp
theorem ZR (n:Nat):Dh n (2 ^ n - 1) = n:=by
 have h1:=Ul (n:=n) (s:=0) (Nat.two_pow_pos n) n (Nat.le_refl _)
 rw [UP] at h1
 simpa using h1
theorem UK {x:List (List Int)} {n:Nat} {c:Nat → Nat → Int} (h:CO x n c):∀ r,r ≤ n → (EL n c r < 2 ^ n ∧ Dh n (EL n c r) = n - r) ∧ (r < n → (List.range n).find? (Pn n c r (EL n c r)) = some (Pm n c r (EL n c r)) ∧ Pm n c r (EL n c r) < n ∧ (EL n c r).testBit (Pm n c r (EL n c r)) = true):=by
 have al:=Ox h.n12
 have m:∀ r s,r < n → s < 2 ^ n → Dh n s = n - r → (List.range n).find? (Pn n c r s) = some (Pm n c r s) ∧ Pm n c r s < n ∧ s.testBit (Pm n c r s) = true:=by
  intro r s g v f
  have h0:=Aa7 v (by omega)
  obtain ⟨k,hk,hb,u⟩:=(XB h.n12 h.bd s s (Nat.le_refl _) v).2 h0
  rw [f,show n - (n - r) = r by omega] at u
  cases l:(List.range n).find? (Pn n c r s) with
  | none =>
   have:=List.find?_eq_none.1 l k (List.mem_range.2 hk)
   unfold Pn at this
   simp [hb,u] at this
  | some j =>
   have f:=List.find?_some l
   have hj:j < n:=List.mem_range.1 (List.mem_of_find?_eq_some l)
   have e:Pm n c r s = j:=by unfold Pm; rw [l]; rfl
   rw [e]
   unfold Pn at f
   rw [Cf] at f
   exact ⟨rfl,hj,f.1⟩
 intro r
 induction r with
 | zero =>
  intro _
  have h1:EL n c 0 < 2 ^ n ∧ Dh n (EL n c 0) = n - 0:=⟨by unfold EL; omega,ZR n⟩
  exact ⟨h1,fun g=>m 0 _ g h1.1 h1.2⟩
 | succ r ih =>
  intro g
  obtain ⟨⟨i1,i2⟩,i3⟩:=ih (by omega)
  obtain ⟨_,i4,i5⟩:=i3 (by omega)
  have h1:EL n c (r + 1) < 2 ^ n ∧ Dh n (EL n c (r + 1)) = n - (r + 1):=by
   have hx:=Ls i5
   have f:=NO i4 i5
   refine ⟨by unfold EL; omega,by unfold EL; omega⟩
  exact ⟨h1,fun g=>m (r + 1) _ g h1.1 h1.2⟩
theorem Ze (p:Nat → Bool) (k:Nat):(List.range (k + 1)).find? p = match (List.range k).find? p with
  | some j=>some j
  | none=>if p k = true then some k else none:=by
 rw [List.range_succ,List.find?_append]
 cases (List.range k).find? p with
 | some j=>rfl
 | none =>
  rw [Option.none_or,List.find?_cons]
  cases p k <;> rfl
def TX (o:Ag Nat):Int:=match o with
 | some j=>(j:Int)
 | none=>-1
theorem VL {x:List (List Int)} {n:Nat} {c:Nat → Nat → Int} (h:CO x n c):JC x = some (KK n c n,VV n c (2 ^ n - 1)):=by
 have l:=Ox h.n12
 have hn:=h.n12
 have ab:=NR n c (m:=2 ^ n - 1) (by omega)
 unfold JC
 rw [VK h,Aa,ab,A6 (by omega) (by omega),show ((2 ^ n:Nat):Int) - 1 = ((2 ^ n - 1:Nat):Int) by omega]
 have ah:=EF (fun m (s:Int × List Int) k=>DU x (J7 n c (2 ^ n - 1)) m s.1 s.2 k) n (fun r=>((EL n c r:Int),KK n c r)) (some (KK n c n,VV n c (2 ^ n - 1))) (by omega) (j:=0) (by omega) (fun q r _ g=>?_) (fun q=>?_)
 ·exact ah
 ·dsimp only
  obtain ⟨aa,ae,u,ac⟩:=h.row r g
  obtain ⟨⟨i1,i2⟩,i3⟩:=UK h r (by omega)
  obtain ⟨i6,i4,i5⟩:=i3 g
  rw [DU,if_pos (by rw [h.len]; simp; omega),AY,ae,Aa]
  have II:=EF (EZ aa (EL n c r:Int) (J7 n c (2 ^ n - 1)) (KK n c r) (DU x (J7 n c (2 ^ n - 1)) q) (r:Int)) n (fun k=>TX ((List.range k).find? (Pn n c r (EL n c r)))) (DU x (J7 n c (2 ^ n - 1)) q (EL n c (r + 1):Int) (KK n c (r + 1)) ((r + 1:Nat):Int)) (by omega) (j:=0) (by omega) (fun q k _ v=>?_) (fun q=>?_)
  ·exact II
  ·have hb:=h.bd r k g v
   rw [EZ,if_pos (by rw [u]; simp; omega)]
   unfold Bk
   dsimp only
   rw [AY,ac k v,Aa,Ze]
   cases hf:(List.range k).find? (Pn n c r (EL n c r)) with
   | some j =>
    unfold TX
    dsimp only
    rw [if_neg (by simp),if_neg (by simp),AD (by omega)]
   | none =>
    unfold TX
    dsimp only
    have ai:2 ^ k ≤ 4096:=Ay (Nat.pow_le_pow_right (by omega) (by omega:k ≤ n)) l.2
    rw [if_pos (by simp),EN (by omega) (by omega),if_pos (by simp),Up (by omega) (by omega)]
    by_cases e:(EL n c r).testBit k = true
    ·have hx:=Ls e
     have hv:=V8 h.n12 h.bd (s:=EL n c r ^^^ 2 ^ k) (by omega)
     rw [if_pos e,AY,L7 n c (by omega),Aa,Lx (by omega),WB (by omega) (by omega),AY,L7 n c (by omega),Aa,A6 (by omega) (by omega),AD (by omega)]
     unfold Pn
     rw [e,Bool.true_and]
     by_cases f:c r k + VV n c (EL n c r ^^^ 2 ^ k) = VV n c (EL n c r)
     ·rw [if_pos (by simpa using f),if_pos (by simpa using f)]
     ·rw [if_neg (by simpa using f),if_neg (by simpa using f)]
    ·rw [if_neg e,if_neg (by simp),AD (by omega),if_neg]
     unfold Pn
     simp [e]
  ·have ai:2 ^ Pm n c r (EL n c r) ≤ 4096:=Ay (Nat.pow_le_pow_right (by omega) (by omega:Pm n c r (EL n c r) ≤ n)) l.2
   rw [EZ,if_neg (by rw [u]; simp),i6]
   unfold TX
   dsimp only
   rw [Bt (by rw [NQ]; simp; omega),Aa,EN (by omega) (by omega),if_pos (by simp),Lx (by omega),WB (by omega) (by omega),AD (by omega),UR]
   rfl
 ·dsimp only
  rw [DU,if_neg (by rw [h.len]; simp),ab,A6 (by omega) (by omega),show ((2 ^ n:Nat):Int) - 1 = ((2 ^ n - 1:Nat):Int) by omega,AY,L7 n c (by omega),Aa]
theorem QJ {x:List (List Int)} {n:Nat} {c:Nat → Nat → Int} (h:CO x n c):GS x = some (KK n c n):=by
 have ad:=Ox h.n12
 have hn:=h.n12
 unfold GS
 rw [TU h,Aa]
 have aa:=EF (fun m (s:Int × List Int) k=>Dz x (Kz n c (2 ^ n - 1)) m s.1 s.2 k) n (fun r=>(((2 ^ n - 1 - EL n c r:Nat):Int),KK n c r)) (some (KK n c n)) (by omega) (j:=0) (by omega) (fun q r _ v=>?_) (fun q=>?_)
 ·have e:((2 ^ n - 1 - EL n c 0:Nat):Int) = 0:=by unfold EL; omega
  dsimp only at aa
  rw [e] at aa
  exact aa
 ·dsimp only
  obtain ⟨aj,ag,an,ab⟩:=h.row r v
  obtain ⟨⟨l,i2⟩,i3⟩:=UK h r (by omega)
  obtain ⟨i6,i4,i5⟩:=i3 v
  rw [Dz,if_pos (by rw [h.len]; simp; omega)]
  unfold Fz
  dsimp only
  have II:=fun (u:Int → List Int → Ag (List Int))=>Th (Dy x (KK n c r) u ((2 ^ n - 1 - EL n c r:Nat):Int) (r:Int) (Kz n c (2 ^ n - 1))) n (Pn n c r (EL n c r)) (fun k=>u (((2 ^ n - 1 - EL n c r:Nat) ||| 2 ^ k:Nat):Int) (KK n c r ++ [(k:Int)])) (u ((2 ^ n - 1 - EL n c r:Nat):Int) (KK n c r)) (by omega) (fun q k g=>?_) (fun q=>?_)
  ·rw [II,i6]
   dsimp only
   rw [W6 l i4 i5,AD (by omega),UR]
   rfl
  ·have hb:=h.bd r k v g
   have al:2 ^ k ≤ 4096:=Ay (Nat.pow_le_pow_right (by omega) (by omega:k ≤ n)) ad.2
   rw [Dy,if_pos (by rw [h.len]; simp; omega)]
   unfold Bk
   dsimp only
   rw [if_pos (by simp),XA (by omega) (by omega),Pr l g,Bool.not_not]
   by_cases f:(EL n c r).testBit k = true
   ·have hx:=Ls f
    have hv:=V8 h.n12 h.bd (s:=EL n c r ^^^ 2 ^ k) (by omega)
    rw [if_pos f,AY,ag,Aa,AY,ab k g,Aa,AY,MC n c (by omega) (by omega),Aa,Lx (by omega),Yj (by omega) (by omega),W6 l g f,AY,MC n c (by omega) (by omega),Aa,A6 (by omega) (by omega),AD (by omega),Bt (by rw [NQ]; simp; omega),Aa,if_pos (c:=decide (0 ≤ (k:Int)) = true) (by simp)]
    unfold Pn
    rw [f,Bool.true_and]
    rfl
   ·rw [if_neg f,if_neg (by simp),AD (by omega),if_neg]
    unfold Pn
    simp [f]
  ·rw [Dy,if_neg (by rw [h.len]; simp)]
 ·dsimp only
  rw [Dz,if_neg (by rw [h.len]; simp)]
theorem Nv (c:List (Int × Int)) (h:c.length ≤ 1048576):Gm c = some c:=by
 unfold Gm
 rw [WG (by simp; omega)]
 rfl
theorem SQ (c:List Int) (h:c.length ≤ 1048576):JD c = some c:=by
 unfold JD
 rw [WG (by simp; omega)]
 rfl
theorem Na (c:List Int) (h:c.length ≤ 1048576):Ft c = some c:=by
 unfold Ft
 rw [WG (by simp; omega)]
 rfl
def Adj (x:Tx) (p n:Int):Tx:=(x.1,BF x.2.1 p n,x.2.2.1,x.2.2.2)
theorem XJ (l:List Int) (n:Int) (h:l.length < 4611686018427387904):KU l n = some (l.any (· == n)):=by
 unfold KU
 rw [O1 (Ga l n) l (fun u=>!(u == n)) (some false) (some true) h (fun m k u f e=>?_) (fun m=>?_)]
 ·have:l.any (· == n) = !l.all (fun u=>!(u == n)):=by simp [List.any_eq_not_all_not]
  rw [this]
  cases l.all (fun u=>!(u == n)) <;> simp
 ·rw [Ga,if_pos (by simp; omega),AY,e,Aa,AD (by omega)]
  cases u == n <;> simp
 ·rw [Ga,if_neg (by simp)]
abbrev BV:=Aed × Aed × Int × (List Int)
def IK (l:List Int) (i:Nat):Int:=(l[i]?).getD 0
theorem J9 {l:List Int} {i:Nat} (h:i < l.length):l[i]? = some (IK l i):=by unfold IK; rw [Cp h]; rfl
def OS (l:List Int) (n:Nat) (i:Nat):Bool:=BJ (IK l i) 0 ((n:Int) - 1) && !(l.take i).any (· == IK l i)
def Ru (l:List Int) (n:Nat):Bool:=(List.range l.length).all (OS l n) && ((l.length:Int) == (n:Int))
theorem Vi {l:List Int} {n:Nat} (e:l.length < 4611686018427387904) (g:n ≤ 12):Jr l (n:Int) = some (Ru l n):=by
 unfold Jr Ru
 rw [O0 (EA l (n:Int)) l.length (OS l n) (some ((l.length:Int) == (n:Int))) (some false) e (fun m k f=>?_) (fun m=>?_)]
 ·cases (List.range l.length).all (OS l n) <;> simp
 ·rw [EA,if_pos (by simp; omega),AY,J9 f,Aa]
  unfold Bk OS
  dsimp only
  rw [CU,Aa,A6 (by omega) (by omega),LM _ (by omega),Aa,XJ _ _ (by simp; omega),Aa,AD (by omega)]
  cases BJ (IK l k) 0 ((n:Int) - 1) with
  | false=>rfl
  | true=>cases (l.take k).any (· == IK l k) <;> rfl
 ·rw [EA,if_neg (by simp)]
def Q5 (l:List Int) (i:Nat):Nat:=(l.take i).foldl (fun a k=>a ||| 2 ^ k.toNat) 0
theorem UH {l:List Int} {i:Nat} (h:i < l.length):Q5 l (i + 1) = Q5 l i ||| 2 ^ (IK l i).toNat:=by
 unfold Q5
 rw [List.take_add_one,J9 h,List.foldl_append]
 rfl
theorem SL {l:List Int} {n:Nat} (m:n ≤ 12):∀ i,i ≤ l.length → (∀ j,j < i → OS l n j = true) → Q5 l i < 2 ^ 12 ∧ ∀ b:Nat,(Q5 l i).testBit b = (l.take i).any (· == (b:Int))
 | 0,_,_=>⟨by unfold Q5; simp,fun b=>by unfold Q5; simp⟩
 | i + 1,h,hk=>by
  obtain ⟨h1,f⟩:=SL m i (by omega) (fun j s=>hk j (by omega))
  have e:=hk i (by omega)
  unfold OS at e
  rw [Cf,D9] at e
  have g:2 ^ (IK l i).toNat < 2 ^ 12:=Nat.pow_lt_pow_right (by omega) (by omega)
  rw [UH (by omega)]
  refine ⟨Nat.or_lt_two_pow h1 g,fun b=>?_⟩
  rw [Nat.testBit_or,f,Nat.testBit_two_pow,List.take_add_one,J9 (by omega),List.any_append]
  congr 1
  rw [Bool.eq_iff_iff]
  simp
  omega
theorem Tn {l:List Int} {n:Nat} (v:l.length < 4611686018427387904) (s:n ≤ 12):Ih l (n:Int) = some (Ru l n):=by
 unfold Ih Ru
 have:=Acd (Eg l (n:Int)) l.length (OS l n) (fun i=>(Q5 l i:Int)) (some ((l.length:Int) == (n:Int))) (some false) v (fun m k f aa=>?_) (fun m=>?_)
 ·refine Eq.trans this ?_
  cases (List.range l.length).all (OS l n) <;> simp
 ·obtain ⟨h1,h⟩:=SL s k (by omega) aa
  rw [Eg,if_pos (by simp; omega),AY,J9 f,Aa]
  unfold Bk OS
  dsimp only
  rw [CT,Aa,A6 (by omega) (by omega),AD (by omega)]
  cases u:BJ (IK l k) 0 ((n:Int) - 1) with
  | false=>rfl
  | true =>
   have ab:=D9.1 u
   have e:IK l k = ((IK l k).toNat:Int):=by omega
   have hp:2 ^ (IK l k).toNat < 2 ^ 12:=Nat.pow_lt_pow_right (by omega) (by omega)
   have g:=h (IK l k).toNat
   rw [← e] at g
   rw [if_neg (by simp),if_pos (by simpa using ab.1)]
   conv=>lhs; rw [e]
   rw [Up (by omega) (by omega),Lx (by omega),Yj (by omega) (by omega),g,UH f]
   cases (l.take k).any (· == IK l k)
   ·rw [if_neg (by simp),if_pos (decide_eq_true (Int.natCast_nonneg _)),if_pos (by simp)]
   ·simp
 ·rw [Eg,if_neg (by simp)]
def LF (a b:List (Int × Int)) (n:Int):Bool:=Cu a && (Cu b && (((a.length:Int) == (b.length:Int)) && BJ n 1 64))
theorem Pq {a b:List (Int × Int)} {n:Int} (e:a.length < 4611686018427387904) (f:b.length < 4611686018427387904):H4 a b n = some (LF a b n):=by
 unfold H4 Bk LF
 dsimp only
 rw [GO a e,Aa,GO b f,CT,Aa,Aa]
 cases Cu a <;> cases Cu b <;> cases ((a.length:Int) == (b.length:Int)) <;> rfl
theorem RN {a b:List (Int × Int)} (e:a.length < 4611686018427387904) (f:b.length < 4611686018427387904):Jb a b = some (Cu a && (Cu b && ((a.length:Int) == (b.length:Int)))):=by
 unfold Jb Bk
 dsimp only
 rw [Jy a e,Aa,Jy b f,Aa]
 cases Cu a <;> cases Cu b <;> rfl
theorem Q7 {a b:List (Int × Int)} {n:Int} (e:a.length < 4611686018427387904) (f:b.length < 4611686018427387904):Iy a b n = some (LF a b n):=by
 unfold Iy Bk LF
 dsimp only
 rw [RN e f,Aa,CU,Aa]
 cases Cu a <;> cases Cu b <;> cases ((a.length:Int) == (b.length:Int)) <;> rfl
structure Aak (a b:List (Int × Int)) (n:Int):Prop where
 ca:Cu a = true
 cb:Cu b = true
 le:a.length = b.length
 l1:1 ≤ a.length
 l12:a.length ≤ 12
 n1:1 ≤ n
 n64:n ≤ 64
theorem LE {a b:List (Int × Int)} {n:Int}:LF a b n = true ↔ Aak a b n:=by
 unfold LF
 rw [Cf,Cf,Cf,D9,beq_iff_eq]
 constructor
 ·rintro ⟨h1,f,g,e⟩
  have:=Dc h1
  exact ⟨h1,f,by omega,this.1,this.2,e.1,e.2⟩
 ·rintro h
  exact ⟨h.ca,h.cb,by have:=h.le; omega,h.n1,h.n64⟩
def Ln (t:BV):Bool:=LF t.1 t.2.1 t.2.2.1 && Ru t.2.2.2 t.1.length
theorem Lo {t:BV} (h1:t.1.length < 4611686018427387904) (g:t.2.1.length < 4611686018427387904) (e:t.2.2.2.length < 4611686018427387904):Fp t = some (Ln t):=by
 unfold Fp Bk Ln LF
 dsimp only
 rw [GO _ h1,Aa,GO _ g,CT,Aa,Aa]
 cases f:Cu t.1 with
 | false=>rfl
 | true =>
  rw [Tn e (Dc f).2,Aa]
  cases Cu t.2.1 <;> cases ((t.1.length:Int) == (t.2.1.length:Int)) <;> cases BJ t.2.2.1 1 64 <;> rfl
theorem OL {t:BV} (h1:t.1.length < 4611686018427387904) (g:t.2.1.length < 4611686018427387904) (e:t.2.2.2.length < 4611686018427387904):HY t = some (Ln t):=by
 unfold HY Bk Ln LF
 dsimp only
 rw [RN h1 g,Aa,CU,Aa]
 cases f:Cu t.1 with
 | false=>rfl
 | true =>
  rw [Vi e (Dc f).2,Aa]
  cases Cu t.2.1 <;> cases ((t.1.length:Int) == (t.2.1.length:Int)) <;> cases BJ t.2.2.1 1 64 <;> rfl
def Qd:BV:=([],[],0,[])
def QF (n:Nat):List Int:=(List.range n).map fun (i:Nat)=>(i:Int)
def Ek (a b:List (Int × Int)) (n:Int):BV × Bool:=if LF a b n = true then ((a,b,n,QF a.length),true) else (Qd,false)
theorem KO {a b:List (Int × Int)} {n:Int} {p:List Int} (e:a.length ≤ 1000) (g:b.length ≤ 1000) (f:p.length ≤ 1000):EK a b n p = some (a,b,n,p):=by
 unfold EK
 rw [Bt (by simp; omega),Aa,Bt (by simp; omega),Aa,Na _ (by omega),Aa,List.nil_append,List.nil_append]
theorem OK {a b:List (Int × Int)} {n:Int} {p:List Int} (e:a.length ≤ 1000) (g:b.length ≤ 1000) (f:p.length ≤ 1000):HX a b n p = some (a,b,n,p):=by
 unfold HX
 rw [Nv _ (by omega),Aa,Nv _ (by omega),Aa,SQ _ (by omega),Aa]
theorem NP (n:Nat):(QF n).length = n:=by unfold QF; simp
theorem UQ (n:Nat):QF (n + 1) = QF n ++ [(n:Int)]:=by unfold QF; rw [List.range_succ,List.map_append]; rfl
theorem Me {a b:List (Int × Int)} {n:Int} (e:a.length < 4611686018427387904) (h:b.length < 4611686018427387904):ER a b n = some (Ek a b n):=by
 unfold ER Ek
 rw [Pq e h,Aa]
 cases g:LF a b n with
 | false=>rfl
 | true =>
  have f:=LE.1 g
  have:=f.l12
  have:=f.le
  rw [if_neg (by simp),if_pos rfl]
  refine EF (Dg a b n) a.length QF _ (by omega) (j:=0) (by omega) (fun m k _ l=>?_) (fun m=>?_)
  ·rw [Dg,if_pos (by simp; omega),Bt (by simp [NP]; omega),Aa,AD (by omega),UQ]
  ·rw [Dg,if_neg (by simp),KO (by omega) (by omega) (by rw [NP]; omega),Aa]
theorem LT {a b:List (Int × Int)} {n:Int} (e:a.length < 4611686018427387904) (h:b.length < 4611686018427387904):Gn a b n = some (Ek a b n):=by
 unfold Gn Ek
 rw [Q7 e h,Aa]
 cases g:LF a b n with
 | false=>rfl
 | true =>
  have f:=LE.1 g
  have:=f.l12
  have:=f.le
  rw [if_neg (by simp),if_pos rfl]
  refine EF (Df a b n) a.length QF _ (by omega) (j:=0) (by omega) (fun m k _ l=>?_) (fun m=>?_)
  ·rw [Df,if_pos (by simp; omega),Bt (by simp [NP]; omega),Aa,AD (by omega),UQ]
  ·rw [Df,if_neg (by simp),OK (by omega) (by omega) (by rw [NP]; omega),Aa]
structure XC (t:BV):Prop where
 can:Aak t.1 t.2.1 t.2.2.1
 mat:t.2.2.2.length = t.1.length
 inR:∀ i,i < t.1.length → 0 ≤ IK t.2.2.2 i ∧ (IK t.2.2.2 i).toNat < t.2.1.length
theorem NU {t:BV} (h:Ln t = true):XC t:=by
 unfold Ln Ru at h
 rw [Cf,Cf,List.all_eq_true,beq_iff_eq] at h
 obtain ⟨h1,g,m⟩:=h
 have f:=LE.1 h1
 refine ⟨f,by omega,fun i l=>?_⟩
 have e:=g i (List.mem_range.2 (by omega))
 unfold OS at e
 rw [Cf,D9] at e
 have:=f.le
 omega
def DX (l:List (Int × Int)) (i:Nat):Int × Int:=(l[i]?).getD (0,0)
theorem Dr {l:List (Int × Int)} {i:Nat} (h:i < l.length):l[i]? = some (DX l i):=by unfold DX; rw [Cp h]; rfl
theorem I3 {l:List (Int × Int)} (h:Cu l = true) {i:Nat} (e:i < l.length):CX (DX l i) = true:=(I4.1 h).2.1 _ (List.mem_of_getElem? (Dr e))
def Hh (t:BV) (i:Nat):FY:=(DX t.1 i,DX t.2.1 (IK t.2.2.2 i).toNat,t.2.2.1)
def G5 (t:BV):List FY:=(List.range t.1.length).map (Hh t)
theorem DZ (t:BV):(G5 t).length = t.1.length:=by unfold G5; simp
theorem Is (t:BV) {i:Nat} (h:i < t.1.length):(G5 t)[i]? = some (Hh t i):=by unfold G5; simp [h]
theorem Wh (t:BV) (k:Nat):(List.range (k + 1)).map (Hh t) = (List.range k).map (Hh t) ++ [Hh t k]:=by rw [List.range_succ,List.map_append]; rfl
theorem JX {t:BV} (f:XC t) {i:Nat} (h:i < t.1.length):I5 (Hh t i):=⟨I3 f.can.ca h,I3 f.can.cb (f.inR i h).2⟩
theorem Ob {t:BV} (f:XC t):H3 t = some (G5 t):=by
 unfold H3
 have:=f.can.l12
 refine EF (Fk t) t.1.length (fun k=>(List.range k).map (Hh t)) _ (by omega) (j:=0) (by omega) (fun m k _ g=>?_) (fun m=>?_)
 ·have h:=f.mat
  have e:=f.inR k g
  rw [Fk,if_pos (by simp; omega),AY,J9 (by omega),Aa,AY,Dr g,Aa,It e.1,Dr e.2,Aa,Bt (by simp; omega),Aa,AD (by omega),Wh]
  rfl
 ·rw [Fk,if_neg (by rw [f.mat]; simp)]
  rfl
theorem LS {t:BV} (f:XC t):GB t = some (G5 t):=by
 unfold GB
 have:=f.can.l12
 refine EF (Fg t) t.1.length (fun k=>(List.range k).map (Hh t)) _ (by omega) (j:=0) (by omega) (fun m k _ g=>?_) (fun m=>?_)
 ·have h:=f.mat
  have e:=f.inR k g
  rw [Fg,if_pos (by simp; omega),AY,J9 (by omega),Aa,AY,Dr g,Aa,It e.1,Dr e.2,Aa,Bt (by simp; omega),Aa,AD (by omega),Wh]
  rfl
 ·rw [Fg,if_neg (by rw [f.mat]; simp)]
  rfl
theorem LL {a b:Int × Int} (e:CX a = true) (f:CX b = true):GK a b = (a.1 - b.1) * (a.1 - b.1) + (a.2 - b.2) * (a.2 - b.2) ∧ 0 ≤ GK a b ∧ GK a b ≤ 2089984:=by
 have e:=FM.1 e
 have f:=FM.1 f
 have h1:=Mv (x:=a.1 - b.1) (A:=1280) (by omega) (by omega)
 have g:=Mv (x:=a.2 - b.2) (A:=672) (by omega) (by omega)
 unfold GK
 rw [A6 (x:=a.1 - b.1) (by omega) (by omega),A6 (x:=a.2 - b.2) (by omega) (by omega)]
 generalize (a.1 - b.1) * (a.1 - b.1) = A at *
 generalize (a.2 - b.2) * (a.2 - b.2) = B at *
 rw [A6 (x:=A) (by omega) (by omega),A6 (x:=B) (by omega) (by omega),A6 (by omega) (by omega)]
 omega
def NJ (t:BV) (k:Nat):Int:=((List.range k).map fun i=>SN (Hh t i)).sum
theorem Q6 (t:BV) (k:Nat):NJ t (k + 1) = NJ t k + SN (Hh t k):=by unfold NJ; rw [List.range_succ,List.map_append,List.sum_append]; simp
theorem Rr {t:BV} (f:XC t):∀ k,k ≤ t.1.length → 0 ≤ NJ t k ∧ NJ t k ≤ 2089984 * (k:Int)
 | 0,_=>by simp [NJ]
 | k + 1,h=>by
  have e:=Rr f k (by omega)
  have g:=JX f (i:=k) (by omega)
  have:=(LL g.1 g.2).2
  rw [Q6]
  unfold SN
  omega
def M1 (t:BV):Int × Bool:=if Ln t = true then (NJ t t.1.length,true) else (0,false)
theorem TV {t:BV} (h1:t.1.length < 4611686018427387904) (s:t.2.1.length < 4611686018427387904) (v:t.2.2.2.length < 4611686018427387904):H5 t = some (M1 t):=by
 unfold H5 M1
 rw [Lo h1 s v,Aa]
 cases u:Ln t with
 | false=>rfl
 | true =>
  have f:=NU u
  have:=f.can.l12
  have e:IC t = some (NJ t t.1.length):=by
   unfold IC
   refine EF (Er t) t.1.length (NJ t) _ (by omega) (j:=0) (by omega) (fun m k _ h=>?_) (fun m=>?_)
   ·have hm:=f.mat
    have l:=f.inR k h
    have hb:=Rr f k (by omega)
    have g:=JX f h
    have hq:=(LL g.1 g.2).2
    have e:GK (DX t.1 k) (DX t.2.1 (IK t.2.2.2 k).toNat) = SN (Hh t k):=rfl
    rw [Er,if_pos (by simp; omega),AY,J9 (by omega),Aa,AY,Dr h,Aa,It l.1,Dr l.2,Aa,Hi,Aa,AD (by omega),e,A6 (by unfold SN; omega) (by unfold SN; omega),Q6]
   ·rw [Er,if_neg (by rw [f.mat]; simp)]
  rw [if_neg (by simp),e,if_pos rfl]
  rfl
theorem TG {t:BV} (h1:t.1.length < 4611686018427387904) (l:t.2.1.length < 4611686018427387904) (u:t.2.2.2.length < 4611686018427387904):Hz t = some (M1 t):=by
 unfold Hz M1
 rw [OL h1 l u,Aa]
 cases s:Ln t with
 | false=>rfl
 | true =>
  have f:=NU s
  have:=f.can.l12
  have e:KW t = some (NJ t t.1.length):=by
   unfold KW
   rw [LS f,Aa]
   refine EF (Gc (G5 t)) t.1.length (NJ t) _ (by omega) (j:=0) (by omega) (fun m k _ h=>?_) (fun m=>?_)
   ·have v:=Rr f k (by omega)
    have g:=JX f h
    have hq:=(LL g.1 g.2).2
    have e:GK (Hh t k).1 (Hh t k).2.1 = SN (Hh t k):=rfl
    rw [Gc,if_pos (by rw [DZ]; simp; omega),AY,Is t h,Aa,L3,Aa,AD (by omega),e,A6 (by unfold SN; omega) (by unfold SN; omega),Q6]
   ·rw [Gc,if_neg (by rw [DZ]; simp)]
  rw [if_neg (by simp),e,if_pos rfl]
  rfl
def W5 (a b:List (Int × Int)) (i k:Nat):Int:=GK (DX a i) (DX b k)
def Nb (a b:List (Int × Int)) (i:Nat) (n:Nat):List Int:=(List.range n).map (W5 a b i)
def Mg (a b:List (Int × Int)) (n:Nat):List (List Int):=(List.range n).map fun i=>Nb a b i b.length
theorem Va (a b:List (Int × Int)) (i n:Nat):Nb a b i (n + 1) = Nb a b i n ++ [W5 a b i n]:=by unfold Nb; rw [List.range_succ,List.map_append]; rfl
theorem Vb (a b:List (Int × Int)) (n:Nat):Mg a b (n + 1) = Mg a b n ++ [Nb a b n b.length]:=by unfold Mg; rw [List.range_succ,List.map_append]; rfl
theorem TS {a b:List (Int × Int)} (g:a.length ≤ 1000) (h:b.length ≤ 1000):IB a b = some (Mg a b a.length):=by
 unfold IB
 refine EF (DE a b) a.length (Mg a b) _ (by omega) (j:=0) (by omega) (fun m i _ f=>?_) (fun m=>?_)
 ·rw [DE,if_pos (by simp; omega),AY,Dr f,Aa]
  refine EF (Ep b (DX a i) (Mg a b i) (DE a b m) (i:Int)) b.length (Nb a b i) _ (by omega) (j:=0) (by omega) (fun m k _ e=>?_) (fun m=>?_)
  ·rw [Ep,if_pos (by simp; omega),AY,Dr e,Aa,Hi,Aa,Bt (by simp [Nb]; omega),Aa,AD (by omega),Va]
   rfl
  ·rw [Ep,if_neg (by simp),Bt (by simp [Mg]; omega),Aa,AD (by omega),Vb]
 ·rw [DE,if_neg (by simp)]
theorem VM {a b:List (Int × Int)} (g:a.length ≤ 1000) (h:b.length ≤ 1000):JI a b = some (Mg a b a.length):=by
 unfold JI
 refine EF (Ew a b) a.length (Mg a b) _ (by omega) (j:=0) (by omega) (fun m i _ f=>?_) (fun m=>?_)
 ·rw [Ew,if_pos (by simp; omega),AY,Dr f,Aa]
  refine EF (Fh b (DX a i) (Mg a b i) (Ew a b m) (i:Int)) b.length (Nb a b i) _ (by omega) (j:=0) (by omega) (fun m k _ e=>?_) (fun m=>?_)
  ·rw [Fh,if_pos (by simp; omega),AY,Dr e,Aa,L3,Aa,Bt (by simp [Nb]; omega),Aa,AD (by omega),Va]
   rfl
  ·rw [Fh,if_neg (by simp),Bt (by simp [Mg]; omega),Aa,AD (by omega),Vb]
 ·rw [Ew,if_neg (by simp)]
theorem Zg {a b:List (Int × Int)} {n:Int} (f:Aak a b n):CO (Mg a b a.length) a.length (W5 a b):=by
 have h:=f.le
 refine ⟨by simp [Mg],fun i e=>⟨Nb a b i b.length,by simp [Mg,e],by simp [Nb,h],fun k g=>?_⟩,fun i k e g=>?_,f.l1,f.l12⟩
 ·have:k < b.length:=by omega
  simp [Nb,this]
 ·have:=(LL (I3 f.ca e) (I3 f.cb (by omega:k < b.length))).2
  unfold W5
  omega
def Fy (a b:List (Int × Int)) (n:Int):BV × Bool:=if LF a b n = true then ((a,b,n,KK a.length (W5 a b) a.length),true) else (Qd,false)
theorem PM {a b:List (Int × Int)} {n:Int} (e:a.length < 4611686018427387904) (h:b.length < 4611686018427387904):Gq a b n = some (Fy a b n):=by
 unfold Gq Fy
 rw [Pq e h,Aa]
 cases g:LF a b n with
 | false=>rfl
 | true =>
  have f:=LE.1 g
  have:=f.l12
  have:=f.le
  rw [if_neg (by simp),if_pos rfl,TS (by omega) (by omega),Aa,QJ (Zg f),Aa,KO (by omega) (by omega) (by rw [NQ]; omega),Aa]
theorem PB {a b:List (Int × Int)} {n:Int} (e:a.length < 4611686018427387904) (h:b.length < 4611686018427387904):Gp a b n = some (Fy a b n):=by
 unfold Gp Fy
 rw [Q7 e h,Aa]
 cases g:LF a b n with
 | false=>rfl
 | true =>
  have f:=LE.1 g
  have:=f.l12
  have:=f.le
  rw [if_neg (by simp),if_pos rfl,VM (by omega) (by omega),Aa,VL (Zg f),Aa,OK (by omega) (by omega) (by rw [NQ]; omega),Aa]
structure SmT (t:BV):Prop where
 h1:t.1.length ≤ 12
 h2:t.2.1.length ≤ 12
 h3:t.2.2.2.length ≤ 12
theorem SmT.sum {t:BV} (h:SmT t):H5 t = some (M1 t) ∧ Hz t = some (M1 t):=by
 have:=h.h1
 have:=h.h2
 have:=h.h3
 exact ⟨TV (by omega) (by omega) (by omega),TG (by omega) (by omega) (by omega)⟩
theorem YS:SmT Qd:=⟨by simp [Qd],by simp [Qd],by simp [Qd]⟩
theorem US (a b:List (Int × Int)) (n:Int):SmT (Ek a b n).1:=by
 unfold Ek
 split
 ·rename_i h
  have f:=LE.1 h
  have:=f.l12
  have:=f.le
  exact ⟨by dsimp only; omega,by dsimp only; omega,by dsimp only; rw [NP]; omega⟩
 ·exact YS
theorem YW (a b:List (Int × Int)) (n:Int):SmT (Fy a b n).1:=by
 unfold Fy
 split
 ·rename_i h
  have f:=LE.1 h
  have:=f.l12
  have:=f.le
  exact ⟨by dsimp only; omega,by dsimp only; omega,by dsimp only; rw [NQ]; omega⟩
 ·exact YS
theorem Sj:Ln Qd = false:=by decide
theorem Aa2 (t:BV):0 ≤ (M1 t).1 ∧ (M1 t).1 ≤ 100000000:=by
 unfold M1
 split
 ·rename_i h
  have f:=NU h
  have:=f.can.l12
  have:=Rr f t.1.length (by omega)
  dsimp only
  omega
 ·simp
def VY (bad:Nat → Nat → Bool) (n i:Nat):List (List Int):=((List.range' (i + 1) (n - (i + 1))).filter (bad i)).map fun (k:Nat)=>[(i:Int),(k:Int)]
def J1 (bad:Nat → Nat → Bool) (n j:Nat):List (List Int):=(List.range j).foldl (fun s i=>s ++ VY bad n i) []
theorem Z9 (e:Nat → Nat → Bool) (n i:Nat):(VY e n i).length ≤ n:=by
 unfold VY
 rw [List.length_map]
 refine Ay (List.length_filter_le _ _) ?_
 simp
theorem PF (e:Nat → Nat → Bool) (n j:Nat):J1 e n (j + 1) = J1 e n j ++ VY e n j:=by unfold J1; rw [List.range_succ,List.foldl_append]; rfl
theorem QG (e:Nat → Nat → Bool) (n:Nat):∀ j,(J1 e n j).length ≤ n * j
 | 0=>by simp [J1]
 | j + 1=>by
  have:=QG e n j
  have:=Z9 e n j
  rw [PF,CD,Nat.mul_succ]
  omega
theorem Nx (F1:Nat → List (List Int) → Int → Ag Aei) (F2:(List (List Int) → Int → Ag Aei) → Nat → Nat → List (List Int) → Int → Ag Aei) (e:Nat → Nat → Bool) (n:Nat) (h:n ≤ 100)
  (h1:∀ m s i,i < n → F1 (m + 1) s (i:Int) = F2 (F1 m) i FU s ((i + 1:Nat):Int))
  (g:∀ nx i m s k,i < n → k < n → s.length ≤ 1000000 → F2 nx i (m + 1) s (k:Int) = F2 nx i m (if e i k then s ++ [[(i:Int),(k:Int)]] else s) ((k + 1:Nat):Int))
  (u:∀ nx i m s,i < n → F2 nx i (m + 1) s (n:Int) = nx s ((i + 1:Nat):Int))
  (v:∀ m s,F1 (m + 1) s (n:Int) = some s):F1 FU [] 0 = some (J1 e n n):=by
 refine EF F1 n (J1 e n) _ (by omega) (j:=0) (by omega) (fun m i _ f=>?_) (fun m=>v m _)
 have hl:=QG e n i
 have hm:n * i ≤ 100 * 100:=Nat.mul_le_mul h (by omega)
 rw [h1 m _ i f,ZL (F2 (F1 m) i) n 1000000 (e i) (fun (k:Nat)=>[(i:Int),(k:Int)]) (fun s=>F1 m s ((i + 1:Nat):Int)) (by omega) (fun q s k l hs=>g _ i q s k f l (by omega)) (fun q s=>u _ i q s f) (i + 1) (J1 e n i) (by omega) (by omega),PF]
 rfl
theorem YP {f:Nat → Nat → Bool} {n j:Nat} {q:List Int} (h:q ∈ J1 f n j):∃ i k:Nat,q = [(i:Int),(k:Int)] ∧ i < j ∧ i < k ∧ k < n ∧ f i k = true:=by
 induction j with
 | zero=>cases h
 | succ j l =>
  rw [PF,AX] at h
  rcases h with h | h
  ·obtain ⟨i,k,h1,m,g⟩:=l h
   exact ⟨i,k,h1,by omega,g⟩
  ·unfold VY at h
   obtain ⟨k,e,rfl⟩:=List.mem_map.1 h
   rw [List.mem_filter,List.mem_range'_1] at e
   exact ⟨j,k,rfl,by omega,by omega,by omega,e.2⟩
def X8 (t:BV) (least:Int) (i k:Nat):Bool:=!Se (Hh t i) (Hh t k) least
def Ld (t:BV) (least:Int):Aei × Bool:=if (Ln t && BJ least 0 80) = true then (J1 (X8 t least) t.1.length t.1.length,true) else ([],false)
theorem QM {t:BV} (h:SmT t) (g:Int):GW t g = some (Ld t g):=by
 have:=h.h1
 have:=h.h2
 have:=h.h3
 unfold GW Bk Ld
 dsimp only
 rw [Lo (by omega) (by omega) (by omega),Aa,QK,Aa]
 cases ho:Ln t with
 | false=>rfl
 | true =>
  cases l:BJ g 0 80 with
  | false=>rfl
  | true =>
   have f:=NU ho
   have e:GV t g = some (J1 (X8 t g) t.1.length t.1.length):=by
    unfold GV
    rw [Ob f,Aa]
    refine Nx (D1 (G5 t) g) (fun u i=>D0 (G5 t) (i:Int) g u) _ _ (by omega) (fun m s i l=>?_) (fun u i m s k l v hs=>?_) (fun u i m s l=>?_) (fun m s=>?_)
    ·rw [D1,if_pos (by rw [DZ]; simp; omega),AD (by omega)]
    ·rw [D0,if_pos (by rw [DZ]; simp; omega)]
     unfold Bk X8
     dsimp only
     rw [AY,Is t l,Aa,AY,Is t v,Aa,TR _ _ _ (JX f l) (JX f v),Aa,Bt (by simp; omega),Aa,AD (by omega)]
     cases Se (Hh t i) (Hh t k) g <;> rfl
    ·rw [D0,if_neg (by rw [DZ]; simp),AD (by omega)]
    ·rw [D1,if_neg (by rw [DZ]; simp)]
   rw [e]
   rfl
theorem Q8 {t:BV} (h:SmT t) (g:Int):GR t g = some (Ld t g):=by
 have:=h.h1
 have:=h.h2
 have:=h.h3
 unfold GR Lg Bk Ld
 dsimp only
 rw [OL (by omega) (by omega) (by omega),Aa,Ou,Aa]
 cases ho:Ln t with
 | false=>rfl
 | true =>
  cases l:BJ g 0 80 with
  | false=>rfl
  | true =>
   have f:=NU ho
   have e:JH t g = some (J1 (X8 t g) t.1.length t.1.length):=by
    unfold JH
    rw [LS f,Aa]
    refine Nx (Ff (G5 t) g) (fun u i=>Fe (G5 t) (Hh t i) g (i:Int) u) _ _ (by omega) (fun m s i l=>?_) (fun u i m s k l v hs=>?_) (fun u i m s l=>?_) (fun m s=>?_)
    ·rw [Ff,if_pos (by rw [DZ]; simp; omega),AY,Is t l,Aa,AD (by omega)]
    ·rw [Fe,if_pos (by rw [DZ]; simp; omega)]
     unfold Bk X8
     dsimp only
     rw [AY,Is t v,Aa,Xa _ _ _ (JX f l) (JX f v),Aa,Bt (by simp; omega),Aa,AD (by omega)]
     cases Se (Hh t i) (Hh t k) g <;> rfl
    ·rw [Fe,if_neg (by rw [DZ]; simp),AD (by omega)]
    ·rw [Ff,if_neg (by rw [DZ]; simp)]
   rw [e]
   rfl
theorem MT {a b:Int} (ha:0 ≤ a) (u:a ≤ 4000000000000000000) (hb:0 < b) (ad:b ≤ 1000000000000000) :
  ∃ g:Int,0 < g ∧ a = (Il a b).1 * g ∧ b = (Il a b).2 * g ∧ 0 ≤ (Il a b).1 ∧ (Il a b).1 ≤ a ∧ 0 < (Il a b).2 ∧ (Il a b).2 ≤ b:=by
 have f:0 < Nat.gcd a.toNat b.toNat:=Nat.gcd_pos_of_pos_right _ (by omega)
 obtain ⟨x,hx⟩:=Nat.gcd_dvd_left a.toNat b.toNat
 obtain ⟨y,v⟩:=Nat.gcd_dvd_right a.toNat b.toNat
 have l:a = ((Nat.gcd a.toNat b.toNat * x:Nat):Int):=by omega
 have e:b = ((Nat.gcd a.toNat b.toNat * y:Nat):Int):=by omega
 unfold Il
 generalize Nat.gcd a.toNat b.toNat = g at *
 have ag:x ≤ g * x:=Nat.le_mul_of_pos_left _ f
 have ah:y ≤ g * y:=Nat.le_mul_of_pos_left _ f
 have m:Int.tdiv a (g:Int) = (x:Int):=by rw [l,Int.natCast_mul,Int.mul_comm,Int.mul_tdiv_cancel _ (by omega)]
 have s:Int.tdiv b (g:Int) = (y:Int):=by rw [e,Int.natCast_mul,Int.mul_comm,Int.mul_tdiv_cancel _ (by omega)]
 rw [m,s,A6 (by omega) (by omega),A6 (by omega) (by omega)]
 have y0:0 < y:=by
  rcases Nat.eq_zero_or_pos y with h | h
  ·subst h; simp at e; omega
  ·exact h
 refine ⟨(g:Int),by omega,?_,?_,by omega,by omega,by omega,by omega⟩
 ·dsimp only; rw [l,Int.natCast_mul,Int.mul_comm]
 ·dsimp only; rw [e,Int.natCast_mul,Int.mul_comm]
def G6 (M:Int) (f:Int × Int):Bool:=decide (f.1 < M * f.2)
theorem PI {a b g:Int} (e:0 < g):a * g < b * g ↔ a < b :=
 ⟨fun h=>Int.lt_of_mul_lt_mul_right h (Int.le_of_lt e),fun h=>Int.mul_lt_mul_of_pos_right h e⟩
theorem Zm {M a b e f g:Int} (m:0 < g) (h:a = e * g) (l:b = f * g):G6 M (a,b) = G6 M (e,f):=by
 unfold G6
 rw [decide_eq_decide]
 dsimp only
 rw [h,l,← Int.mul_assoc,PI m]
theorem Uq {M a b:Int} (h:0 ≤ a) (e:a ≤ 4000000000000000000) (l:0 < b) (m:b ≤ 1000000000000000):G6 M (Il a b) = G6 M (a,b):=by
 obtain ⟨g,s,h1,f,_⟩:=MT h e l m
 rw [Zm s h1 f]
def OR (a b:Int × Int):Int × Int:=if Rw b.1 b.2 a.1 a.2 = true then b else a
theorem WD {M:Int} {a b:Int × Int} (f:0 < a.2) (g:0 < b.2):G6 M (OR a b) = (G6 M a || G6 M b):=by
 unfold OR Rw
 by_cases h:b.1 * a.2 < a.1 * b.2
 ·rw [if_pos (decide_eq_true h)]
  rw [Bool.eq_iff_iff,Bool.or_eq_true]
  refine ⟨.inr,fun h1=>h1.elim (fun h1=>?_) id⟩
  unfold G6 at h1 ⊢
  rw [C9] at h1 ⊢
  have l:a.1 * b.2 < M * a.2 * b.2:=Int.mul_lt_mul_of_pos_right h1 g
  have e:b.1 * a.2 < M * b.2 * a.2:=by
   have:M * a.2 * b.2 = M * b.2 * a.2:=by rw [Int.mul_assoc,Int.mul_comm a.2,← Int.mul_assoc]
   omega
  exact (PI f).1 e
 ·rw [if_neg (by simpa using h)]
  rw [Bool.eq_iff_iff,Bool.or_eq_true]
  refine ⟨.inl,fun h1=>h1.elim id (fun h1=>?_)⟩
  unfold G6 at h1 ⊢
  rw [C9] at h1 ⊢
  have l:b.1 * a.2 < M * b.2 * a.2:=Int.mul_lt_mul_of_pos_right h1 f
  have e:a.1 * b.2 < M * a.2 * b.2:=by
   have:M * a.2 * b.2 = M * b.2 * a.2:=by rw [Int.mul_assoc,Int.mul_comm a.2,← Int.mul_assoc]
   omega
  exact (PI g).1 e
abbrev HO:=Int × Int
def II (P Q:HO):Bool:=decide (P.1 * (Q.1 - P.1) + P.2 * (Q.2 - P.2) < 0) && decide (0 - (P.1 * (Q.1 - P.1) + P.2 * (Q.2 - P.2)) < (Q.1 - P.1) * (Q.1 - P.1) + (Q.2 - P.2) * (Q.2 - P.2))
def H7 (P Q:HO):Int:=P.1 * Q.2 - P.2 * Q.1
def Lt (P Q:HO):Int:=(Q.1 - P.1) * (Q.1 - P.1) + (Q.2 - P.2) * (Q.2 - P.2)
def Jk (P:HO):Int:=P.1 * P.1 + P.2 * P.2
def IL (P Q:HO):Int × Int:=if II P Q = true then (H7 P Q * H7 P Q,Lt P Q) else (Jk Q,1)
def LU (P Q:HO):Int × Int:=if II P Q = true then (H7 P Q * H7 P Q,Lt P Q) else (min (Jk P) (Jk Q),1)
theorem Aam (x:Int):0 ≤ x * x:=by
 have:(0:Int) ≤ ((x.natAbs * x.natAbs:Nat):Int):=Int.natCast_nonneg _
 rwa [Int.natAbs_mul_self] at this
theorem Adx (P Q:HO):H7 P Q * H7 P Q + (P.1 * (Q.1 - P.1) + P.2 * (Q.2 - P.2)) * (P.1 * (Q.1 - P.1) + P.2 * (Q.2 - P.2)) = Jk P * Lt P Q:=by
 unfold H7 Jk Lt
 grind
theorem Ade (P Q:HO):H7 P Q * H7 P Q + (Q.1 * (Q.1 - P.1) + Q.2 * (Q.2 - P.2)) * (Q.1 * (Q.1 - P.1) + Q.2 * (Q.2 - P.2)) = Jk Q * Lt P Q:=by
 unfold H7 Jk Lt
 grind
theorem Acs (P Q:HO):H7 P Q * H7 P Q ≤ Jk P * Lt P Q ∧ H7 P Q * H7 P Q ≤ Jk Q * Lt P Q:=by
 have h1:=Adx P Q
 have g:=Ade P Q
 have e:=Aam (P.1 * (Q.1 - P.1) + P.2 * (Q.2 - P.2))
 have f:=Aam (Q.1 * (Q.1 - P.1) + Q.2 * (Q.2 - P.2))
 omega
theorem Sl {P Q:HO} (h:II P Q = true):0 < Lt P Q:=by
 unfold II at h
 rw [Cf,C9,C9] at h
 unfold Lt
 omega
theorem Abf {M a b:Int}:G6 M (min a b,1) = (G6 M (a,1) || G6 M (b,1)):=by
 unfold G6
 rw [Bool.eq_iff_iff,Bool.or_eq_true]
 simp only [C9]
 omega
theorem Vd {M:Int} {P Q:HO} (h:II P Q = true):(G6 M (Jk P,1) = true → G6 M (IL P Q) = true) ∧ (G6 M (Jk Q,1) = true → G6 M (IL P Q) = true):=by
 have m:=Sl h
 obtain ⟨g,l⟩:=Acs P Q
 have f:∀ x,H7 P Q * H7 P Q ≤ x * Lt P Q → G6 M (x,1) = true → G6 M (IL P Q) = true:=by
  intro x s e
  unfold G6 IL at *
  rw [if_pos h]
  rw [C9] at e ⊢
  dsimp only at e ⊢
  have:x * Lt P Q < M * 1 * Lt P Q:=Int.mul_lt_mul_of_pos_right e m
  rw [Int.mul_one] at this
  omega
 exact ⟨f _ g,f _ l⟩
theorem WE {M:Int} {P Q:HO}:G6 M (LU P Q) = if II P Q = true then G6 M (IL P Q) else (G6 M (Jk P,1) || G6 M (Jk Q,1)):=by
 unfold LU IL
 split
 ·rfl
 ·exact Abf
def Mi (M:Int) (D:Nat → HO):Nat → Bool
 | 0=>G6 M (Jk (D 0),1)
 | k + 1=>Mi M D k || G6 M (IL (D k) (D (k + 1)))
def K0 (M:Int) (D:Nat → HO):Nat → Bool
 | 0=>false
 | k + 1=>K0 M D k || G6 M (LU (D k) (D (k + 1)))
theorem Abk {M:Int} {D:Nat → HO}:∀ k,G6 M (Jk (D k),1) = true → Mi M D k = true
 | 0,h=>h
 | k + 1,h=>by
  rw [Mi,Bool.or_eq_true]
  right
  by_cases e:II (D k) (D (k + 1)) = true
  ·exact (Vd e).2 h
  ·unfold IL
   rw [if_neg e]
   exact h
theorem Acy {M:Int} {D:Nat → HO}:∀ k,Mi M D (k + 1) = K0 M D (k + 1):=by
 have l:∀ k,K0 M D k = true → Mi M D k = true:=by
  intro k
  induction k with
  | zero=>intro h; cases h
  | succ k f =>
   intro h
   rw [K0,Bool.or_eq_true,WE] at h
   rw [Mi,Bool.or_eq_true]
   rcases h with h | h
   ·exact .inl (f h)
   ·by_cases e:II (D k) (D (k + 1)) = true
    ·rw [if_pos e] at h; exact .inr h
    ·rw [if_neg e,Bool.or_eq_true] at h
     rcases h with h | h
     ·exact .inl (Abk k h)
     ·right; unfold IL; rw [if_neg e]; exact h
 have m:∀ k,Mi M D (k + 1) = true → K0 M D (k + 1) = true:=by
  have g:∀ k,G6 M (IL (D k) (D (k + 1))) = true → K0 M D (k + 1) = true:=by
   intro k h
   rw [K0,Bool.or_eq_true,WE]
   right
   by_cases e:II (D k) (D (k + 1)) = true
   ·rw [if_pos e]; exact h
   ·rw [if_neg e,Bool.or_eq_true]
    unfold IL at h
    rw [if_neg e] at h
    exact .inr h
  intro k
  induction k with
  | zero =>
   intro h
   rw [Mi,Mi,Bool.or_eq_true] at h
   rcases h with h | h
   ·rw [K0,K0,Bool.false_or,WE]
    by_cases e:II (D 0) (D (0 + 1)) = true
    ·rw [if_pos e]; exact (Vd e).1 h
    ·rw [if_neg e,Bool.or_eq_true]; exact .inl h
   ·exact g 0 h
  | succ k f =>
   intro h
   rw [Mi,Bool.or_eq_true] at h
   rcases h with h | h
   ·rw [K0,Bool.or_eq_true]; exact .inl (f h)
   ·exact g (k + 1) h
 intro k
 rw [Bool.eq_iff_iff]
 exact ⟨m k,l (k + 1)⟩
def tD (C p k:Int):Int:=max 0 (min C (k - p))
def DA (m:FY) (p k:Int):HO:=(m.1.1 * m.2.2 + (m.2.1.1 - m.1.1) * tD m.2.2 p k,m.1.2 * m.2.2 + (m.2.1.2 - m.1.2) * tD m.2.2 p k)
theorem XF {C p k:Int} (h:1 ≤ C):0 ≤ tD C p k ∧ tD C p k ≤ C:=by unfold tD; omega
theorem Tb {a b c k B:Int} (e:0 ≤ a ∧ a ≤ B) (f:0 ≤ b ∧ b ≤ B) (g:0 ≤ k ∧ k ≤ c):0 ≤ a * c + (b - a) * k ∧ a * c + (b - a) * k ≤ B * c ∧ 0 ≤ a * c ∧ a * c ≤ B * c ∧ - (B * c) ≤ (b - a) * k ∧ (b - a) * k ≤ B * c:=by
 have h1:a * c + (b - a) * k = a * (c - k) + b * k:=by rw [Int.sub_mul,Int.mul_sub]; omega
 have s:0 ≤ a * (c - k):=Int.mul_nonneg e.1 (by omega)
 have u:0 ≤ b * k:=Int.mul_nonneg f.1 g.1
 have h4:a * (c - k) ≤ B * (c - k):=Int.mul_le_mul_of_nonneg_right e.2 (by omega)
 have m:b * k ≤ B * k:=Int.mul_le_mul_of_nonneg_right f.2 g.1
 have h:0 ≤ a * c:=Int.mul_nonneg e.1 (by omega)
 have l:a * c ≤ B * c:=Int.mul_le_mul_of_nonneg_right e.2 (by omega)
 have v:B * c = B * (c - k) + B * k:=by rw [← Int.mul_add]; congr 1; omega
 exact ⟨by omega,by omega,h,l,by omega,by omega⟩
theorem Xv {m:FY} (g:I5 m) (h:1 ≤ m.2.2) (u:m.2.2 ≤ 16) (p k:Int):(0 ≤ (DA m p k).1 ∧ (DA m p k).1 ≤ 20480) ∧ 0 ≤ (DA m p k).2 ∧ (DA m p k).2 ≤ 10752:=by
 have h1:=FM.1 g.1
 have e:=FM.1 g.2
 have f:=XF (C:=m.2.2) (p:=p) (k:=k) h
 have s:=Tb h1.1 e.1 f
 have l:=Tb h1.2 e.2 f
 unfold DA
 dsimp only
 omega
theorem Yk {m:FY} (g:I5 m) (l:1 ≤ m.2.2) (u:m.2.2 ≤ 16) {t:Int} (f:0 ≤ t ∧ t ≤ m.2.2):FP m t = some (m.1.1 * m.2.2 + (m.2.1.1 - m.1.1) * t,m.1.2 * m.2.2 + (m.2.1.2 - m.1.2) * t) ∧ Lz m t = some (m.1.1 * m.2.2 + (m.2.1.1 - m.1.1) * t,m.1.2 * m.2.2 + (m.2.1.2 - m.1.2) * t):=by
 have h1:=FM.1 g.1
 have e:=FM.1 g.2
 have s:=Tb h1.1 e.1 f
 have h:=Tb h1.2 e.2 f
 unfold FP Lz
 rw [A6 (x:=m.2.1.1 - m.1.1) (by omega) (by omega),A6 (x:=m.2.1.2 - m.1.2) (by omega) (by omega),Int.mul_comm t,Int.mul_comm t,A6 (x:=m.1.1 * m.2.2) (by omega) (by omega),A6 (x:=m.1.2 * m.2.2) (by omega) (by omega),A6 (x:=(m.2.1.1 - m.1.1) * t) (by omega) (by omega),A6 (x:=(m.2.1.2 - m.1.2) * t) (by omega) (by omega),
  A6 (x:=m.1.1 * m.2.2 + _) (by omega) (by omega),A6 (x:=m.1.2 * m.2.2 + _) (by omega) (by omega)]
 exact ⟨rfl,rfl⟩
theorem Nm {m:FY} (g:I5 m) (f:1 ≤ m.2.2) (h:m.2.2 ≤ 16) {p k:Int} (l:0 ≤ p ∧ p ≤ 4) (s:0 ≤ k ∧ k ≤ 1000):Ge m p k = some (DA m p k):=by
 unfold Ge
 have e:Fn (Fx (Af (k - p)) 0) m.2.2 = tD m.2.2 p k:=by
  rw [A6 (by omega) (by omega)]
  unfold Fn Fx tD
  split <;> split <;> omega
 rw [e,(Yk g f h (XF f)).1]
 rfl
theorem QH (a b:Int):Hk a b = some (max a b):=by
 unfold Hk
 by_cases h:b < a
 ·rw [if_pos (by simpa using h),Int.max_eq_left (by omega)]
 ·rw [if_neg (by simpa using h),Int.max_eq_right (by omega)]
theorem Ot {m:FY} (g:I5 m) (e:1 ≤ m.2.2) (f:m.2.2 ≤ 16) {p k:Int} (h:0 ≤ p ∧ p ≤ 4) (l:0 ≤ k ∧ k ≤ 1000):Ip m p k = some (DA m p k):=by
 unfold Ip
 rw [A6 (by omega) (by omega),JY,Aa,QH,Aa]
 rw [show max 0 (min m.2.2 (k - p)) = tD m.2.2 p k by rfl,(Yk g e f (XF e)).2]
 rfl
structure Mq (P:HO):Prop where
 a1:-20480 ≤ P.1
 a2:P.1 ≤ 20480
 b1:-10752 ≤ P.2
 b2:P.2 ≤ 10752
structure Ad3 (P Q:HO):Prop where
 m1:-838860800 ≤ P.1 * (Q.1 - P.1) ∧ P.1 * (Q.1 - P.1) ≤ 838860800
 m2:-231211008 ≤ P.2 * (Q.2 - P.2) ∧ P.2 * (Q.2 - P.2) ≤ 231211008
 m3:0 ≤ (Q.1 - P.1) * (Q.1 - P.1) ∧ (Q.1 - P.1) * (Q.1 - P.1) ≤ 1677721600
 m4:0 ≤ (Q.2 - P.2) * (Q.2 - P.2) ∧ (Q.2 - P.2) * (Q.2 - P.2) ≤ 462422016
 m5:0 ≤ P.1 * P.1 ∧ P.1 * P.1 ≤ 419430400
 m6:0 ≤ P.2 * P.2 ∧ P.2 * P.2 ≤ 115605504
 m7:0 ≤ Q.1 * Q.1 ∧ Q.1 * Q.1 ≤ 419430400
 m8:0 ≤ Q.2 * Q.2 ∧ Q.2 * Q.2 ≤ 115605504
 m9:-220200960 ≤ P.1 * Q.2 ∧ P.1 * Q.2 ≤ 220200960
 m10:-220200960 ≤ P.2 * Q.1 ∧ P.2 * Q.1 ≤ 220200960
 m11:0 ≤ H7 P Q * H7 P Q ∧ H7 P Q * H7 P Q ≤ 193953851139686400
 m12:-440401920 ≤ P.1 * (Q.2 - P.2) ∧ P.1 * (Q.2 - P.2) ≤ 440401920
 m13:-440401920 ≤ P.2 * (Q.1 - P.1) ∧ P.2 * (Q.1 - P.1) ≤ 440401920
 m14:P.1 * (Q.2 - P.2) - P.2 * (Q.1 - P.1) = H7 P Q
theorem Yi {P Q:HO} (hP:Mq P) (v:Mq Q):Ad3 P Q:=by
 obtain ⟨g,e,h,f⟩:=hP
 obtain ⟨m,l,u,s⟩:=v
 have m9:=Ma g e u s
 have ac:=Ma h f m l
 have ad:=Mv (x:=H7 P Q) (A:=440401920) (by unfold H7; omega) (by unfold H7; omega)
 refine ⟨Ma (A:=20480) (B:=40960) g e (by omega) (by omega),Ma (A:=10752) (B:=21504) h f (by omega) (by omega),Mv (A:=40960) (by omega) (by omega),Mv (A:=21504) (by omega) (by omega),Mv g e,Mv h f,Mv m l,Mv u s,by omega,by omega,by omega,Ma (A:=20480) (B:=21504) g e (by omega) (by omega),Ma (A:=10752) (B:=40960) h f (by omega) (by omega),?_⟩
 unfold H7
 grind
theorem Xq {P Q:HO} (g:Mq P) (f:Mq Q):0 ≤ (IL P Q).1 ∧ (IL P Q).1 ≤ 193953851139686400 ∧ 0 < (IL P Q).2 ∧ (IL P Q).2 ≤ 2200000000:=by
 have b:=Yi g f
 have:=b.m3
 have:=b.m4
 have:=b.m7
 have:=b.m8
 have:=b.m11
 unfold IL
 split
 ·rename_i h
  have:=Sl h
  have e:Lt P Q = (Q.1 - P.1) * (Q.1 - P.1) + (Q.2 - P.2) * (Q.2 - P.2):=rfl
  dsimp only
  omega
 ·have e:Jk Q = Q.1 * Q.1 + Q.2 * Q.2:=rfl
  dsimp only
  omega
theorem TI {P Q:HO} (g:Mq P) (f:Mq Q):0 ≤ (LU P Q).1 ∧ (LU P Q).1 ≤ 193953851139686400 ∧ 0 < (LU P Q).2 ∧ (LU P Q).2 ≤ 2200000000:=by
 have b:=Yi g f
 have:=b.m3
 have:=b.m4
 have:=b.m5
 have:=b.m6
 have:=b.m7
 have:=b.m8
 have:=b.m11
 unfold LU
 split
 ·rename_i h
  have:=Sl h
  have e:Lt P Q = (Q.1 - P.1) * (Q.1 - P.1) + (Q.2 - P.2) * (Q.2 - P.2):=rfl
  dsimp only
  omega
 ·have e:Jk Q = Q.1 * Q.1 + Q.2 * Q.2:=rfl
  have l:Jk P = P.1 * P.1 + P.2 * P.2:=rfl
  dsimp only
  omega
theorem Aca {P:HO} (e:Mq P):0 ≤ Jk P ∧ Jk P ≤ 535035904:=by
 have b:=Yi e e
 have:=b.m5
 have:=b.m6
 unfold Jk
 omega
def XD (f:Int × Int):Prop:=0 ≤ f.1 ∧ f.1 ≤ 193953851139686400 ∧ 0 < f.2 ∧ f.2 ≤ 2200000000
theorem X0 {a b:Int × Int} (e:XD a) (f:XD b):XD (OR a b):=by unfold OR; split <;> assumption
def Dp (D:Nat → HO):Nat → Int × Int
 | 0=>(Jk (D 0),1)
 | k + 1=>OR (Dp D k) (IL (D k) (D (k + 1)))
def HC (D:Nat → HO):Nat → Int × Int
 | 0=>(-1,1)
 | k + 1=>if (HC D k).1 < 0 then LU (D k) (D (k + 1)) else OR (HC D k) (LU (D k) (D (k + 1)))
theorem PU {D:Nat → HO} (h:∀ k,Mq (D k)) (M:Int):∀ k,XD (Dp D k) ∧ G6 M (Dp D k) = Mi M D k
 | 0=>by
  have:=Aca (h 0)
  exact ⟨⟨by unfold Dp; dsimp only; omega,by unfold Dp; dsimp only; omega,by unfold Dp; dsimp only; omega,by unfold Dp; dsimp only; omega⟩,rfl⟩
 | k + 1=>by
  obtain ⟨h1,f⟩:=PU h M k
  have e:=Xq (h k) (h (k + 1))
  refine ⟨X0 h1 e,?_⟩
  rw [Dp,WD h1.2.2.1 e.2.2.1,f,Mi]
theorem PT {D:Nat → HO} (h:∀ k,Mq (D k)) (M:Int):∀ k,XD (HC D (k + 1)) ∧ G6 M (HC D (k + 1)) = K0 M D (k + 1)
 | 0=>by
  have e:=TI (h 0) (h 1)
  rw [HC,if_pos (by unfold HC; decide),K0,K0,Bool.false_or]
  exact ⟨e,rfl⟩
 | k + 1=>by
  obtain ⟨h1,g⟩:=PT h M k
  have e:=TI (h (k + 1)) (h (k + 2))
  have f:¬ (HC D (k + 1)).1 < 0:=by have:=h1.1; omega
  rw [HC,if_neg f,WD h1.2.2.1 e.2.2.1,g,K0]
  exact ⟨X0 h1 e,rfl⟩
structure Us (u v:FY) (p q:Int):Prop where
 gu:I5 u
 gv:I5 v
 c1:1 ≤ u.2.2
 c16:u.2.2 ≤ 16
 e:v.2.2 = u.2.2
 p0:0 ≤ p ∧ p ≤ 4
 q0:0 ≤ q ∧ q ≤ 4
def BG (u v:FY) (p q:Int) (k:Nat):HO:=((DA u p (k:Int)).1 - (DA v q (k:Int)).1,(DA u p (k:Int)).2 - (DA v q (k:Int)).2)
theorem W3 {u v:FY} {p q:Int} (f:Us u v p q) (k:Nat):Mq (BG u v p q k):=by
 have h1:=Xv f.gu f.c1 f.c16 p (k:Int)
 have g:=Xv f.gv (by rw [f.e]; exact f.c1) (by rw [f.e]; exact f.c16) q (k:Int)
 unfold BG
 exact ⟨by dsimp only; omega,by dsimp only; omega,by dsimp only; omega,by dsimp only; omega⟩
def Cq (u:FY) (p q:Int):Nat:=(u.2.2 + max p q).toNat
def KS (u v:FY) (p q least:Int):Bool:=K0 (least * least * u.2.2 * u.2.2) (BG u v p q) (Cq u p q)
structure Ad2 (P Q:HO):Prop where
 w1:Af (Q.1 - P.1) = Q.1 - P.1
 w2:Af (Q.2 - P.2) = Q.2 - P.2
 w3:Af (P.1 * (Q.2 - P.2)) = P.1 * (Q.2 - P.2)
 w4:Af (P.2 * (Q.1 - P.1)) = P.2 * (Q.1 - P.1)
 w5:Af (P.1 * (Q.2 - P.2) - P.2 * (Q.1 - P.1)) = H7 P Q
 w6:Af (H7 P Q * H7 P Q) = H7 P Q * H7 P Q
 w7:Af ((Q.1 - P.1) * (Q.1 - P.1)) = (Q.1 - P.1) * (Q.1 - P.1)
 w8:Af ((Q.2 - P.2) * (Q.2 - P.2)) = (Q.2 - P.2) * (Q.2 - P.2)
 w9:Af ((Q.1 - P.1) * (Q.1 - P.1) + (Q.2 - P.2) * (Q.2 - P.2)) = Lt P Q
 w10:Af (P.1 * (Q.1 - P.1)) = P.1 * (Q.1 - P.1)
 w11:Af (P.2 * (Q.2 - P.2)) = P.2 * (Q.2 - P.2)
 w12:Af (P.1 * (Q.1 - P.1) + P.2 * (Q.2 - P.2)) = P.1 * (Q.1 - P.1) + P.2 * (Q.2 - P.2)
 w13:Af (0 - (P.1 * (Q.1 - P.1) + P.2 * (Q.2 - P.2))) = 0 - (P.1 * (Q.1 - P.1) + P.2 * (Q.2 - P.2))
 w14:Af (Q.1 * Q.1) = Q.1 * Q.1
 w15:Af (Q.2 * Q.2) = Q.2 * Q.2
 w16:Af (Q.1 * Q.1 + Q.2 * Q.2) = Jk Q
 w17:Af (P.1 * P.1) = P.1 * P.1
 w18:Af (P.2 * P.2) = P.2 * P.2
 w19:Af (P.1 * P.1 + P.2 * P.2) = Jk P
 w20:Af (P.1 * Q.2) = P.1 * Q.2
 w21:Af (P.2 * Q.1) = P.2 * Q.1
 w22:Af (P.1 * Q.2 - P.2 * Q.1) = H7 P Q
theorem Aab {P Q:HO} (f:Mq P) (e:Mq Q):Ad2 P Q:=by
 have b:=Yi f e
 have:=b.m1; have:=b.m2; have:=b.m3; have:=b.m4; have:=b.m5; have:=b.m6; have:=b.m7; have:=b.m8; have:=b.m9; have:=b.m10; have:=b.m11; have:=b.m12; have:=b.m13; have s:=b.m14
 have:=f.a1; have:=f.a2; have:=f.b1; have:=f.b2; have:=e.a1; have:=e.a2; have:=e.b1; have:=e.b2
 have h:Lt P Q = (Q.1 - P.1) * (Q.1 - P.1) + (Q.2 - P.2) * (Q.2 - P.2):=rfl
 have l:Jk Q = Q.1 * Q.1 + Q.2 * Q.2:=rfl
 have g:Jk P = P.1 * P.1 + P.2 * P.2:=rfl
 have m:H7 P Q = P.1 * Q.2 - P.2 * Q.1:=rfl
 constructor <;> (try rw [A6 (by omega) (by omega)]) <;> first | done | omega
theorem Z4 {R:Type} {P Q:HO} (f:Int → Int → Ag R):(if II P Q = true then f (H7 P Q * H7 P Q) (Lt P Q) else f (Jk Q) 1) = f (IL P Q).1 (IL P Q).2:=by
 unfold IL
 split <;> rfl
theorem R6 {u v:FY} {p q:Int} (f:Us u v p q):∃ r:Int × Int,Gg u v p q = some r ∧ 0 < r.2 ∧ r.2 ≤ 1000000000000 ∧ ∀ K,G6 K r = Mi (K * u.2.2 * u.2.2) (BG u v p q) (Cq u p q):=by
 have h:=f.c1
 have l:=f.c16
 have hp:=f.p0
 have hq:=f.q0
 have aq:1 ≤ v.2.2:=by rw [f.e]; exact h
 have an:v.2.2 ≤ 16:=by rw [f.e]; exact l
 have hT:((Cq u p q:Nat):Int) = u.2.2 + max p q:=by unfold Cq; omega
 have be:Cq u p q ≤ 20:=by omega
 have ad:=W3 f
 have al:=fun M=>PU ad M (Cq u p q)
 obtain ⟨b1,b2,b3,b4⟩:=(al 0).1
 obtain ⟨g1,bk,l1,l2,l3,l4,l5,l6⟩:=MT b1 (by omega) b3 (by omega)
 have bu:1 ≤ u.2.2 * u.2.2 ∧ u.2.2 * u.2.2 ≤ 256:=⟨Int.mul_le_mul h h (by omega) (by omega),Int.mul_le_mul l l (by omega) (by omega)⟩
 have d1:(Il (Dp (BG u v p q) (Cq u p q)).1 (Dp (BG u v p q) (Cq u p q)).2).2 * u.2.2 ≤ 2200000000 * 16:=Int.mul_le_mul (by omega) l (by omega) (by omega)
 have d2:1 * 1 ≤ (Il (Dp (BG u v p q) (Cq u p q)).1 (Dp (BG u v p q) (Cq u p q)).2).2 * u.2.2:=Int.mul_le_mul (by omega) h (by omega) (by omega)
 have d3:(Il (Dp (BG u v p q) (Cq u p q)).1 (Dp (BG u v p q) (Cq u p q)).2).2 * u.2.2 * u.2.2 ≤ 2200000000 * 16 * 16:=Int.mul_le_mul d1 l (by omega) (by omega)
 have d4:1 * 1 ≤ (Il (Dp (BG u v p q) (Cq u p q)).1 (Dp (BG u v p q) (Cq u p q)).2).2 * u.2.2 * u.2.2:=Int.mul_le_mul (by omega) h (by omega) (by omega)
 have ay:Gg u v p q = some (Il (Il (Dp (BG u v p q) (Cq u p q)).1 (Dp (BG u v p q) (Cq u p q)).2).1 ((Il (Dp (BG u v p q) (Cq u p q)).1 (Dp (BG u v p q) (Cq u p q)).2).2 * u.2.2 * u.2.2)):=by
  unfold Gg
  have z1:tD u.2.2 p 0 = 0:=by unfold tD; omega
  have z2:tD v.2.2 q 0 = 0:=by unfold tD; omega
  have a1:FP u 0 = some (DA u p 0):=by rw [(Yk f.gu h l (t:=0) (by omega)).1]; unfold DA; rw [z1]
  have a2:FP v 0 = some (DA v q 0):=by rw [(Yk f.gv aq an (t:=0) (by omega)).1]; unfold DA; rw [z2]
  have h0:=ad 0
  have w0:=Aab h0 h0
  have:=h0.a1; have:=h0.a2; have:=h0.b1; have:=h0.b2
  have e1:Af ((DA u p 0).1 - (DA v q 0).1) = (BG u v p q 0).1:=by
   have:(DA u p 0).1 - (DA v q 0).1 = (BG u v p q 0).1:=rfl
   rw [this,A6 (by omega) (by omega)]
  have e2:Af ((DA u p 0).2 - (DA v q 0).2) = (BG u v p q 0).2:=by
   have:(DA u p 0).2 - (DA v q 0).2 = (BG u v p q 0).2:=rfl
   rw [this,A6 (by omega) (by omega)]
  rw [a1,Aa,a2,Aa,e1,e2,w0.w14,w0.w15,w0.w16]
  have a3:=EF (fun m (s:Int × Int × Int × Int) k=>C2 u p q v m s.1 s.2.1 s.2.2.1 s.2.2.2 (k + 1)) (Cq u p q) (fun k=>((BG u v p q k).1,(BG u v p q k).2,(Dp (BG u v p q) k).1,(Dp (BG u v p q) k).2)) (some (Il (Il (Dp (BG u v p q) (Cq u p q)).1 (Dp (BG u v p q) (Cq u p q)).2).1 ((Il (Dp (BG u v p q) (Cq u p q)).1 (Dp (BG u v p q) (Cq u p q)).2).2 * u.2.2 * u.2.2))) (by omega) (j:=0) (by omega) (fun m k _ hk=>?_) (fun m=>?_)
  ·exact a3
  ·dsimp only
   have hP:=ad k
   have hQ:=ad (k + 1)
   have w:=Aab hP hQ
   have:=hQ.a1; have:=hQ.a2; have:=hQ.b1; have:=hQ.b2
   have ak:Fx p q = max p q:=by unfold Fx; split <;> omega
   have c1:Af ((DA u p ((k:Int) + 1)).1 - (DA v q ((k:Int) + 1)).1) = (BG u v p q (k + 1)).1:=by
    have:(DA u p ((k:Int) + 1)).1 - (DA v q ((k:Int) + 1)).1 = (BG u v p q (k + 1)).1:=rfl
    rw [this,A6 (by omega) (by omega)]
   have c2:Af ((DA u p ((k:Int) + 1)).2 - (DA v q ((k:Int) + 1)).2) = (BG u v p q (k + 1)).2:=by
    have:(DA u p ((k:Int) + 1)).2 - (DA v q ((k:Int) + 1)).2 = (BG u v p q (k + 1)).2:=rfl
    rw [this,A6 (by omega) (by omega)]
   obtain ⟨⟨i1,i2,i3,i4⟩,_⟩:=PU ad 0 k
   obtain ⟨s1,s2,s3,s4⟩:=Xq hP hQ
   rw [C2,ak,A6 (x:=u.2.2 + _) (by omega) (by omega),if_pos (by rw [C9]; omega),Nm f.gu h l hp (by omega),Aa,Nm f.gv aq an hq (by omega),Aa,c1,c2]
   simp only [Bk,Fz,w.w1,w.w2,w.w3,w.w4,w.w5,w.w6,w.w7,w.w8,w.w9,w.w10,w.w11,w.w12,w.w13,w.w14,w.w15,w.w16]
   have a4:∀ a b:Int,0 ≤ a → a ≤ 193953851139686400 → 0 < b → b ≤ 2200000000 → (Option.bind (Fo a b (Dp (BG u v p q) k).1 (Dp (BG u v p q) k).2) fun ah=>if ah = true then C2 u p q v m (BG u v p q (k + 1)).1 (BG u v p q (k + 1)).2 a b (Af ((k:Int) + 1 + 1)) else C2 u p q v m (BG u v p q (k + 1)).1 (BG u v p q (k + 1)).2 (Dp (BG u v p q) k).1 (Dp (BG u v p q) k).2 (Af ((k:Int) + 1 + 1))) = C2 u p q v m (BG u v p q (k + 1)).1 (BG u v p q (k + 1)).2 (OR (Dp (BG u v p q) k) (a,b)).1 (OR (Dp (BG u v p q) k) (a,b)).2 (((k + 1:Nat):Int) + 1):=by
    intro a b h1 h2 h3 h4
    rw [R5 _ _ _ _ h1 (by omega) (by omega) (by omega) i1 (by omega) (by omega) (by omega),Aa,A6 (by omega) (by omega)]
    unfold OR
    split <;> rfl
   have hl:=a4 (IL (BG u v p q k) (BG u v p q (k + 1))).1 (IL (BG u v p q k) (BG u v p q (k + 1))).2 s1 s2 s3 s4
   rw [Dp]
   refine Eq.trans ?_ hl
   rw [← Z4 (P:=BG u v p q k) (Q:=BG u v p q (k + 1)) (f:=fun a b=>Option.bind (Fo a b (Dp (BG u v p q) k).1 (Dp (BG u v p q) k).2) fun ah=>if ah = true then C2 u p q v m (BG u v p q (k + 1)).1 (BG u v p q (k + 1)).2 a b (Af ((k:Int) + 1 + 1)) else C2 u p q v m (BG u v p q (k + 1)).1 (BG u v p q (k + 1)).2 (Dp (BG u v p q) k).1 (Dp (BG u v p q) k).2 (Af ((k:Int) + 1 + 1)))]
   unfold II
   change _ = if (decide _ && decide (_ < Lt _ _)) = true then _ else _
   by_cases h1:(BG u v p q k).1 * ((BG u v p q (k + 1)).1 - (BG u v p q k).1) + (BG u v p q k).2 * ((BG u v p q (k + 1)).2 - (BG u v p q k).2) < 0
   ·rw [if_pos (decide_eq_true h1),decide_eq_true h1,Bool.true_and]
   ·rw [if_neg (by simpa using h1),decide_eq_false h1]
    rfl
  ·dsimp only
   have ak:Fx p q = max p q:=by unfold Fx; split <;> omega
   rw [C2,ak,A6 (x:=u.2.2 + _) (by omega) (by omega),if_neg (by rw [C9]; omega),L9 _ _ b1 (by omega) b3 (by omega),Aa,A6 (x:=(Il (Dp (BG u v p q) (Cq u p q)).1 (Dp (BG u v p q) (Cq u p q)).2).2 * u.2.2) (by omega) (by omega),A6 (by omega) (by omega),L9 _ _ l3 (by omega) (by omega) (by omega),Aa]
 refine ⟨_,ay,?_,?_,fun K=>?_⟩
 ·obtain ⟨g,_,_,_,_,_,k5,_⟩:=MT (a:=(Il (Dp (BG u v p q) (Cq u p q)).1 (Dp (BG u v p q) (Cq u p q)).2).1) (b:=(Il (Dp (BG u v p q) (Cq u p q)).1 (Dp (BG u v p q) (Cq u p q)).2).2 * u.2.2 * u.2.2) l3 (by omega) (by omega) (by omega)
  exact k5
 ·obtain ⟨g,_,_,_,_,_,k5,k6⟩:=MT (a:=(Il (Dp (BG u v p q) (Cq u p q)).1 (Dp (BG u v p q) (Cq u p q)).2).1) (b:=(Il (Dp (BG u v p q) (Cq u p q)).1 (Dp (BG u v p q) (Cq u p q)).2).2 * u.2.2 * u.2.2) l3 (by omega) (by omega) (by omega)
  omega
 ·rw [Uq l3 (by omega) (by omega) (by omega),← (al (K * u.2.2 * u.2.2)).2]
  have:G6 (K * u.2.2 * u.2.2) (Dp (BG u v p q) (Cq u p q)) = G6 (K * u.2.2 * u.2.2) (Il (Dp (BG u v p q) (Cq u p q)).1 (Dp (BG u v p q) (Cq u p q)).2):=(Uq b1 (by omega) b3 (by omega)).symm
  rw [this]
  unfold G6
  rw [decide_eq_decide]
  dsimp only
  generalize (Il (Dp (BG u v p q) (Cq u p q)).1 (Dp (BG u v p q) (Cq u p q)).2).2 = B
  rw [show K * (B * u.2.2 * u.2.2) = K * u.2.2 * u.2.2 * B by grind]
theorem Xk {M:Int} {D:Nat → HO} {T:Nat} (h:1 ≤ T):Mi M D T = K0 M D T:=by
 obtain ⟨k,rfl⟩:∃ k,T = k + 1:=⟨T - 1,by omega⟩
 exact Acy k
theorem Np {u v:FY} {p q e:Int} (f:Us u v p q) (hl:0 ≤ e ∧ e ≤ 80):Gh u v p q e = some (KS u v p q e):=by
 obtain ⟨r,h1,m,h,l⟩:=R6 f
 have g:=Mv (x:=e) (A:=80) (by omega) (by omega)
 have hm:=Int.mul_le_mul g.2 h (by omega) (by omega)
 have ab:0 ≤ e * e * r.2:=Int.mul_nonneg g.1 (by omega)
 unfold Gh KS
 rw [h1,Aa,A6 (x:=e * e) (by omega) (by omega),A6 (by omega) (by omega)]
 have:=l (e * e)
 unfold G6 at this
 have hc:=f.c1
 have s:=f.p0
 rw [this,Xk (by unfold Cq; omega)]
theorem Z0 {R:Type} {P Q:HO} (f:Int → Int → Ag R):(if II P Q = true then f (H7 P Q * H7 P Q) (Lt P Q) else f (min (Jk P) (Jk Q)) 1) = f (LU P Q).1 (LU P Q).2:=by
 unfold LU
 split <;> rfl
theorem WY {P Q:HO} (g:Mq P) (e:Mq Q):Kj P.1 P.2 Q.1 Q.2 = some (LU P Q):=by
 have w:=Aab g e
 unfold Kj
 simp only [Bk,w.w1,w.w2,w.w7,w.w8,w.w9,w.w10,w.w11,w.w12,w.w13,w.w14,w.w15,w.w16,w.w17,w.w18,w.w19,w.w20,w.w21,w.w22,w.w6,JY,Aa]
 have:=Z0 (P:=P) (Q:=Q) (f:=fun a b=>some (a,b))
 refine Eq.trans ?_ this
 unfold II
 change _ = if (decide _ && decide (_ < Lt _ _)) = true then _ else _
 by_cases h1:P.1 * (Q.1 - P.1) + P.2 * (Q.2 - P.2) < 0
 ·rw [if_pos (by rw [C9]; omega),decide_eq_true h1,Bool.true_and]
 ·rw [if_neg (by rw [C9]; omega),decide_eq_false h1]
  rfl
theorem VJ {u v:FY} {p q:Int} (f:Us u v p q):∃ r:Int × Int,Iw u v p q = some r ∧ 0 ≤ r.1 ∧ r.1 ≤ 193953851139686400 ∧ 0 < r.2 ∧ r.2 ≤ 1000000000000 ∧ ∀ K,G6 K r = K0 (K * u.2.2 * u.2.2) (BG u v p q) (Cq u p q):=by
 have ab:=f.c1
 have ac:=f.c16
 have hp:=f.p0
 have hq:=f.q0
 have ak:1 ≤ v.2.2:=by rw [f.e]; exact ab
 have ai:v.2.2 ≤ 16:=by rw [f.e]; exact ac
 have hT:((Cq u p q:Nat):Int) = u.2.2 + max p q:=by unfold Cq; omega
 have a6:Cq u p q ≤ 20:=by omega
 have ae:=W3 f
 obtain ⟨T,az⟩:∃ T,Cq u p q = T + 1:=⟨Cq u p q - 1,by omega⟩
 have ag:∀ M,XD (HC (BG u v p q) (Cq u p q)) ∧ G6 M (HC (BG u v p q) (Cq u p q)) = K0 M (BG u v p q) (Cq u p q):=fun M=>by rw [az]; exact PT ae M T
 obtain ⟨b1,b2,b3,b4⟩:=(ag 0).1
 have d1:(HC (BG u v p q) (Cq u p q)).2 * u.2.2 ≤ 2200000000 * 16:=Int.mul_le_mul b4 ac (by omega) (by omega)
 have d2:1 * 1 ≤ (HC (BG u v p q) (Cq u p q)).2 * u.2.2:=Int.mul_le_mul (by omega) ab (by omega) (by omega)
 have d3:(HC (BG u v p q) (Cq u p q)).2 * u.2.2 * u.2.2 ≤ 2200000000 * 16 * 16:=Int.mul_le_mul d1 ac (by omega) (by omega)
 have d4:1 * 1 ≤ (HC (BG u v p q) (Cq u p q)).2 * u.2.2 * u.2.2:=Int.mul_le_mul (by omega) ab (by omega) (by omega)
 have aq:Iw u v p q = some (Il (HC (BG u v p q) (Cq u p q)).1 ((HC (BG u v p q) (Cq u p q)).2 * u.2.2 * u.2.2)):=by
  unfold Iw
  have ax:=EF (fun m (s:Int × Int) k=>EV p q u v m s.1 s.2 k) (Cq u p q) (fun k=>((HC (BG u v p q) k).1,(HC (BG u v p q) k).2)) (some (Il (HC (BG u v p q) (Cq u p q)).1 ((HC (BG u v p q) (Cq u p q)).2 * u.2.2 * u.2.2))) (by omega) (j:=0) (by omega) (fun m k _ hk=>?_) (fun m=>?_)
  ·exact ax
  ·dsimp only
   have l:=ae k
   have h:=ae (k + 1)
   have:=l.a1; have:=l.a2; have:=l.b1; have:=l.b2
   have:=h.a1; have:=h.a2; have:=h.b1; have:=h.b2
   have e1:Af ((DA u p (k:Int)).1 - (DA v q (k:Int)).1) = (BG u v p q k).1:=by
    have:(DA u p (k:Int)).1 - (DA v q (k:Int)).1 = (BG u v p q k).1:=rfl
    rw [this,A6 (by omega) (by omega)]
   have e2:Af ((DA u p (k:Int)).2 - (DA v q (k:Int)).2) = (BG u v p q k).2:=by
    have:(DA u p (k:Int)).2 - (DA v q (k:Int)).2 = (BG u v p q k).2:=rfl
    rw [this,A6 (by omega) (by omega)]
   have c1:Af ((DA u p ((k + 1:Nat):Int)).1 - (DA v q ((k + 1:Nat):Int)).1) = (BG u v p q (k + 1)).1:=by
    have:(DA u p ((k + 1:Nat):Int)).1 - (DA v q ((k + 1:Nat):Int)).1 = (BG u v p q (k + 1)).1:=rfl
    rw [this,A6 (by omega) (by omega)]
   have c2:Af ((DA u p ((k + 1:Nat):Int)).2 - (DA v q ((k + 1:Nat):Int)).2) = (BG u v p q (k + 1)).2:=by
    have:(DA u p ((k + 1:Nat):Int)).2 - (DA v q ((k + 1:Nat):Int)).2 = (BG u v p q (k + 1)).2:=rfl
    rw [this,A6 (by omega) (by omega)]
   obtain ⟨s1,s2,s3,s4⟩:=TI l h
   rw [EV,QH,Aa,A6 (x:=u.2.2 + _) (by omega) (by omega),if_pos (by rw [C9]; omega)]
   unfold Fz Bk
   dsimp only
   rw [Ot f.gu ab ac hp (by omega),Aa,Ot f.gv ak ai hq (by omega),Aa,AD (k:=k) (by omega),Ot f.gu ab ac hp (by omega),Aa,Ot f.gv ak ai hq (by omega),Aa,e1,e2,c1,c2,WY l h,Aa,HC]
   by_cases hn:(HC (BG u v p q) k).1 < 0
   ·rw [if_pos (decide_eq_true hn),if_pos rfl,if_pos hn]
   ·have a0:∃ j,k = j + 1:=by
     cases k with
     | zero=>exact absurd (show (-1:Int) < 0 by decide) hn
     | succ j=>exact ⟨j,rfl⟩
    obtain ⟨j,rfl⟩:=a0
    obtain ⟨⟨i1,i2,i3,i4⟩,_⟩:=PT ae 0 j
    rw [if_neg (by simpa using hn),Xb _ _ _ _ s1 (by omega) s3 (by omega) i1 (by omega) i3 (by omega),Aa,if_neg hn]
    unfold OR
    split <;> rfl
  ·dsimp only
   rw [EV,QH,Aa,A6 (x:=u.2.2 + _) (by omega) (by omega),if_neg (by rw [C9]; omega),A6 (x:=(HC (BG u v p q) (Cq u p q)).2 * u.2.2) (by omega) (by omega),A6 (by omega) (by omega),RL _ _ b1 (by omega) (by omega) (by omega),Aa]
 obtain ⟨g,_,_,_,k3,k4,k5,k6⟩:=MT (a:=(HC (BG u v p q) (Cq u p q)).1) (b:=(HC (BG u v p q) (Cq u p q)).2 * u.2.2 * u.2.2) b1 (by omega) (by omega) (by omega)
 refine ⟨_,aq,k3,by omega,k5,by omega,fun K=>?_⟩
 rw [Uq b1 (by omega) (by omega) (by omega),← (ag (K * u.2.2 * u.2.2)).2]
 unfold G6
 rw [decide_eq_decide]
 dsimp only
 generalize (HC (BG u v p q) (Cq u p q)).2 = B
 rw [show K * (B * u.2.2 * u.2.2) = K * u.2.2 * u.2.2 * B by grind]
theorem RJ {u v:FY} {p q e:Int} (f:Us u v p q) (hl:0 ≤ e ∧ e ≤ 80):IX u v p q e = some (!KS u v p q e):=by
 obtain ⟨r,h1,g,h3,h,s,m⟩:=VJ f
 have hL:=Mv (x:=e) (A:=80) (by omega) (by omega)
 unfold IX KS
 have hd:=Int.ediv_nonneg g (Int.le_of_lt h)
 have aa:r.1 / r.2 ≤ r.1:=Int.ediv_le_self _ g
 have l:¬ r.2 = 0:=by omega
 rw [h1,Aa,if_neg l,A6 (x:=e * e) (by omega) (by omega),Int.tdiv_eq_ediv_of_nonneg g,A6 (by omega) (by omega),← m (e * e)]
 unfold G6
 congr 1
 rw [Bool.eq_iff_iff]
 simp only [Bool.not_eq_true',C9,decide_eq_false_iff_not]
 rw [Int.le_ediv_iff_mul_le h]
 omega
def OV (ft:Nat → Nat → Int → Int → Bool) (ds:List Int) (p:Int):Bool:=(List.range ds.length).all fun i=>ft i ds.length (ds.getD i 0) p
def LD (ft:Nat → Nat → Int → Int → Bool):Nat → List Int → Bool
 | 0,_=>true
 | r + 1,ds=>(List.range 5).any fun (p:Nat)=>OV ft ds (p:Int) && LD ft r (ds ++ [(p:Int)])
def LC (ft:Nat → Nat → Int → Int → Bool):Nat → List Int → Nat → Bool
 | 0,_,s=>s == 0
 | r + 1,ds,s=>(List.range (min s 4 + 1)).any fun (p:Nat)=>OV ft ds (p:Int) && LC ft r (ds ++ [(p:Int)]) (s - p)
theorem R2 (f:Nat → Nat → Int → Int → Bool):∀ (r:Nat) (ds:List Int),LD f r ds = true ↔ ∃ s,s ≤ 4 * r ∧ LC f r ds s = true
 | 0,ds=>by simp [LD,LC]
 | r + 1,ds=>by
  rw [LD,List.any_eq_true]
  constructor
  ·rintro ⟨p,e,h⟩
   rw [Cf,R2 f r] at h
   obtain ⟨h1,s,h2,u⟩:=h
   have g:=List.mem_range.1 e
   refine ⟨s + p,by omega,?_⟩
   rw [LC,List.any_eq_true]
   refine ⟨p,List.mem_range.2 (by omega),?_⟩
   rw [Cf,Nat.add_sub_cancel]
   exact ⟨h1,u⟩
  ·rintro ⟨s,hs,h⟩
   rw [LC,List.any_eq_true] at h
   obtain ⟨p,e,h⟩:=h
   rw [Cf] at h
   have g:=List.mem_range.1 e
   refine ⟨p,List.mem_range.2 (by omega),?_⟩
   rw [Cf,R2 f r]
   refine ⟨h.1,?_⟩
   by_cases l:s - p ≤ 4 * r
   ·exact ⟨s - p,l,h.2⟩
   ·exfalso
    have m:∀ (r:Nat) (ds:List Int) (s:Nat),LC f r ds s = true → s ≤ 4 * r:=by
     intro r
     induction r with
     | zero=>intro ds s h; simpa [LC] using h
     | succ r v =>
      intro ds s h
      rw [LC,List.any_eq_true] at h
      obtain ⟨p,e,h⟩:=h
      rw [Cf] at h
      have g:=List.mem_range.1 e
      have:=v _ _ h.2
      omega
    exact l (m r _ _ h.2)
theorem YU {R:Type} (f:Nat → Int → Ag R) (n:Nat) (p:Nat → Bool) (g:Nat → Ag R) (e:Ag R) (hn:n < 4611686018427387904)
  (hs:∀ m k,k < n → f (m + 1) (k:Int) = if p k = true then g k else f m ((k + 1:Nat):Int)) (he:∀ m,f (m + 1) (n:Int) = e) {j:Nat} (hj:j ≤ n):f FU (j:Int) = match (List.range' j (n - j)).find? p with
   | some k=>g k
   | none=>e:=by
 have l:∀ d k m,n - k = d → k ≤ n → d < m → f m (k:Int) = match (List.range' k d).find? p with
   | some k=>g k
   | none=>e:=by
  intro d
  induction d with
  | zero =>
   intro k m s v hm
   have:k = n:=by omega
   subst this
   cases m with
   | zero=>omega
   | succ m=>rw [he]; rfl
  | succ d ih =>
   intro k m s v hm
   cases m with
   | zero=>omega
   | succ m =>
    rw [hs m k (by omega),List.range'_succ,List.find?_cons]
    by_cases h:p k = true
    ·rw [if_pos h,h]
    ·have u:p k = false:=by simpa using h
     rw [if_neg h,u]
     exact ih (k + 1) m (by omega) (by omega) (by omega)
 exact l (n - j) j FU rfl hj (DH (by omega))
theorem J8 {ι S R:Type} (f:ι → Nat → S → Int → Ag R) (n:Nat) (g:Nat → S → Prop) (rest:ι → S → Ag R) (hn:n < 4611686018427387904) {b:Nat}
  (hs:∀ k s,b ≤ k → k < n → g k s → ∃ e,g (k + 1) e ∧ ∀ j m,f j (m + 1) s (k:Int) = f j m e ((k + 1:Nat):Int)) (he:∀ s,g n s → ∀ j m,f j (m + 1) s (n:Int) = rest j s) (hb:b ≤ n) {s:S} (h0:g b s) :
  ∃ e,g n e ∧ ∀ j,f j FU s (b:Int) = rest j e:=by
 have v:∀ d k s,n - k = d → b ≤ k → k ≤ n → g k s → ∃ e,g n e ∧ ∀ j m,d < m → f j m s (k:Int) = rest j e:=by
  intro d
  induction d with
  | zero =>
   intro k s hd u hk h
   have:k = n:=by omega
   subst this
   refine ⟨s,h,fun j m hm=>?_⟩
   cases m with
   | zero=>omega
   | succ m=>exact he s h j m
  | succ d ih =>
   intro k s hd u hk h
   obtain ⟨e,h1,l⟩:=hs k s u (by omega) h
   obtain ⟨s2,h3,h4⟩:=ih (k + 1) e (by omega) (by omega) (by omega) h1
   refine ⟨s2,h3,fun j m hm=>?_⟩
   cases m with
   | zero=>omega
   | succ m=>rw [l]; exact h4 j m (by omega)
 obtain ⟨e,h1,l⟩:=v (n - b) b s rfl (Nat.le_refl _) hb h0
 exact ⟨e,h1,fun j=>l j FU (DH (by omega))⟩
theorem X3 {S R:Type} (f:Nat → S → Int → Ag R) (n:Nat) (g:S → Prop) (a:Nat → Bool) (aa l:R → Prop) (hn:n < 4611686018427387904)
  (hs:∀ k s,k < n → g s → (a k = true ∧ ∃ r,aa r ∧ ∀ m,f (m + 1) s (k:Int) = some r) ∨ (a k = false ∧ ∃ h,g h ∧ ∀ m,f (m + 1) s (k:Int) = f m h ((k + 1:Nat):Int)))
  (he:∀ s,g s → ∃ r,l r ∧ ∀ m,f (m + 1) s (n:Int) = some r) {s:S} (h0:g s):∃ r,f FU s 0 = some r ∧ (((List.range n).any a = true ∧ aa r) ∨ ((List.range n).any a = false ∧ l r)):=by
 have ab:∀ d k m s,n - k = d → k ≤ n → d < m → g s → ∃ r,f m s (k:Int) = some r ∧ (((List.range' k d).any a = true ∧ aa r) ∨ ((List.range' k d).any a = false ∧ l r)):=by
  intro d
  induction d with
  | zero =>
   intro k m s hd hk hm u
   have:k = n:=by omega
   subst this
   cases m with
   | zero=>omega
   | succ m =>
    obtain ⟨r,h1,e⟩:=he s u
    exact ⟨r,e m,.inr ⟨rfl,h1⟩⟩
  | succ d ih =>
   intro k m s hd hk hm u
   cases m with
   | zero=>omega
   | succ m =>
    rw [List.range'_succ,List.any_cons]
    rcases hs k s (by omega) u with ⟨h1,r,e,v⟩ | ⟨h1,h,e,v⟩
    ·exact ⟨r,v m,.inl ⟨by rw [h1]; rfl,e⟩⟩
    ·rw [v,h1,Bool.false_or]
     exact ih (k + 1) m h (by omega) (by omega) (by omega) e
 have:=ab n 0 FU s rfl (by omega) (DH hn) h0
 rwa [← List.range_eq_range'] at this
structure RepF (t:BV) (least:Int):Prop where
 tr:XC t
 c16:t.2.2.1 ≤ 16
 n6:t.1.length ≤ 6
 l0:0 ≤ least ∧ least ≤ 80
theorem RepF.del {t:BV} {h:Int} (f:RepF t h) {i k:Nat} (m:i < t.1.length) (g:k < t.1.length) {p q:Int} (e:0 ≤ p ∧ p ≤ 4) (l:0 ≤ q ∧ q ≤ 4):Us (Hh t i) (Hh t k) p q :=
 ⟨JX f.tr m,JX f.tr g,f.tr.can.n1,f.c16,rfl,e,l⟩
def TM (t:BV) (least:Int) (i k:Nat):Bool:=KS (Hh t i) (Hh t k) 0 0 least
theorem Rh {n i:Nat} (h:i < n):(List.replicate n (0:Int))[i]? = some 0:=by simp [h]
theorem Xg {t:BV} {e:Int} (f:RepF t e):Hs t (List.replicate t.1.length 0) e = some (J1 (TM t e) t.1.length t.1.length):=by
 have u:=f.n6
 unfold Hs
 rw [Ob f.tr,Aa]
 refine Nx (D7 (G5 t) (List.replicate t.1.length 0) e) (fun l i=>D6 (G5 t) (i:Int) (List.replicate t.1.length 0) e l) _ _ (by omega) (fun m s i g=>?_) (fun l i m s k g h v=>?_) (fun l i m s g=>?_) (fun m s=>?_)
 ·rw [D7,if_pos (by rw [DZ]; simp; omega),AD (by omega)]
 ·rw [D6,if_pos (by rw [DZ]; simp; omega)]
  unfold Bk TM
  dsimp only
  rw [AY,Is t g,Aa,AY,Is t h,Aa,AY,Rh g,Aa,AY,Rh h,Aa,Np (f.del g h (by omega) (by omega)) f.l0,Aa,Bt (by simp; omega),Aa,AD (by omega)]
  cases KS (Hh t i) (Hh t k) 0 0 e <;> rfl
 ·rw [D6,if_neg (by rw [DZ]; simp),AD (by omega)]
 ·rw [D7,if_neg (by rw [DZ]; simp)]
theorem RK {t:BV} {e:Int} (f:RepF t e):Ix t (List.replicate t.1.length 0) e = some (J1 (TM t e) t.1.length t.1.length):=by
 have u:=f.n6
 unfold Ix
 rw [LS f.tr,Aa]
 refine Nx (EX (G5 t) (List.replicate t.1.length 0) e) (fun l i=>EW (G5 t) (List.replicate t.1.length 0) (i:Int) (Hh t i) e l) _ _ (by omega) (fun m s i g=>?_) (fun l i m s k g h v=>?_) (fun l i m s g=>?_) (fun m s=>?_)
 ·rw [EX,if_pos (by rw [DZ]; simp; omega),AY,Is t g,Aa,AD (by omega)]
 ·rw [EW,if_pos (by rw [DZ]; simp; omega)]
  unfold Bk TM
  dsimp only
  rw [AY,Is t h,Aa,AY,Rh g,Aa,AY,Rh h,Aa,RJ (f.del g h (by omega) (by omega)) f.l0,Aa,Bool.not_not,Bt (by simp; omega),Aa,AD (by omega)]
  cases KS (Hh t i) (Hh t k) 0 0 e <;> rfl
 ·rw [EW,if_neg (by rw [DZ]; simp),AD (by omega)]
 ·rw [EX,if_neg (by rw [DZ]; simp)]
def OQ (t:BV) (least:Int):Bool:=((J1 (TM t least) t.1.length t.1.length).length:Int) == 0
theorem Nn {t:BV} {e:Int} (f:RepF t e):Gf t e = some (OQ t e):=by
 have g:=f.n6
 unfold Gf OQ
 rw [N7 (by omega),Aa,Xg f,Aa]
def Oq (t:BV) (i k:Nat):BV:=(t.1,t.2.1,t.2.2.1,(t.2.2.2.set i (IK t.2.2.2 k)).set k (IK t.2.2.2 i))
theorem Aal {t:BV} {s:Int} (f:RepF t s) {i k:Nat} (u:i < t.1.length) (m:k < t.1.length):RepF (Oq t i k) s:=by
 have v:=f.tr.mat
 refine ⟨⟨f.tr.can,by unfold Oq; simpa using v,fun j l=>?_⟩,f.c16,f.n6,f.l0⟩
 have h1:=f.tr.inR i u
 have h2:=f.tr.inR k m
 have h3:=f.tr.inR j l
 unfold Oq
 unfold Oq at l
 dsimp only at l ⊢
 have e:IK ((t.2.2.2.set i (IK t.2.2.2 k)).set k (IK t.2.2.2 i)) j = if k = j then IK t.2.2.2 i else if i = j then IK t.2.2.2 k else IK t.2.2.2 j:=by
  conv=>lhs; unfold IK
  rw [List.getElem?_set,List.length_set,List.getElem?_set,v]
  by_cases g:k = j
  ·rw [if_pos g,if_pos m,if_pos g]; rfl
  ·rw [if_neg g,if_neg g]
   by_cases h:i = j
   ·rw [if_pos h,if_pos u,if_pos h]; rfl
   ·rw [if_neg h,if_neg h]; rfl
 rw [e]
 split
 ·exact h1
 ·split
  ·exact h2
  ·exact h3
theorem Tk {t:BV} {e:Int} (f:RepF t e) {i k:Nat} (m:i < t.1.length) (h:k < t.1.length):Id t (i:Int) (k:Int) = some (Oq t i k):=by
 have s:=f.tr.mat
 have g:=f.n6
 have l:=f.tr.can.le
 unfold Id
 rw [KO (by omega) (by omega) (by omega),Aa]
 unfold Bk Oq
 dsimp only
 rw [AY,J9 (by omega),Aa,AY,J9 (by omega),Aa,Aa,JV,Jl (by simp; omega),Aa,JV]
theorem WZ {t:BV} {e:Int} (f:RepF t e) {i k:Nat} (m:i < t.1.length) (h:k < t.1.length):Kl t (i:Int) (k:Int) = some (Oq t i k):=by
 have s:=f.tr.mat
 have g:=f.n6
 have l:=f.tr.can.le
 unfold Kl
 rw [OK (by omega) (by omega) (by omega),Aa]
 unfold Oq
 dsimp only
 rw [AY,J9 (by omega),Aa,AY,J9 (by omega),Aa,Aa,JV,Jl (by simp; omega),Aa,JV]
def SM (t:BV) (least:Int) (i:Nat):Ag Nat:=(List.range' (i + 1) (t.1.length - (i + 1))).find? fun k=>OQ (Oq t i k) least
def VI (t:BV) (least:Int):Ag Nat:=(List.range t.1.length).find? fun i=>(SM t least i).isSome
theorem Tl {t:BV} {e:Int} (f:RepF t e):∃ r,Ie t e = some r ∧ r.2.2 = (VI t e).isSome:=by
 have l:=f.n6
 unfold Ie
 rw [Th (Dm t e) t.1.length (fun i=>(SM t e i).isSome) (fun i=>some ((i:Int),((SM t e i).getD 0:Int),true)) (some (0,0,false)) (by omega) (fun m i g=>?_) (fun m=>?_)]
 ·unfold VI
  cases (List.range t.1.length).find? fun i=>(SM t e i).isSome with
  | none=>exact ⟨_,rfl,rfl⟩
  | some i=>exact ⟨_,rfl,rfl⟩
 ·rw [Dm,if_pos (by simp; omega),AD (by omega)]
  rw [YU (Ef t (i:Int) e (Dm t e m)) t.1.length (fun k=>OQ (Oq t i k) e) (fun k=>some ((i:Int),(k:Int),true)) (Dm t e m ((i + 1:Nat):Int)) (by omega) (fun m k h=>?_) (fun m=>?_) (j:=i + 1) (by omega)]
  ·unfold SM
   cases (List.range' (i + 1) (t.1.length - (i + 1))).find? fun k=>OQ (Oq t i k) e <;> rfl
  ·rw [Ef,if_pos (by simp; omega),Tk f g h,Aa,Nn (Aal f g h),Aa,AD (by omega)]
  ·rw [Ef,if_neg (by simp),AD (by omega)]
 ·rw [Dm,if_neg (by simp)]
theorem WX {t:BV} {g:Int} (f:RepF t g):∃ r,Ki t g = some r ∧ decide (0 ≤ r.1) = (VI t g).isSome:=by
 have s:=f.n6
 unfold Ki
 rw [N7 (by omega),Aa]
 rw [Th (Ei t (List.replicate t.1.length 0) g) t.1.length (fun i=>(SM t g i).isSome) (fun i=>some ((i:Int),((SM t g i).getD 0:Int))) (some (-1,-1)) (by omega) (fun m i h=>?_) (fun m=>?_)]
 ·unfold VI
  cases (List.range t.1.length).find? fun i=>(SM t g i).isSome with
  | none=>exact ⟨_,rfl,rfl⟩
  | some i=>exact ⟨_,rfl,by simp⟩
 ·rw [Ei,if_pos (by simp; omega),AD (by omega)]
  rw [YU (FC t (i:Int) (List.replicate t.1.length 0) g (Ei t (List.replicate t.1.length 0) g m)) t.1.length (fun k=>OQ (Oq t i k) g) (fun k=>some ((i:Int),(k:Int))) (Ei t (List.replicate t.1.length 0) g m ((i + 1:Nat):Int)) (by omega) (fun m k l=>?_) (fun m=>?_) (j:=i + 1) (by omega)]
  ·unfold SM
   cases (List.range' (i + 1) (t.1.length - (i + 1))).find? fun k=>OQ (Oq t i k) g <;> rfl
  ·have e:=RK (Aal f h l)
   rw [show (Oq t i k).1.length = t.1.length by rfl] at e
   rw [FC,if_pos (by simp; omega),WZ f h l,Aa,e,Aa,AD (by omega)]
   rfl
  ·rw [FC,if_neg (by simp),AD (by omega)]
 ·rw [Ei,if_neg (by simp)]
def Hp (t:BV) (least:Int) (i k:Nat) (q p:Int):Bool:=!KS (Hh t i) (Hh t k) q p least
def HM (i k q p:Nat):Nat:=i * 150 + k * 25 + q * 5 + p * 1
def X6 (ds:List Int):Prop:=∀ i,i < ds.length → ∃ q:Nat,q < 5 ∧ ds[i]? = some (q:Int)
theorem W2 {ds:List Int} (h:X6 ds) {p:Nat} (g:p < 5):X6 (ds ++ [(p:Int)]):=by
 intro i f
 rw [CD,List.length_singleton] at f
 by_cases e:i < ds.length
 ·obtain ⟨q,h1,l⟩:=h i e
  exact ⟨q,h1,by rw [List.getElem?_append_left e]; exact l⟩
 ·have:i = ds.length:=by omega
  subst this
  exact ⟨p,g,by simp⟩
theorem Aau {ds:List Int} {i q:Nat} (h:ds[i]? = some (q:Int)):ds.getD i 0 = (q:Int):=by rw [List.getD_eq_getElem?_getD,h]; rfl
structure Qe (t:BV) (least:Int) (l:List Int):Prop where
 len:l.length = 900
 val:∀ i k q p:Nat,i < t.1.length → k < t.1.length → q < 5 → p < 5 → l[HM i k q p]? = some 0 ∨ l[HM i k q p]? = some (if Hp t least i k (q:Int) (p:Int) = true then 1 else 2)
theorem Yy {t:BV} {g:Int} (f:RepF t g) {l:List Int} (h:Qe t g l) {i k q p:Nat} (hi:i < t.1.length) (hk:k < t.1.length) (hq:q < 5) (hp:p < 5) :
  ∃ l',Qe t g l' ∧ G8 (G5 t,g,l) (i:Int) (k:Int) (q:Int) (p:Int) = some (Hp t g i k (q:Int) (p:Int),(G5 t,g,l')):=by
 have h6:=f.n6
 have u:(decide (0 ≤ (i:Int)) && decide ((i:Int) < 6)) = true:=by simp; omega
 have v:(decide (0 ≤ (k:Int)) && decide ((k:Int) < 6)) = true:=by simp; omega
 have s:(decide (0 ≤ (q:Int)) && decide ((q:Int) < 5)) = true:=by simp; omega
 have c4:(decide (0 ≤ (p:Int)) && decide ((p:Int) < 5)) = true:=by simp; omega
 have m:HM i k q p < 900:=by unfold HM; omega
 unfold G8 Bk Fz
 dsimp only
 rw [if_pos u,if_pos v,if_pos s,if_pos c4]
 simp only [Int.toNat_natCast]
 rw [show i * 150 + k * 25 + q * 5 + p * 1 = HM i k q p by rfl]
 rcases h.val i k q p hi hk hq hp with h0 | h0
 ·rw [h0,Aa,if_pos (by simp),AY,Is t hi,Aa,AY,Is t hk,Aa,RJ (f.del hi hk (by omega) (by omega)) f.l0,Aa]
  refine ⟨l.set (HM i k q p) (if Hp t g i k (q:Int) (p:Int) = true then 1 else 2),⟨by rw [List.length_set]; exact h.len,fun i' k' q' p' aj an al am=>?_⟩,?_⟩
  ·by_cases e:HM i k q p = HM i' k' q' p'
   ·have:i = i' ∧ k = k' ∧ q = q' ∧ p = p':=by unfold HM at e; omega
    obtain ⟨rfl,rfl,rfl,rfl⟩:=this
    right
    rw [List.getElem?_set_self (by rw [h.len]; exact m)]
   ·rw [List.getElem?_set_ne e]
    exact h.val i' k' q' p' aj an al am
  ·have e:Hp t g i k (q:Int) (p:Int) = !KS (Hh t i) (Hh t k) (q:Int) (p:Int) g:=rfl
   rw [e]
   unfold NL
   rw [h.len,if_pos m]
   cases KS (Hh t i) (Hh t k) (q:Int) (p:Int) g with
   | false =>
    simp only [Bool.not_false,if_true,Aa]
    rw [if_pos u,if_pos v,if_pos s,if_pos c4,List.getElem?_set_self (by rw [h.len]; exact m),Aa]
    rfl
   | true =>
    simp only [Bool.not_true,Bool.false_eq_true,if_false,Aa]
    rw [if_pos m,Aa,if_pos u,if_pos v,if_pos s,if_pos c4,List.getElem?_set_self (by rw [h.len]; exact m),Aa]
    rfl
 ·refine ⟨l,h,?_⟩
  rw [h0,Aa]
  have ak:((if Hp t g i k (q:Int) (p:Int) = true then (1:Int) else 2) == 0) = false:=by split <;> rfl
  rw [ak,if_neg (by simp),if_pos u,if_pos v,if_pos s,if_pos c4,Aa]
  cases Hp t g i k (q:Int) (p:Int) <;> rfl
theorem M6 (a:Nat → Bool) (k:Nat):(List.range (k + 1)).all a = ((List.range k).all a && a k):=by rw [List.range_succ,List.all_append]; simp
abbrev Tw:=(List FY) × Int × (List Int)
theorem ZS {t:BV} {e:Int} (f:RepF t e) {l:List Int} (h:Qe t e l) {ds:List Int} (hd:X6 ds) (hl:ds.length < t.1.length) {p:Nat} (hp:p < 5) (s:Int) (hs:0 ≤ s ∧ s ≤ 1000) :
  ∃ g,Qe t e g ∧ ∀ (v:Tw → Ag ((List Int) × Tw)) (aa:Tw → (List Int) → Int → Ag ((List Int) × Tw)),CP ds (p:Int) v aa s FU (G5 t,e,l) true 0 =
   if OV (Hp t e) ds (p:Int) = true then Option.bind (aa (G5 t,e,g) (ds ++ [(p:Int)]) (s - p)) fun u=>(if (decide (0 < (List.length u.1:Int))) = true then some (u.1,u.2) else v u.2) else v (G5 t,e,g):=by
 have h6:=f.n6
 refine Exists.elim (J8 (fun (j:(Tw → Ag ((List Int) × Tw)) × (Tw → (List Int) → Int → Ag ((List Int) × Tw))) m (z:Tw × Bool) k=>CP ds (p:Int) j.1 j.2 s m z.1 z.2 k) ds.length
  (fun k z=>∃ g,Qe t e g ∧ z.1 = (G5 t,e,g) ∧ z.2 = (List.range k).all fun i=>Hp t e i ds.length (ds.getD i 0) (p:Int))
  (fun j z=>if (!z.2) = true then j.1 z.1 else Option.bind (j.2 z.1 (ds ++ [(p:Int)]) (s - p)) fun u=>(if (decide (0 < (List.length u.1:Int))) = true then some (u.1,u.2) else j.1 u.2)) (by omega)
  (fun k z _ hk hi=>?_) (fun z hi j m=>?_) (b:=0) (by omega) (s:=((G5 t,e,l),true)) ⟨l,h,rfl,rfl⟩) ?_
 ·obtain ⟨x,b⟩:=z
  obtain ⟨l1,g1,g2,g3⟩:=hi
  dsimp only at g2 g3
  subst g2
  obtain ⟨q,hq,ac⟩:=hd k hk
  cases hb:b with
  | false =>
   refine ⟨((G5 t,e,l1),false),⟨l1,g1,rfl,?_⟩,fun j m=>?_⟩
   ·rw [M6,← g3,hb]; rfl
   ·dsimp only
    rw [CP,if_pos (by simp; omega)]
    unfold Fz
    dsimp only
    rw [AY,ac,Aa,if_neg (by simp),AD (by omega)]
  | true =>
   obtain ⟨l2,g4,g5⟩:=Yy f g1 (i:=k) (k:=ds.length) (q:=q) (p:=p) (by omega) hl hq hp
   refine ⟨((G5 t,e,l2),Hp t e k ds.length (q:Int) (p:Int)),⟨l2,g4,rfl,?_⟩,fun j m=>?_⟩
   ·rw [M6,← g3,hb,Bool.true_and,Aau ac]
   ·dsimp only
    rw [CP,if_pos (by simp; omega)]
    unfold Fz
    dsimp only
    rw [AY,ac,Aa,if_pos rfl,g5,Aa,AD (by omega)]
 ·obtain ⟨x,b⟩:=z
  dsimp only
  rw [CP,if_neg (by simp),SQ _ (by omega),Aa,Bt (by simp; omega),Aa,A6 (by omega) (by omega)]
 ·rintro ⟨x',b'⟩ ⟨⟨g,h1,h2,h3⟩,h4⟩
  dsimp only at h2 h3
  subst h2
  refine ⟨g,h1,fun v aa=>?_⟩
  have:=h4 (v,aa)
  dsimp only at this
  refine Eq.trans this ?_
  rw [h3]
  unfold OV
  cases (List.range ds.length).all fun i=>Hp t e i ds.length (ds.getD i 0) (p:Int) <;> rfl
theorem Yz {t:BV} {g:Int} (f:RepF t g):∀ (r:Nat) (ds:List Int) (s:Nat) (m:Nat) (l:List Int),ds.length + r = t.1.length → X6 ds → s ≤ 100 → r < m → Qe t g l →
  ∃ out h,Qe t g h ∧ Db m (G5 t,g,l) ds (s:Int) = some (out,(G5 t,g,h)) ∧ decide (0 < out.length) = LC (Hp t g) r ds s:=by
 have h6:=f.n6
 have h1:=f.tr.can.l1
 intro r
 induction r with
 | zero =>
  intro ds s m l hl hd hs hm hk
  cases m with
  | zero=>omega
  | succ m =>
   rw [Db]
   unfold FT
   rw [if_pos (by rw [DZ,beq_iff_eq]; omega),LC]
   by_cases e:s = 0
   ·subst e
    exact ⟨ds,l,hk,by rfl,by simp; omega⟩
   ·exact ⟨[],l,hk,by rw [if_pos (by simp; omega)],by simp [e]⟩
 | succ r ih =>
  intro ds s m l hl hd hs hm hk
  cases m with
  | zero=>omega
  | succ m =>
   rw [Db]
   unfold FT
   rw [if_neg (by rw [DZ,beq_iff_eq]; omega)]
   refine Exists.elim (X3 (CQ (s:Int) ds (Db m)) (min s 4 + 1) (fun z=>∃ h,Qe t g h ∧ z = (G5 t,g,h)) (fun (p:Nat)=>OV (Hp t g) ds (p:Int) && LC (Hp t g) r (ds ++ [(p:Int)]) (s - p))
    (fun v=>∃ h,Qe t g h ∧ v.2 = (G5 t,g,h) ∧ 0 < v.1.length) (fun v=>∃ h,Qe t g h ∧ v = ([],(G5 t,g,h))) (by omega) (fun p z hp hz=>?_) (fun z hz=>?_) (s:=(G5 t,g,l)) ⟨l,hk,rfl⟩) ?_
   ·obtain ⟨l1,g1,rfl⟩:=hz
    obtain ⟨l2,g2,g3⟩:=ZS f g1 hd (by omega) (p:=p) (by omega) (s:Int) (by omega)
    have aa:min (s:Int) 4 = ((min s 4:Nat):Int):=by omega
    by_cases u:OV (Hp t g) ds (p:Int) = true
    ·obtain ⟨out,l3,g4,g5,g6⟩:=ih (ds ++ [(p:Int)]) (s - p) m l2 (by simp; omega) (W2 hd (by omega)) (by omega) (by omega) g2
     rw [show ((s - p:Nat):Int) = (s:Int) - (p:Int) by omega] at g5
     cases he:LC (Hp t g) r (ds ++ [(p:Int)]) (s - p) with
     | true =>
      rw [he,C9] at g6
      refine .inl ⟨by rw [u]; rfl,(out,(G5 t,g,l3)),⟨l3,g4,rfl,g6⟩,fun q=>?_⟩
      rw [CQ,JY,Aa,aa,if_pos (by simp; omega)]
      unfold Bk
      dsimp only
      rw [g3,if_pos u,g5,Aa,if_pos (by simpa using g6)]
     | false =>
      rw [he,decide_eq_false_iff_not] at g6
      refine .inr ⟨by rw [u]; rfl,(G5 t,g,l3),⟨l3,g4,rfl⟩,fun q=>?_⟩
      rw [CQ,JY,Aa,aa,if_pos (by simp; omega)]
      unfold Bk
      dsimp only
      rw [g3,if_pos u,g5,Aa,if_neg (by simpa using g6),AD (by omega)]
    ·refine .inr ⟨by simp [u],(G5 t,g,l2),⟨l2,g2,rfl⟩,fun q=>?_⟩
     rw [CQ,JY,Aa,aa,if_pos (by simp; omega)]
     unfold Bk
     dsimp only
     rw [g3,if_neg u,AD (by omega)]
   ·obtain ⟨l1,g1,rfl⟩:=hz
    have aa:min (s:Int) 4 = ((min s 4:Nat):Int):=by omega
    refine ⟨([],(G5 t,g,l1)),⟨l1,g1,rfl⟩,fun q=>?_⟩
    rw [CQ,JY,Aa,aa,if_neg (by rw [C9]; omega)]
   ·rintro v ⟨h2,h3⟩
    rw [LC]
    rcases h3 with ⟨h4,h,h5,an,h7⟩ | ⟨h4,h,h5,an⟩
    ·exact ⟨v.1,h,h5,by rw [h2,← an],by rw [h4]; simpa using h7⟩
    ·subst an
     exact ⟨[],h,h5,h2,by rw [h4]; rfl⟩
theorem Vg {t:BV} {e:Int} (f:RepF t e):∃ r,Jp t e = some r ∧ decide (0 < r.1.length) = LD (Hp t e) t.1.length []:=by
 have h6:=f.n6
 unfold Jp
 rw [LS f.tr,Aa]
 have al:Qe t e (List.replicate 900 0):=⟨List.length_replicate,fun i k q p hi hk hq hp=>.inl (by rw [List.getElem?_replicate,if_pos (by unfold HM; omega)])⟩
 refine Exists.elim (X3 (Eb t) (4 * t.1.length + 1) (fun z=>∃ l',Qe t e l' ∧ z = (G5 t,e,l')) (fun s=>LC (Hp t e) t.1.length [] s)
  (fun g=>0 < g.1.length) (fun g=>g.1 = []) (by omega) (fun s z hs l=>?_) (fun z l=>?_) (s:=(G5 t,e,List.replicate 900 0)) ⟨_,al,rfl⟩) ?_
 ·obtain ⟨l1,g1,rfl⟩:=l
  obtain ⟨out,l3,g4,g5,h⟩:=Yz f t.1.length [] s FU l1 (by simp) (fun i hi=>by simp at hi) (by omega) (DH (by omega)) g1
  cases he:LC (Hp t e) t.1.length [] s with
  | true =>
   rw [he,C9] at h
   refine .inl ⟨rfl,(out,(s:Int)),h,fun q=>?_⟩
   rw [Eb,A6 (by omega) (by omega),if_pos (by simp; omega)]
   unfold HQ
   rw [g5,Aa,if_pos (by simpa using h)]
  | false =>
   rw [he,decide_eq_false_iff_not] at h
   refine .inr ⟨rfl,(G5 t,e,l3),⟨l3,g4,rfl⟩,fun q=>?_⟩
   rw [Eb,A6 (by omega) (by omega),if_pos (by simp; omega)]
   unfold HQ
   rw [g5,Aa,if_neg (by simpa using h),AD (by omega)]
 ·obtain ⟨l1,g1,rfl⟩:=l
  refine ⟨([],0),rfl,fun q=>?_⟩
  rw [Eb,A6 (by omega) (by omega),if_neg (by simp; omega)]
 ·rintro g ⟨h2,h3⟩
  refine ⟨g,h2,?_⟩
  rcases h3 with ⟨u,m⟩ | ⟨u,m⟩
  ·have:LD (Hp t e) t.1.length [] = true:=by
    rw [R2]
    obtain ⟨s,h7,v⟩:=List.any_eq_true.1 u
    exact ⟨s,by have:=List.mem_range.1 h7; omega,v⟩
   rw [this]
   simpa using m
  ·have:LD (Hp t e) t.1.length [] = false:=by
    rw [← Bool.not_eq_true,R2]
    rintro ⟨s,h7,v⟩
    have:=List.any_eq_false.1 u s (List.mem_range.2 (by omega))
    exact this v
   rw [this,m]
   rfl
structure T0 (t:BV) (least:Int) (l:List Bool) (c:Nat):Prop where
 len:l.length = 900
 val:∀ i k q p:Nat,i < k → k < t.1.length → q < 5 → p < 5 → HM i k q p < c → l[HM i k q p]? = some (!Hp t least i k (q:Int) (p:Int))
abbrev O9:=(List Bool) × Int × (List Int) × Int
theorem Acn {t:BV} {e:Int} (f:RepF t e) {l:List Bool} (h:T0 t e l 900) {ds:List Int} (hd:X6 ds) (hl:ds.length < t.1.length) {p:Nat} (hp:p < 5) (s:Int) (hs:0 ≤ s ∧ s ≤ 1000)
  (y:O9) (hy:y.1 = l) (g:O9 → Ag O9) (u:O9 → (List Int) → Int → Ag O9):CJ ds (p:Int) u s g FU y true 0 =
   if OV (Hp t e) ds (p:Int) = true then Option.bind (u y (ds ++ [(p:Int)]) (s + p)) g else g y:=by
 have h6:=f.n6
 refine EF (fun m (b:Bool) k=>CJ ds (p:Int) u s g m y b k) ds.length (fun k=>(List.range k).all fun i=>Hp t e i ds.length (ds.getD i 0) (p:Int)) _ (by omega) (j:=0) (by omega) (fun m k _ v=>?_) (fun m=>?_)
 ·obtain ⟨q,hq,aa⟩:=hd k v
  rw [CJ,if_pos (by simp; omega)]
  unfold Fz
  dsimp only
  rw [AY,aa,Aa,M6,AD (by omega)]
  cases (List.range k).all fun i=>Hp t e i ds.length (ds.getD i 0) (p:Int) with
  | false=>rfl
  | true =>
   have c1:(decide (0 ≤ (k:Int)) && decide ((k:Int) < 6)) = true:=by simp; omega
   have c2:(decide (0 ≤ (ds.length:Int)) && decide ((ds.length:Int) < 6)) = true:=by simp; omega
   have c3:(decide (0 ≤ (q:Int)) && decide ((q:Int) < 5)) = true:=by simp; omega
   have c4:(decide (0 ≤ (p:Int)) && decide ((p:Int) < 5)) = true:=by simp; omega
   rw [if_pos rfl,if_pos c1,if_pos c2,if_pos c3,if_pos c4]
   simp only [Int.toNat_natCast]
   rw [show k * 150 + ds.length * 25 + q * 5 + p * 1 = HM k ds.length q p by rfl,hy,h.val k ds.length q p v hl hq hp (by unfold HM; omega),Aa,Bool.not_not,Bool.true_and,Aau aa]
 ·rw [CJ,if_neg (by simp),Na _ (by omega),Aa,Bt (by simp; omega),Aa,A6 (by omega) (by omega)]
  rfl
theorem Zc {t:BV} {ab:Int} (f:RepF t ab) {l:List Bool} (hc:T0 t ab l 900):∀ (r:Nat) (ds:List Int) (s:Nat) (m:Nat) (g:List Int) (h:Int),ds.length + r = t.1.length → X6 ds → s ≤ 4 * ds.length → r < m →
  ∃ best' sm',Ck m (l,(t.1.length:Int),g,h) ds (s:Int) = some (l,(t.1.length:Int),best',sm') ∧ (!best'.isEmpty) = ((!g.isEmpty) || LD (Hp t ab) r ds):=by
 have h6:=f.n6
 have h1:=f.tr.can.l1
 intro r
 induction r with
 | zero =>
  intro ds s m g h hl hd hs hm
  cases m with
  | zero=>omega
  | succ m =>
   rw [Ck]
   unfold EM Fz
   dsimp only
   have aj:ds.isEmpty = false:=by rw [List.isEmpty_eq_false_iff]; intro e; rw [e] at hl; simp at hl; omega
   have an:(if ((ds.length:Int) == (t.1.length:Int)) = true then Option.bind (Ft ds) fun ac=>(if (List.isEmpty ac) = true then none else some (l,(t.1.length:Int),ac,(s:Int))) else Ct ds (Ck m) (s:Int) FU (l,(t.1.length:Int),g,h) 0) = some (l,(t.1.length:Int),ds,(s:Int)):=by
    rw [if_pos (by rw [beq_iff_eq]; omega),Na _ (by omega),Aa,aj,if_neg (by simp)]
   rw [LD,Bool.or_true]
   cases u:g.isEmpty with
   | true =>
    rw [if_neg (by simp),if_neg (by simp),an]
    exact ⟨ds,_,rfl,by rw [aj]; rfl⟩
   | false =>
    rw [if_pos (by simp)]
    by_cases ad:h ≤ (s:Int)
    ·rw [if_pos (decide_eq_true ad)]
     exact ⟨g,h,rfl,by rw [u]; rfl⟩
    ·rw [if_neg (by simpa using ad),an]
     exact ⟨ds,_,rfl,by rw [aj]; rfl⟩
 | succ r ih =>
  intro ds s m g h hl hd hs hm
  cases m with
  | zero=>omega
  | succ m =>
   rw [Ck]
   unfold EM Fz
   dsimp only
   have go:∃ best' sm',(if ((ds.length:Int) == (t.1.length:Int)) = true then Option.bind (Ft ds) fun ac=>(if (List.isEmpty ac) = true then none else some (l,(t.1.length:Int),ac,(s:Int))) else Ct ds (Ck m) (s:Int) FU (l,(t.1.length:Int),g,h) 0) = some (l,(t.1.length:Int),best',sm') ∧ (!best'.isEmpty) = ((!g.isEmpty) || LD (Hp t ab) (r + 1) ds):=by
    rw [if_neg (by rw [beq_iff_eq]; omega)]
    refine Exists.elim (J8 (fun (_:Unit) m' (z:O9) k=>Ct ds (Ck m) (s:Int) m' z k) 5 (fun k z=>∃ v s',z = (l,(t.1.length:Int),v,s') ∧ (!v.isEmpty) = ((!g.isEmpty) || (List.range k).any fun (p:Nat)=>OV (Hp t ab) ds (p:Int) && LD (Hp t ab) r (ds ++ [(p:Int)])))
     (fun _ z=>some z) (by omega) (fun p z _ hp hz=>?_) (fun z hz j m'=>?_) (b:=0) (by omega) (s:=(l,(t.1.length:Int),g,h)) ⟨g,h,rfl,by simp⟩) ?_
    ·obtain ⟨v,s',rfl,u⟩:=hz
     have ao:=Acn f hc hd (by omega) (p:=p) hp (s:Int) (by omega) (l,(t.1.length:Int),v,s') rfl
     by_cases hf:OV (Hp t ab) ds (p:Int) = true
     ·obtain ⟨b2,s2,g1,g2⟩:=ih (ds ++ [(p:Int)]) (s + p) m v s' (by simp; omega) (W2 hd hp) (by simp; omega) (by omega)
      refine ⟨(l,(t.1.length:Int),b2,s2),⟨b2,s2,rfl,?_⟩,fun _ m'=>?_⟩
      ·rw [g2,u,List.range_succ,List.any_append,List.any_cons,List.any_nil,Bool.or_false,hf,Bool.true_and,Bool.or_assoc]
      ·rw [Ct,if_pos (by simp; omega)]
       unfold Bk
       dsimp only
       rw [ao,if_pos hf,show (s:Int) + (p:Int) = ((s + p:Nat):Int) by omega,g1,Aa,AD (by omega)]
     ·refine ⟨(l,(t.1.length:Int),v,s'),⟨v,s',rfl,?_⟩,fun _ m'=>?_⟩
      ·have ay:OV (Hp t ab) ds (p:Int) = false:=by simpa using hf
       rw [u,List.range_succ,List.any_append,List.any_cons,List.any_nil,Bool.or_false,ay,Bool.false_and,Bool.or_false]
      ·rw [Ct,if_pos (by simp; omega)]
       unfold Bk
       dsimp only
       rw [ao,if_neg hf,AD (by omega)]
    ·rw [Ct,if_neg (by decide)]
    ·rintro z ⟨⟨v,s',rfl,u⟩,hz⟩
     exact ⟨v,s',hz (),u⟩
   cases u:g.isEmpty with
   | true =>
    rw [if_neg (by simp),if_neg (by simp)]
    rw [u] at go
    exact go
   | false =>
    rw [if_pos (by simp)]
    by_cases ad:h ≤ (s:Int)
    ·rw [if_pos (decide_eq_true ad)]
     exact ⟨g,h,rfl,by rw [u]; rfl⟩
    ·rw [if_neg (by simpa using ad)]
     rw [u] at go
     exact go
theorem Ts {t:BV} {f:Int} {l:List Bool} {c c':Nat} (h:T0 t f l c) (u:∀ i k q p:Nat,i < k → k < t.1.length → q < 5 → p < 5 → HM i k q p < c' → HM i k q p < c):T0 t f l c' :=
 ⟨h.len,fun i k q p h1 e g m s=>h.val i k q p h1 e g m (u i k q p h1 e g m s)⟩
def O3 (t:BV) (l:List Bool):O9:=(l,(t.1.length:Int),[],0)
theorem Sm {t:BV} {h:Int} (f:RepF t h):∃ r,HG t h = some r ∧ (!r.1.isEmpty) = LD (Hp t h) t.1.length []:=by
 have h6:=f.n6
 unfold HG
 rw [Ob f.tr,Aa,DZ]
 have h0:T0 t h (List.replicate 900 false) (HM 0 1 0 0):=⟨List.length_replicate,fun i k q p h1 h2 h3 h4 h5=>by unfold HM at h5; omega⟩
 refine Exists.elim (J8 (fun (_:Unit) m (z:O9) i=>DP (G5 t) h m z i) t.1.length (fun i z=>∃ l,z = O3 t l ∧ T0 t h l (HM i (i + 1) 0 0)) (fun _ z=>Option.bind (GU z [] 0) fun ap=>some (ap.2.2.1,ap.2.2.2)) (by omega) (fun i z _ hi g=>?_) (fun z g j m=>?_) (b:=0) (by omega) (s:=O3 t (List.replicate 900 false)) ⟨_,rfl,h0⟩) ?_
 ·obtain ⟨l,rfl,v⟩:=g
  refine Exists.elim (J8 (fun (u:O9 → Int → Ag Aej) m (z:O9) k=>DO (G5 t) (i:Int) h u m z k) t.1.length (fun k z=>∃ l,z = O3 t l ∧ T0 t h l (HM i k 0 0)) (fun u z=>u z ((i + 1:Nat):Int)) (by omega) (fun k z a3 hk g=>?_) (fun z g j m=>?_) (b:=i + 1) (by omega) (s:=O3 t l) ⟨_,rfl,v⟩) ?_
  ·obtain ⟨l,rfl,v⟩:=g
   refine Exists.elim (J8 (fun (u:O9 → Int → Ag Aej) m (z:O9) p=>DN (G5 t) (i:Int) (k:Int) h u m z p) 5 (fun p z=>∃ l,z = O3 t l ∧ T0 t h l (HM i k p 0)) (fun u z=>u z ((k + 1:Nat):Int)) (by omega) (fun p z _ hp g=>?_) (fun z g j m=>?_) (b:=0) (by omega) (s:=O3 t l) ⟨_,rfl,v⟩) ?_
   ·obtain ⟨l,rfl,v⟩:=g
    refine Exists.elim (J8 (fun (u:O9 → Int → Ag Aej) m (z:O9) q=>DM (G5 t) (i:Int) (k:Int) (p:Int) h u m z q) 5 (fun q z=>∃ l,z = O3 t l ∧ T0 t h l (HM i k p q)) (fun u z=>u z ((p + 1:Nat):Int)) (by omega) (fun q z _ hq g=>?_) (fun z g j m=>?_) (b:=0) (by omega) (s:=O3 t l) ⟨_,rfl,v⟩) ?_
    ·obtain ⟨l,rfl,v⟩:=g
     have c1:(decide (0 ≤ (i:Int)) && decide ((i:Int) < 6)) = true:=by simp; omega
     have c2:(decide (0 ≤ (k:Int)) && decide ((k:Int) < 6)) = true:=by simp; omega
     have c3:(decide (0 ≤ (p:Int)) && decide ((p:Int) < 5)) = true:=by simp; omega
     have c4:(decide (0 ≤ (q:Int)) && decide ((q:Int) < 5)) = true:=by simp; omega
     have am:HM i k p q < 900:=by unfold HM; omega
     refine ⟨O3 t (l.set (HM i k p q) (!Hp t h i k (p:Int) (q:Int))),⟨_,rfl,by rw [List.length_set]; exact v.len,fun i' k' p' q' h1 h2 h3 h4 h5=>?_⟩,fun u m=>?_⟩
     ·by_cases e:HM i k p q = HM i' k' p' q'
      ·have:i = i' ∧ k = k' ∧ p = p' ∧ q = q':=by unfold HM at e; omega
       obtain ⟨rfl,rfl,rfl,rfl⟩:=this
       rw [List.getElem?_set_self (by rw [v.len]; exact am)]
      ·rw [List.getElem?_set_ne e]
       exact v.val i' k' p' q' h1 h2 h3 h4 (by unfold HM at h5 e ⊢; omega)
     ·have e:(!Hp t h i k (p:Int) (q:Int)) = KS (Hh t i) (Hh t k) (p:Int) (q:Int) h:=by unfold Hp; rw [Bool.not_not]
      rw [DM,if_pos (by simp; omega)]
      unfold Bk
      dsimp only
      rw [AY,Is t hi,Aa,AY,Is t hk,Aa,if_pos c1,if_pos c2,if_pos c3,Np (f.del hi hk (by omega) (by omega)) f.l0,Aa,if_pos c4]
      simp only [Int.toNat_natCast]
      rw [show i * 150 + k * 25 + p * 5 + q * 1 = HM i k p q by rfl]
      unfold NL O3
      dsimp only
      rw [v.len,if_pos am,Aa,AD (by omega),e]
    ·obtain ⟨l,rfl,v⟩:=g
     rw [DM,if_neg (by decide),AD (by omega)]
    ·rintro z ⟨⟨l',rfl,ac⟩,g⟩
     refine ⟨O3 t l',⟨l',rfl,Ts ac (fun i' k' p' q' h1 h2 h3 h4 h5=>by unfold HM at h5 ⊢; omega)⟩,fun u m=>?_⟩
     rw [DN,if_pos (by simp; omega)]
     exact g _
   ·rw [DN,if_neg (by decide),AD (by omega)]
   ·rintro z ⟨⟨l',rfl,ac⟩,g⟩
    refine ⟨O3 t l',⟨l',rfl,Ts ac (fun i' k' p' q' h1 h2 h3 h4 h5=>by unfold HM at h5 ⊢; omega)⟩,fun u m=>?_⟩
    rw [DO,if_pos (by rw [DZ]; simp; omega)]
    exact g _
  ·rw [DO,if_neg (by rw [DZ]; simp),AD (by omega)]
  ·rintro z ⟨⟨l',rfl,ac⟩,g⟩
   refine ⟨O3 t l',⟨l',rfl,Ts ac (fun i' k' p' q' h1 h2 h3 h4 h5=>by unfold HM at h5 ⊢; omega)⟩,fun _ m=>?_⟩
   rw [DP,if_pos (by rw [DZ]; simp; omega),AD (by omega)]
   exact g _
 ·rw [DP,if_neg (by rw [DZ]; simp)]
 ·rintro z ⟨⟨l',rfl,ac⟩,g⟩
  obtain ⟨b',s',g1,g2⟩:=Zc f (Ts ac (c':=900) (fun i' k' p' q' h1 h2 h3 h4 h5=>by unfold HM; omega)) t.1.length [] 0 FU [] 0 (by simp) (fun i hi=>by simp at hi) (by simp) (DH (by omega))
  refine ⟨(b',s'),Eq.trans (g ()) ?_,g2⟩
  unfold GU O3
  have aw:Ck FU (l',(t.1.length:Int),[],0) [] 0 = some (l',(t.1.length:Int),b',s'):=g1
  rw [aw,Aa]

def Mc (t:BV) (least:Int):Int × Bool :=
 if (Ln t && (decide (t.2.2.1 ≤ 16) && (decide (t.1.length ≤ 6) && BJ least 0 80))) = true then ((if OQ t least = true then 0 else if (VI t least).isSome = true then 1 else if LD (Hp t least) t.1.length [] = true then 2 else 3),true) else (0,false)
theorem Acr (n:Nat):decide ((n:Int) ≤ 6) = decide (n ≤ 6):=by rw [decide_eq_decide]; omega
theorem To {t:BV} (h:SmT t) (e:Int):Ii t e = some (Mc t e):=by
 have:=h.h1; have:=h.h2; have:=h.h3
 unfold Ii J2 Bk Mc
 dsimp only
 rw [Lo (by omega) (by omega) (by omega),Aa,QK,Aa,Acr]
 cases v:Ln t with
 | false=>rfl
 | true =>
  by_cases l:t.2.2.1 ≤ 16
  ·rw [decide_eq_true l]
   by_cases g:t.1.length ≤ 6
   ·rw [decide_eq_true g]
    cases hl:BJ e 0 80 with
    | false=>rfl
    | true =>
     have f:RepF t e:=⟨NU v,l,g,D9.1 hl⟩
     obtain ⟨r1,s,u⟩:=Tl f
     obtain ⟨r2,m,e4⟩:=Sm f
     simp only [if_true,Bool.not_true,Bool.false_eq_true,if_false,Aa,Bool.and_true]
     rw [Nn f,Aa,s,Aa,u,m,Aa,e4]
     cases OQ t e <;> cases (VI t e).isSome <;> cases LD (Hp t e) t.1.length [] <;> rfl
   ·rw [decide_eq_false g]; rfl
  ·rw [decide_eq_false l]; rfl
theorem SR {t:BV} (h:SmT t) (e:Int):Ib t e = some (Mc t e):=by
 have:=h.h1; have:=h.h2; have:=h.h3
 unfold Ib L5 Bk Mc
 dsimp only
 rw [OL (by omega) (by omega) (by omega),Aa,Ou,Aa,Acr]
 cases v:Ln t with
 | false=>rfl
 | true =>
  by_cases l:t.2.2.1 ≤ 16
  ·rw [decide_eq_true l]
   by_cases g:t.1.length ≤ 6
   ·rw [decide_eq_true g]
    cases hl:BJ e 0 80 with
    | false=>rfl
    | true =>
     have f:RepF t e:=⟨NU v,l,g,D9.1 hl⟩
     obtain ⟨r1,s,u⟩:=WX f
     obtain ⟨r2,m,e4⟩:=Vg f
     have e5:decide (0 < (r2.1.length:Int)) = decide (0 < r2.1.length):=by rw [decide_eq_decide]; omega
     simp only [if_true,Bool.not_true,Bool.false_eq_true,if_false,Aa,Bool.and_true]
     rw [N7 (by omega),Aa,RK f,Aa,s,Aa,u,m,Aa,e5,e4]
     unfold OQ
     cases ((J1 (TM t e) t.1.length t.1.length).length:Int) == 0 <;> cases (VI t e).isSome <;> cases LD (Hp t e) t.1.length [] <;> rfl
   ·rw [decide_eq_false g]; rfl
  ·rw [decide_eq_false l]; rfl
theorem ZP (t:BV) (e:Int):0 ≤ (Mc t e).1 ∧ (Mc t e).1 ≤ 3:=by
 unfold Mc
 split
 ·dsimp only
  split
  ·decide
  ·split
   ·decide
   ·split <;> decide
 ·decide
theorem Abu {k u:Nat} (h:u < 10 ^ (k + 1)):(Lib.decDigits u).length ≤ k + 1:=(UZ k u h).2.2.2.1
theorem TD {t:Int} (f:0 ≤ t) (h1:t < 10):Kw [Mt (Af (48 + t))] = [UInt8.ofNat (48 + t.toNat)]:=by
 have e:Mt (48 + t) = 48 + t:=by
  unfold Mt
  show (48 + t) % 256 = _
  omega
 rw [A6 (by omega) (by omega),e]
 unfold Kw
 rw [List.map_cons,List.map_nil,show (48 + t).toNat = 48 + t.toNat by omega]
theorem Adc:∀ (d m:Nat) (n:Int),0 ≤ n → n.toNat < 10 ^ (d + 1) → d ≤ 18 → d < m → n ≤ 9223372036854775807 → FO m n = some (Lib.decDigits n.toNat):=by
 intro d
 induction d with
 | zero =>
  intro m n e f hd s l
  cases m with
  | zero=>omega
  | succ m =>
   have g:n.toNat < 10:=by simpa using f
   rw [FO,if_pos (by simp; omega),TD e (by omega),QR g]
 | succ d ih =>
  intro m n e f hd s l
  cases m with
  | zero=>omega
  | succ m =>
   by_cases g:n < 10
   ·rw [FO,if_pos (by simp; omega),TD e g,QR (by omega)]
   ·rw [FO,if_neg (by simp; omega)]
    unfold Bk
    dsimp only
    have v:(n / 10).toNat = n.toNat / 10:=by omega
    have hr:(n % 10).toNat = n.toNat % 10:=by omega
    have h:n.toNat / 10 < 10 ^ (d + 1):=by rw [Nat.pow_succ] at f; omega
    have hl:=Abu (k:=d) h
    rw [Int.tdiv_eq_ediv_of_nonneg e,Int.tmod_eq_emod_of_nonneg e,A6 (x:=n / 10) (by omega) (by omega),ih m (n / 10) (by omega) (by omega) (by omega) (by omega) (by omega),Aa,TD (by omega) (by omega),v,hr]
    unfold Cl
    rw [if_pos (by simp; omega),Aa,X7 (u:=n.toNat) (by omega)]
theorem JU {n:Int} (h:0 ≤ n) (e:n ≤ 9223372036854775807):Dd n = some (Lib.decDigits n.toNat):=by
 unfold Dd
 exact Adc 18 FU n h (by omega) (by omega) (DH (by omega)) e
theorem Aay {x:G7} (h:Gd x = true) {c:Int} (h0:0 ≤ c) (h1:c ≤ 4611686018427387904):0 ≤ Rm x c ∧ Rm x c ≤ 720000:=by
 obtain ⟨l1,l2,hx⟩:=MS h
 have ar:x.length ≤ 40:=by
  unfold Gd at h
  rw [Cf,LO] at h
  omega
 have ak:∀ (d k m:Nat) (a b:Int),x.length - k = d → k ≤ x.length → d < m → 0 ≤ a → a ≤ 4611686018427387904 → 0 ≤ b → b ≤ 18000 * k → ∃ t,Di x m a b (k:Int) = some t ∧ 0 ≤ t ∧ t ≤ 18000 * x.length:=by
  intro d
  induction d with
  | zero =>
   intro k m a b hd hk hm u a1 b0 b1
   cases m with
   | zero=>omega
   | succ m =>
    rw [Di,if_neg (by simp; omega)]
    exact ⟨_,rfl,by omega,by omega⟩
  | succ d ih =>
   intro k m a b hd hk hm u a1 b0 b1
   cases m with
   | zero=>omega
   | succ m =>
    have s:k < x.length:=by omega
    have v:=List.all_eq_true.1 hx x[k] (List.getElem_mem s)
    unfold G4 at v
    rw [Cf,LO,LO] at v
    have g:¬ x[k].2 = 0:=by omega
    have Cq:∀ q:Int,0 ≤ q → q ≤ 12 → Af (Int.tdiv (Af (60000 * q)) x[k].2) = 60000 * q / x[k].2 ∧ 0 ≤ 60000 * q / x[k].2 ∧ 60000 * q / x[k].2 ≤ 18000:=by
     intro q q0 q1
     have d1:0 ≤ 60000 * q / x[k].2:=Int.ediv_nonneg (by omega) (by omega)
     have d2:60000 * q / x[k].2 ≤ 18000:=by
      have:=Int.ediv_le_ediv (c:=x[k].2) (by omega) (show 60000 * q ≤ 18000 * x[k].2 by omega)
      rw [Int.mul_ediv_cancel _ g] at this
      exact this
     rw [A6 (x:=60000 * q) (by omega) (by omega),Int.tdiv_eq_ediv_of_nonneg (by omega),A6 (by omega) (by omega)]
     exact ⟨rfl,d1,d2⟩
    rw [Di,if_pos (by simp; omega),Jl s,Aa]
    simp only [Hy,if_neg g,Aa,AD (k:=k) (by omega)]
    split
    ·rename_i f
     have an:a < x[k].1:=by simpa using f
     obtain ⟨e,e0,e1⟩:=Cq a u (by omega)
     rw [e,A6 (by omega) (by omega)]
     exact ⟨_,rfl,by omega,by omega⟩
    ·rename_i f
     have an:¬ a < x[k].1:=by simpa using f
     obtain ⟨e,e0,e1⟩:=Cq x[k].1 (by omega) (by omega)
     rw [e,A6 (x:=a - x[k].1) (by omega) (by omega),A6 (x:=b + _) (by omega) (by omega)]
     exact ih (k + 1) m _ _ (by omega) (by omega) (by omega) (by omega) (by omega) (by omega) (by omega)
 obtain ⟨t,l,t0,t1⟩:=ak _ 0 FU c 0 rfl (by omega) (DH (by omega)) h0 h1 (by omega) (by simp)
 have:=OJ x h c
 unfold FJ at this
 rw [show ((0:Nat):Int) = 0 by rfl] at l
 rw [l] at this
 have e:=Option.some.inj this
 rw [← e]
 exact ⟨t0,by omega⟩
abbrev I7:=Int × Int × Int
def SK (k:Nat) (x:I7):Bool:=(if k = 0 then decide (x.1 = -1) else BJ x.1 0 ((k:Int) - 1)) && (BJ x.2.1 0 7 && BJ x.2.2 0 999)
def OD (l:List I7) (k:Nat):Bool:=match l[k]? with
 | some x=>SK k x
 | none=>true
def Ho (l:List I7):Bool:=BJ (l.length:Int) 1 60 && (List.range l.length).all (OD l)
theorem OH {l:List I7} (u:l.length < 4611686018427387904):HV l = some (Ho l):=by
 unfold HV Ho
 rw [O0 (FB l) l.length (OD l) (some (BJ (l.length:Int) 1 60)) (some false) u (fun m k s=>?_) (fun m=>?_)]
 ·cases (List.range l.length).all (OD l) <;> simp
 ·obtain ⟨x,g⟩:∃ x,l[k]? = some x:=⟨_,Cp s⟩
  rw [FB,if_pos (by simp; omega),AY,g,Aa,AD (by omega)]
  unfold Bk OD
  rw [g]
  dsimp only
  rw [CU,Aa,CU,CU,Aa,Aa,A6 (by omega) (by omega)]
  unfold SK
  by_cases h:k = 0
  ·subst h
   have:BJ x.1 0 (((0:Nat):Int) - 1) = false:=by rw [← Bool.not_eq_true,D9]; omega
   rw [this]
   by_cases f:x.1 = -1 <;> by_cases h1:BJ x.2.1 0 7 = true <;> by_cases e:BJ x.2.2 0 999 = true <;> simp [f,h1,e]
  ·by_cases f:BJ x.1 0 ((k:Int) - 1) = true <;> by_cases h1:BJ x.2.1 0 7 = true <;> by_cases e:BJ x.2.2 0 999 = true <;> simp [f,h1,e,h,show 0 < k by omega]
 ·rw [FB,if_neg (by simp),CU,Aa]
theorem LA {l:List I7} (hl:l.length < 4611686018427387904):FI l = some (Ho l):=by
 unfold FI Ho Bk
 dsimp only
 rw [CT,Aa]
 cases hi:BJ (l.length:Int) 1 60 with
 | false=>simp
 | true =>
  have ae:=D9.1 hi
  obtain ⟨s,u⟩:∃ x,l[0]? = some x:=⟨_,Cp (by omega)⟩
  rw [if_neg (by simp),Sq,u,Aa,Bool.true_and]
  by_cases f:s.1 = -1
  ·rw [if_neg (by simpa using f),O0 (DT l) l.length (OD l) (some true) (some false) hl (fun m k hk=>?_) (fun m=>?_)]
   ·cases (List.range l.length).all (OD l) <;> simp
   ·obtain ⟨x,e⟩:∃ x,l[k]? = some x:=⟨_,Cp hk⟩
    rw [DT,if_pos (by simp; omega),AY,e,Aa,AD (by omega)]
    unfold Bk OD
    rw [e]
    dsimp only
    rw [CT,Aa,CT,CT,Aa,Aa,A6 (by omega) (by omega)]
    unfold SK
    by_cases v:k = 0
    ·subst v
     rw [u] at e
     cases e
     by_cases h1:BJ s.2.1 0 7 = true <;> by_cases g:BJ s.2.2 0 999 = true <;> simp [f,h1,g]
    ·by_cases hq:BJ x.1 0 ((k:Int) - 1) = true <;> by_cases h1:BJ x.2.1 0 7 = true <;> by_cases g:BJ x.2.2 0 999 = true <;> simp [hq,h1,g,v,show 0 < k by omega]
   ·rw [DT,if_neg (by simp)]
  ·rw [if_pos (by simpa using f)]
   have:(List.range l.length).all (OD l) = false:=by
    rw [← Bool.not_eq_true,List.all_eq_true]
    intro h
    have:=h 0 (List.mem_range.2 (by omega))
    unfold OD SK at this
    rw [u] at this
    simp [f] at this
   rw [this]
def Ly (l:List I7) (v:I7):List I7 × Bool:=if Ho (l ++ [v]) = true then (l ++ [v],true) else ([],false)
theorem SS {l:List I7} (h:Ho l = true) (e:l.length ≤ 60) (v:I7):Ic l v = some (Ly l v):=by
 unfold Ic Bk Ly
 dsimp only
 rw [Bt (by simp; omega),Aa,Bt (by simp; omega),Aa,OH (by omega),Aa,h,if_neg (by simp),List.nil_append,OH (by simp; omega),Aa]
 cases Ho (l ++ [v]) <;> rfl
theorem Tp {l:List I7} (h:Ho l = true) (e:l.length ≤ 60) (v:I7):Ij l v = some (Ly l v):=by
 unfold Ij Bk Ly
 dsimp only
 rw [LA (by omega),Aa,h,if_neg (by simp),Bt (by simp; omega),Aa,Bt (by simp; omega),Aa,List.nil_append,LA (by simp; omega),Aa]
 cases Ho (l ++ [v]) <;> rfl
abbrev BL:=Int × Int × Int × Int
def FQ (a b:BL):Prop:=a.2.2.1 < b.2.2.1 ∨ (a.2.2.1 = b.2.2.1 ∧ a.2.1 < b.2.1)
instance (a b:BL):Decidable (FQ a b):=by unfold FQ; exact inferInstance
def Kd (a b:BL):Prop:=¬ FQ b a
theorem LP {a b c:BL} (h1:Kd a b) (e:Kd b c):Kd a c:=by unfold Kd FQ at *; omega
theorem LQ {a b:BL} (h:FQ a b):Kd a b:=by unfold Kd FQ at *; omega
theorem ZM (a:BL):Kd a a:=by unfold Kd FQ at *; omega
def Lv (a:BL):Prop:=(0 ≤ a.2.1 ∧ a.2.1 ≤ 99999) ∧ 0 ≤ a.2.2.1 ∧ a.2.2.1 ≤ 99999
theorem QS {a b:BL} (e:Lv a) (f:Lv b):∃ u,Dt a b = some u ∧ decide (u < 0) = decide (FQ a b) ∧ decide (0 ≤ u) = !decide (FQ a b):=by
 obtain ⟨⟨a1,g⟩,a3,l⟩:=e
 obtain ⟨⟨b1,s⟩,v,m⟩:=f
 unfold Dt
 by_cases h:a.2.2.1 = b.2.2.1
 ·rw [if_neg (by simp [h]),A6 (by omega) (by omega)]
  refine ⟨_,rfl,?_,?_⟩
  ·rw [decide_eq_decide]; unfold FQ; omega
  ·rw [← decide_not,decide_eq_decide]; unfold FQ; omega
 ·rw [if_pos (by simpa using h),A6 (by omega) (by omega)]
  refine ⟨_,rfl,?_,?_⟩
  ·rw [decide_eq_decide]; unfold FQ; omega
  ·rw [← decide_not,decide_eq_decide]; unfold FQ; omega
theorem Rx {i j:Nat} (h:i + j < 4611686018427387904):Af (Bq .u64 (Bg (Af ((i:Int) + (j:Int)))) 1) = (((i + j) / 2:Nat):Int):=by
 rw [A6 (x:=(i:Int) + j) (by omega) (by omega)]
 have e:Bg ((i:Int) + (j:Int)) = (i:Int) + j:=by
  unfold Bg
  show ((i:Int) + (j:Int)) % 18446744073709551616 = _
  omega
 rw [e]
 have f:Bq .u64 ((i:Int) + (j:Int)) 1 = (((i + j) / 2:Nat):Int):=by
  unfold Bq
  show Int.fdiv ((i:Int) + (j:Int)) 2 = _
  rw [Int.fdiv_eq_ediv_of_nonneg _ (by omega)]
  omega
 rw [f,A6 (by omega) (by omega)]
theorem Un {R:Type} (f:Nat → Int → Int → Ag R) (q:Nat → Bool) (K:Nat → Ag R) (g h:Nat)
  (hs:∀ (m i j:Nat),i < j → j ≤ h → g ≤ i → f (m + 1) (i:Int) (j:Int) = if q ((i + j) / 2) = true then f m (((i + j) / 2 + 1:Nat):Int) (j:Int) else f m (i:Int) (((i + j) / 2:Nat):Int))
  (he:∀ (m i:Nat),f (m + 1) (i:Int) (i:Int) = K i) (ac:∀ c c',g ≤ c → c ≤ c' → c' < h → q c' = true → q c = true) :
  ∀ (d m i j:Nat),j - i ≤ d → d < m → g ≤ i → i ≤ j → j ≤ h → (∀ c,g ≤ c → c < i → q c = true) → (∀ c,j ≤ c → c < h → q c = false) →
   ∃ s,g ≤ s ∧ s ≤ h ∧ (∀ c,g ≤ c → c < s → q c = true) ∧ (∀ c,s ≤ c → c < h → q c = false) ∧ f m (i:Int) (j:Int) = K s:=by
 intro d
 induction d with
 | zero =>
  intro m i j hd hm u ah l h1 v
  have:i = j:=by omega
  subst this
  cases m with
  | zero=>omega
  | succ m=>exact ⟨i,u,l,h1,v,he m i⟩
 | succ d ih =>
  intro m i j hd hm u ah l h1 v
  cases m with
  | zero=>omega
  | succ m =>
   by_cases e:i = j
   ·subst e
    exact ⟨i,u,l,h1,v,he m i⟩
   ·rw [hs m i j (by omega) l u]
    cases hq:q ((i + j) / 2) with
    | true =>
     rw [if_pos rfl]
     exact ih m _ j (by omega) (by omega) (by omega) (by omega) l (fun c hc ag=>ac c ((i + j) / 2) hc (by omega) (by omega) hq) v
    | false =>
     rw [if_neg (by simp)]
     refine ih m i _ (by omega) (by omega) u (by omega) (by omega) h1 (fun c hc ag=>?_)
     cases ai:q c with
     | false=>rfl
     | true=>rw [ac ((i + j) / 2) c (by omega) hc ag ai] at hq; cases hq
theorem Jj {α:Type} {A B:List α} {x:α} {k:Nat} (h:k = A.length):AM (A ++ x :: B) (k:Int) = some x:=by
 rw [AY,h,List.getElem?_append_right (by omega)]
 simp
theorem MR {α:Type} {A B:List α} {x y:α} {k:Nat} (h:k = A.length):BF (A ++ x :: B) (k:Int) y = A ++ y :: B:=by
 rw [JV,h,List.set_append_right _ _ (by omega)]
 simp
theorem Xn (x1 x2 x3:Nat) (A M B:List BL):∀ (P Q P0 Q0:List BL) (m:Nat),P.length = Q.length → P0.length = Q0.length → x1 = A.length → x2 = A.length + P0.length + P.length + M.length → x3 = P0.length + P.length → x2 + x3 < 1000000 → P.length < m →
  Bw (x3:Int) (x2:Int) (x1:Int) m (A ++ P0 ++ P ++ M ++ Q0 ++ Q ++ B) (P0.length:Int) = some (A ++ P0 ++ Q ++ M ++ Q0 ++ P ++ B)
 | [],Q,P0,Q0,m,h1,h2,h3,h4,h5,h6,hm=>by
  have:Q = []:=List.length_eq_zero_iff.1 h1.symm
  subst this
  cases m with
  | zero=>simp at hm
  | succ m =>
   rw [Bw,if_neg (by simp at h5 ⊢; omega)]
 | p :: P,[],P0,Q0,m,h1,h2,h3,h4,h5,h6,hm=>by simp at h1
 | p :: P,q :: Q,P0,Q0,m,h1,h2,h3,h4,h5,h6,hm=>by
  simp only [List.length_cons] at h1 h4 h5 hm
  cases m with
  | zero=>omega
  | succ m =>
   rw [Bw,if_pos (by simp; omega)]
   unfold Bk
   dsimp only
   rw [AD (by omega),A6 (x:=(x2:Int) + _) (by omega) (by omega),A6 (x:=(x1:Int) + _) (by omega) (by omega)]
   rw [show (x2:Int) + (P0.length:Int) = ((x2 + P0.length:Nat):Int) by omega,show (x1:Int) + (P0.length:Int) = ((x1 + P0.length:Nat):Int) by omega]
   have g:A ++ P0 ++ p :: P ++ M ++ Q0 ++ q :: Q ++ B = (A ++ P0 ++ p :: P ++ M ++ Q0) ++ q :: (Q ++ B):=by simp
   have h:(A ++ P0 ++ p :: P ++ M ++ Q0) ++ q :: (Q ++ B) = (A ++ P0) ++ p :: (P ++ M ++ Q0 ++ q :: (Q ++ B)):=by simp
   have f:(A ++ P0) ++ q :: (P ++ M ++ Q0 ++ q :: (Q ++ B)) = (A ++ P0 ++ q :: P ++ M ++ Q0) ++ q :: (Q ++ B):=by simp
   rw [g,Jj (by simp; omega),Aa,h,Jj (by simp; omega),Aa,Aa,MR (by simp; omega),f,Jj (by simp; omega),Aa,MR (by simp; omega)]
   have e:=Xn x1 x2 x3 A M B P Q (P0 ++ [q]) (Q0 ++ [p]) m (by omega) (by simpa using h2) h3 (by simp; omega) (by simp; omega) h6 (by omega)
   simp only [List.append_assoc,List.cons_append,List.nil_append,CD,List.length_cons,List.length_nil] at e ⊢
   exact e
theorem NI {A P M Q B:List BL} {x1 x2 x3:Nat} (h1:P.length = Q.length) (f:x1 = A.length) (g:x2 = A.length + P.length + M.length) (h:x3 = P.length) (e:x2 + x3 < 1000000) :
  B8 (A ++ P ++ M ++ Q ++ B) (x1:Int) (x2:Int) (x3:Int) = some (A ++ Q ++ M ++ P ++ B):=by
 unfold B8
 have:=Xn x1 x2 x3 A M B P Q [] [] FU h1 rfl f (by simp; omega) (by simp; omega) e (DH (by omega))
 simpa using this
theorem MA {α:Type} {l:List α} {k:Nat} (h:k ≤ l.length):∃ P R,l = P ++ R ∧ P.length = k:=⟨l.take k,l.drop k,(List.take_append_drop k l).symm,by simp; omega⟩
theorem ZA (x2:Nat) (hx:x2 < 100000):∀ (d m:Nat) (A U V B:List BL),U.length + V.length ≤ d → d < m → U ≠ [] → V ≠ [] → x2 = A.length + U.length → V.length < 100000 →
  B0 (x2:Int) m (A ++ U ++ V ++ B) (U.length:Int) (V.length:Int) = some (A ++ V ++ U ++ B):=by
 intro d
 induction d with
 | zero =>
  intro m A U V B hd hm g u h2 hv
  exact absurd (List.length_eq_zero_iff.1 (by omega)) g
 | succ d v =>
  intro m A U V B hd hm g u h2 hv
  have ag:=List.length_pos_iff.2 g
  have aj:=List.length_pos_iff.2 u
  cases m with
  | zero=>omega
  | succ m =>
   rw [B0]
   by_cases e:U.length = V.length
   ·rw [if_neg (by simp [e]),A6 (x:=(x2:Int) - _) (by omega) (by omega),show (x2:Int) - (U.length:Int) = (A.length:Int) by omega]
    have:=NI (A:=A) (P:=U) (M:=[]) (Q:=V) (B:=B) (x1:=A.length) (x2:=x2) (x3:=U.length) e rfl (by simp; omega) rfl (by omega)
    simp only [List.append_nil] at this
    rw [this,Aa]
   ·rw [if_pos (by simp; omega)]
    by_cases aa:V.length < U.length
    ·obtain ⟨P,R,rfl,s⟩:=MA (l:=U) (k:=V.length) (by omega)
     simp only [CD] at *
     rw [if_pos (by simp; omega),A6 (x:=(x2:Int) - _) (by omega) (by omega),show (x2:Int) - ((P.length + R.length:Nat):Int) = (A.length:Int) by omega]
     have:=NI (A:=A) (P:=P) (M:=R) (Q:=V) (B:=B) (x1:=A.length) (x2:=x2) (x3:=V.length) s rfl (by omega) (by omega) (by omega)
     rw [show A ++ (P ++ R) ++ V ++ B = A ++ P ++ R ++ V ++ B by simp,this,Aa,A6 (by omega) (by omega),show ((P.length + R.length:Nat):Int) - (V.length:Int) = (R.length:Int) by omega]
     have h:=v m (A ++ V) R P B (by omega) (by omega) (fun h=>by subst h; simp at aa; omega) (fun h=>by subst h; simp at s; omega) (by simp; omega) (by omega)
     rw [s] at h
     rw [h]
     simp
    ·obtain ⟨R,Q,rfl,hR⟩:=MA (l:=V) (k:=V.length - U.length) (by omega)
     simp only [CD] at *
     have f:U.length = Q.length:=by omega
     rw [if_neg (by simp; omega),A6 (x:=(x2:Int) - _) (by omega) (by omega),show (x2:Int) - (U.length:Int) = (A.length:Int) by omega,A6 (x:=(x2:Int) + _) (by omega) (by omega),A6 (by omega) (by omega),
      show (x2:Int) + ((R.length + Q.length:Nat):Int) - (U.length:Int) = ((x2 + R.length:Nat):Int) by omega]
     have:=NI (A:=A) (P:=U) (M:=R) (Q:=Q) (B:=B) (x1:=A.length) (x2:=x2 + R.length) (x3:=U.length) f rfl (by omega) (by omega) (by omega)
     rw [show A ++ U ++ (R ++ Q) ++ B = A ++ U ++ R ++ Q ++ B by simp,this,Aa,A6 (by omega) (by omega),show ((R.length + Q.length:Nat):Int) - (U.length:Int) = (R.length:Int) by omega]
     have h:=v m A Q R (U ++ B) (by omega) (by omega) (fun h=>g (List.length_eq_zero_iff.1 (by rw [f,h]; rfl))) (fun h=>e (by rw [h]; simpa using f)) (by omega) (by omega)
     rw [← f] at h
     rw [show A ++ Q ++ R ++ U ++ B = A ++ Q ++ R ++ (U ++ B) by simp,h]
     simp
theorem Y9 {A U V B:List BL} {x1 x2 x3:Nat} (g:U ≠ []) (f:V ≠ []) (h1:x1 = A.length) (e:x2 = A.length + U.length) (l:x3 = A.length + U.length + V.length) (h:x3 < 100000) :
  BI (A ++ U ++ V ++ B) (x1:Int) (x2:Int) (x3:Int) = some (A ++ V ++ U ++ B):=by
 unfold BI
 rw [A6 (by omega) (by omega),A6 (by omega) (by omega),show (x2:Int) - (x1:Int) = (U.length:Int) by omega,show (x3:Int) - (x2:Int) = (V.length:Int) by omega]
 exact ZA x2 (by omega) (U.length + V.length) FU A U V B (Nat.le_refl _) (DH (by omega)) g f e (by omega)
def FX (l:List BL):Prop:=l.Pairwise Kd
theorem Pg {S1 S2:List BL} {x:BL} (h:FX (S1 ++ S2)) (m:∀ s ∈ S2,Kd x s) (h1:S1 = [] ∨ ∃ R y,S1 = R ++ [y] ∧ Kd y x):FX (S1 ++ x :: S2):=by
 unfold FX at *
 rw [List.pairwise_append] at h ⊢
 refine ⟨h.1,List.pairwise_cons.2 ⟨m,h.2.1⟩,fun a e b f=>?_⟩
 rcases List.mem_cons.1 f with rfl | f
 ·rcases h1 with rfl | ⟨R,y,rfl,l⟩
  ·cases e
  ·rcases AX.1 e with g | g
   ·exact LP ((List.pairwise_append.1 h.1).2.2 a g y (List.mem_singleton.2 rfl)) l
   ·rw [List.mem_singleton.1 g]; exact l
 ·exact h.2.2 a e b f
theorem Za (nx:List BL → Int → Ag (List BL)) (y6:Int) (A B:List BL) (x:BL) (hx:Lv x) (hA:A.length < 100000):∀ (k m:Nat) (S1 S2:List BL),S1.length = k → k < m → k < 100000 → (∀ s ∈ S1,Lv s) → (∀ s ∈ S2,FQ x s) → FX (S1 ++ S2) →
  ∃ Z,Z.Perm (S1 ++ x :: S2) ∧ FX Z ∧ Bm nx y6 (A.length:Int) m (A ++ S1 ++ x :: S2 ++ B) ((A.length + S1.length:Nat):Int) = nx (A ++ Z ++ B) (Af (y6 + 1)):=by
 intro k
 induction k with
 | zero =>
  intro m S1 S2 g hm hl v e f
  have:S1 = []:=List.length_eq_zero_iff.1 g
  subst this
  cases m with
  | zero=>omega
  | succ m =>
   refine ⟨x :: S2,List.Perm.refl _,Pg (S1:=[]) f (fun s h=>LQ (e s h)) (.inl rfl),?_⟩
   rw [Bm]
   unfold Bk
   dsimp only
   rw [if_neg (by simp),if_neg (by simp)]
   simp
 | succ k ih =>
  intro m S1 S2 g hm hl v e f
  obtain ⟨R,y,rfl⟩:∃ R y,S1 = R ++ [y]:=⟨S1.dropLast,S1.getLast (fun h=>by subst h; simp at g),(List.dropLast_concat_getLast _).symm⟩
  have hR:R.length = k:=by simpa using g
  have hy:=v y (by simp)
  obtain ⟨u,hu,an,_⟩:=QS hx hy
  cases m with
  | zero=>omega
  | succ m =>
   rw [Bm]
   unfold Bk
   dsimp only
   have e1:A ++ (R ++ [y]) ++ x :: S2 ++ B = (A ++ R ++ [y]) ++ x :: (S2 ++ B):=by simp
   have e2:(A ++ R ++ [y]) ++ x :: (S2 ++ B) = (A ++ R) ++ y :: (x :: (S2 ++ B)):=by simp
   have ej:Af (((A.length + (R ++ [y]).length:Nat):Int) - 1) = ((A.length + R.length:Nat):Int):=by
    rw [A6 (by simp; omega) (by simp; omega)]; simp; omega
   rw [if_pos (by simp <;> omega),ej,e1,Jj (by simp <;> omega),Aa,e2,Jj (by simp),Aa,hu,Aa,an]
   by_cases l:FQ x y
   ·rw [decide_eq_true l,if_pos rfl,Aa]
    rw [← e2,Aa,Aa,MR (by simp <;> omega)]
    have e3:(A ++ R ++ [y]) ++ y :: (S2 ++ B) = (A ++ R) ++ y :: (y :: (S2 ++ B)):=by simp
    rw [e3,Jj (by simp),Aa,MR (by simp)]
    have ai:FX (R ++ y :: S2):=by simpa using f
    obtain ⟨Z,ar,ah,al⟩:=ih m R (y :: S2) hR (by omega) (by omega) (fun s h=>v s (by simp [h])) (fun s h=>by
     rcases List.mem_cons.1 h with rfl | h
     ·exact l
     ·exact e s h) ai
    refine ⟨Z,ar.trans ?_,ah,?_⟩
    ·rw [List.append_assoc]
     exact List.Perm.append_left R (List.Perm.swap y x S2)
    ·rw [← al]
     simp
   ·rw [decide_eq_false l,if_neg (by simp)]
    refine ⟨R ++ [y] ++ x :: S2,List.Perm.refl _,Pg f (fun s h=>LQ (e s h)) (.inr ⟨R,y,rfl,l⟩),?_⟩
    simp
theorem UW (A B:List BL) (hA:A.length < 50000):∀ (T S:List BL) (m:Nat),T.length < m → S ≠ [] → S.length + T.length < 50000 → (∀ s ∈ S ++ T,Lv s) → FX S →
  ∃ Z,Z.Perm (S ++ T) ∧ FX Z ∧ AW ((A.length + S.length + T.length:Nat):Int) (A.length:Int) m (A ++ S ++ T ++ B) ((A.length + S.length:Nat):Int) = some (A ++ Z ++ B)
 | [],S,m,hm,hS,hl,ho,hs=>by
  cases m with
  | zero=>simp at hm
  | succ m =>
   refine ⟨S,by simp,hs,?_⟩
   rw [AW,if_neg (by simp)]
   simp
 | x :: T,S,m,hm,hS,hl,ho,hs=>by
  simp only [List.length_cons] at hm hl ⊢
  cases m with
  | zero=>omega
  | succ m =>
   obtain ⟨Z,h1,g,u⟩:=Za (AW ((A.length + S.length + (T.length + 1):Nat):Int) (A.length:Int) m) ((A.length + S.length:Nat):Int) A (T ++ B) x (ho x (by simp)) (by omega) S.length FU S [] rfl (DH (by omega)) (by omega) (fun s h=>ho s (by simp [h])) (fun s h=>by cases h) (by simpa using hs)
   rw [AW,if_pos (by simp; omega)]
   rw [show A ++ S ++ x :: T ++ B = A ++ S ++ [x] ++ (T ++ B) by simp,u,AD (by omega)]
   have e:Z.length = S.length + 1:=by have:=h1.length_eq; simpa using this
   obtain ⟨W,v,l,f⟩:=UW A B hA T Z m (by omega) (fun h=>by subst h; simp at e) (by omega) (fun s h=>by
    rcases AX.1 h with h | h
    ·refine ho s ?_
     have:=h1.mem_iff.1 h
     simp only [AX,List.mem_cons,List.not_mem_nil,or_false] at this ⊢
     rcases this with h | h
     ·exact .inl h
     ·exact .inr (.inl h)
    ·exact ho s (by simp [h])) g
   refine ⟨W,v.trans ?_,l,?_⟩
   ·have:=h1.append_right T
    simpa using this
   ·rw [e] at f
    rw [show A ++ Z ++ (T ++ B) = A ++ Z ++ T ++ B by simp,← f]
    congr 1 <;> omega
theorem Md {A X B:List BL} {a b:Nat} (g:a = A.length) (e:b = A.length + X.length) (m:b < 50000) (h:∀ s ∈ X,Lv s) :
  ∃ Z,Z.Perm X ∧ FX Z ∧ Bi (A ++ X ++ B) (a:Int) (b:Int) = some (A ++ Z ++ B):=by
 unfold Bi
 rw [AD (by omega)]
 cases X with
 | nil =>
  refine ⟨[],List.Perm.refl _,List.Pairwise.nil,?_⟩
  rw [show FU = (FU - 1) + 1 from rfl,AW,if_neg (by simp at e ⊢; omega)]
 | cons x T =>
  simp only [List.length_cons] at e
  obtain ⟨Z,h1,f,l⟩:=UW A B (by omega) T [x] FU (DH (by omega)) (by simp) (by simp; omega) h (List.pairwise_singleton _ _)
  refine ⟨Z,h1,f,?_⟩
  rw [← l]
  simp only [List.length_singleton]
  rw [g,e,show A.length + 1 + T.length = A.length + (T.length + 1) by omega]
  simp
theorem Y3 (x:BL) (B:List BL) (i:Nat) (s:i < 100000):∀ (Y A:List BL) (m:Nat),Y.length < m → i = A.length + Y.length + 1 →
  Bz (i:Int) m (A ++ x :: Y ++ B) (A.length:Int) = some (A ++ Y ++ x :: B)
 | [],A,m,hm,h=>by
  cases m with
  | zero=>simp at hm
  | succ m =>
   rw [Bz,A6 (x:=(i:Int) - 1) (by omega) (by omega),if_neg (by simp at h ⊢; omega)]
   simp
 | y :: Y,A,m,hm,h=>by
  simp only [List.length_cons] at hm h
  cases m with
  | zero=>omega
  | succ m =>
   rw [Bz,A6 (x:=(i:Int) - 1) (by omega) (by omega),if_pos (by simp; omega)]
   unfold Bk
   dsimp only
   have g:A ++ x :: y :: Y ++ B = (A ++ [x]) ++ y :: (Y ++ B):=by simp
   have l:(A ++ [x]) ++ y :: (Y ++ B) = A ++ x :: (y :: (Y ++ B)):=by simp
   have f:A ++ y :: (y :: (Y ++ B)) = (A ++ [y]) ++ y :: (Y ++ B):=by simp
   rw [AD (by omega),g,Jj (by simp),Aa,l,Jj rfl,Aa,Aa,MR rfl,f,Jj (by simp),Aa,MR (by simp)]
   have e:=Y3 x B i s Y (A ++ [y]) m (by omega) (by simp; omega)
   simp only [CD,List.length_cons,List.length_nil] at e
   rw [show (A ++ [y]) ++ x :: (Y ++ B) = A ++ [y] ++ x :: Y ++ B by simp,e]
   simp
theorem Ab0 (y:BL) (B:List BL) (i:Nat) (hi:i < 50000) (A:List BL) (hA:i = A.length):∀ (k m:Nat) (X B:List BL),X.length = k → k < m → k < 50000 →
  Bx (i:Int) m (A ++ X ++ y :: B) ((A.length + X.length:Nat):Int) = some (A ++ y :: X ++ B):=by
 intro k
 induction k with
 | zero =>
  intro m X B e l hl
  have:X = []:=List.length_eq_zero_iff.1 e
  subst this
  cases m with
  | zero=>omega
  | succ m =>
   rw [Bx,if_neg (by simp; omega)]
   simp
 | succ k v =>
  intro m X B e l hl
  obtain ⟨R,z,rfl⟩:∃ R z,X = R ++ [z]:=⟨X.dropLast,X.getLast (fun h=>by subst h; simp at e),(List.dropLast_concat_getLast _).symm⟩
  have s:R.length = k:=by simpa using e
  cases m with
  | zero=>omega
  | succ m =>
   rw [Bx,if_pos (by simp; omega)]
   unfold Bk
   dsimp only
   have g:Af (((A.length + (R ++ [z]).length:Nat):Int) - 1) = ((A.length + R.length:Nat):Int):=by
    rw [A6 (by simp; omega) (by simp; omega)]; simp; omega
   have u:A ++ (R ++ [z]) ++ y :: B = (A ++ R) ++ z :: (y :: B):=by simp
   have f:(A ++ R) ++ z :: (y :: B) = (A ++ R ++ [z]) ++ y :: B:=by simp
   have e4:(A ++ R ++ [z]) ++ z :: B = (A ++ R) ++ z :: (z :: B):=by simp
   rw [g,u,Jj (by simp),Aa,f,Jj (by simp <;> omega),Aa,Aa,MR (by simp <;> omega),e4,Jj (by simp),Aa,MR (by simp)]
   have h:=v m R (z :: B) s (by omega) (by omega)
   rw [h]
   simp
theorem Abz {l:List BL} (h:FX l) {i j:Nat} (g:i ≤ j) (f:j < l.length):Kd (l[i]'(by omega)) l[j]:=by
 by_cases e:i = j
 ·subst e; exact ZM _
 ·exact (List.pairwise_iff_getElem.1 h) i j (by omega) f (by omega)
theorem Adb {A Y B:List BL} {k:Nat} (h1:A.length ≤ k) (e:k < A.length + Y.length):AM (A ++ Y ++ B) (k:Int) = some (Y[k - A.length]'(by omega)):=by
 rw [AY,List.append_assoc,List.getElem?_append_right h1,List.getElem?_append_left (by omega),Cp]
def CN (Y:List BL) (k:Nat):BL:=(Y[k]?).getD (0,0,0,0)
theorem FR {Y:List BL} {k:Nat} (h:k < Y.length):CN Y k = Y[k]:=by unfold CN; rw [Cp h]; rfl
theorem Tc {A Y B:List BL} {k:Nat} (h1:A.length ≤ k) (e:k < A.length + Y.length):AM (A ++ Y ++ B) (k:Int) = some (CN Y (k - A.length)):=by rw [Adb h1 e,FR]
theorem IU {Y:List BL} {k:Nat} (h:k < Y.length):CN Y k ∈ Y:=by rw [FR h]; exact List.getElem_mem h
theorem Mh {Y:List BL} (g:FX Y) {i j:Nat} (f:i ≤ j) (e:j < Y.length):Kd (CN Y i) (CN Y j):=by rw [FR (by omega),FR e]; exact Abz g f e
theorem Mb {Y:List BL} {y:BL} (h:y ∈ Y):∃ k,k < Y.length ∧ y = CN Y k:=by
 obtain ⟨k,e,rfl⟩:=List.getElem_of_mem h
 exact ⟨k,e,(FR e).symm⟩
theorem PS {P R:List BL} {k:Nat} (h:k < P.length):CN (P ++ R) k = CN P k:=by unfold CN; rw [List.getElem?_append_left h]
theorem O8 {P R:List BL} {k:Nat}:CN (P ++ R) (P.length + k) = CN R k:=by unfold CN; rw [List.getElem?_append_right (by omega)]; congr 2; omega
theorem TP {S:List BL} {x:BL} (h:∀ s ∈ S,Kd s x):S = [] ∨ ∃ R y,S = R ++ [y] ∧ Kd y x:=by
 by_cases e:S = []
 ·exact .inl e
 ·exact .inr ⟨S.dropLast,S.getLast e,(List.dropLast_concat_getLast e).symm,h _ (List.getLast_mem e)⟩
theorem Aa0 {A Y B:List BL} {x:BL} (hl:A.length + Y.length < 40000) (hx:Lv x) (ho:∀ y ∈ Y,Lv y) (g:FX Y) :
  ∃ Z,Z.Perm (x :: Y) ∧ FX Z ∧ AJ (A ++ x :: Y ++ B) (A.length:Int) FU ((A.length + 1:Nat):Int) ((A.length + 1 + Y.length:Nat):Int) = some (A ++ Z ++ B):=by
 obtain ⟨s,h1,f,h3,h4,h5⟩:=Un (AJ (A ++ x :: Y ++ B) (A.length:Int)) (fun h=>decide (FQ (CN Y (h - (A.length + 1))) x)) (fun i=>AJ (A ++ x :: Y ++ B) (A.length:Int) 1 (i:Int) (i:Int)) (A.length + 1) (A.length + 1 + Y.length)
  (fun m i j av hj hi=>by
   have hh:(i + j) / 2 < A.length + 1 + Y.length:=by omega
   have ap:A.length + 1 ≤ (i + j) / 2:=by omega
   have hm:=IU (Y:=Y) (k:=(i + j) / 2 - (A.length + 1)) (by omega)
   obtain ⟨u,hu,al,_⟩:=QS (ho _ hm) hx
   have eg:AM (A ++ x :: Y ++ B) (((i + j) / 2:Nat):Int) = some (CN Y ((i + j) / 2 - (A.length + 1))):=by
    have:=Tc (A:=A ++ [x]) (Y:=Y) (B:=B) (k:=(i + j) / 2) (by simp; omega) (by simp; omega)
    simpa using this
   have ex:AM (A ++ x :: Y ++ B) (A.length:Int) = some x:=by
    have:=Jj (A:=A) (B:=Y ++ B) (x:=x) (k:=A.length) rfl
    simpa using this
   rw [AJ,if_pos (by simp; omega),Rx (by omega),eg,Aa,ex,Aa,hu,Aa,al,AD (by omega)])
  (fun m i=>by
   rw [AJ,if_neg (by simp),AJ,if_neg (by simp)])
  (fun c c' hc ax au hq=>by
   have:=Mh g (i:=c - (A.length + 1)) (j:=c' - (A.length + 1)) (by omega) (by omega)
   simp only [C9] at hq ⊢
   unfold Kd FQ at *
   omega) Y.length FU (A.length + 1) (A.length + 1 + Y.length) (by omega) (DH (by omega)) (by omega) (by omega) (by omega) (fun c h1 f=>by omega) (fun c h1 f=>by omega)
 obtain ⟨P,R,rfl,hP⟩:=MA (l:=Y) (k:=s - (A.length + 1)) (by omega)
 have ae:∀ y ∈ P,FQ y x:=fun y e=>by
  obtain ⟨k,v,rfl⟩:=Mb e
  have:=h3 (A.length + 1 + k) (by omega) (by omega)
  simp only [C9,show A.length + 1 + k - (A.length + 1) = k by omega,PS v] at this
  exact this
 have ai:∀ y ∈ R,Kd x y:=fun y e=>by
  obtain ⟨k,v,rfl⟩:=Mb e
  have:=h4 (A.length + 1 + (P.length + k)) (by omega) (by simp; omega)
  simp only [decide_eq_false_iff_not,show A.length + 1 + (P.length + k) - (A.length + 1) = P.length + k by omega,O8] at this
  exact this
 refine ⟨P ++ x :: R,List.perm_middle,Pg g ai (TP fun y e=>LQ (ae y e)),?_⟩
 rw [h5,AJ,if_neg (by simp)]
 have:=Y3 x (R ++ B) s (by simp at f hl; omega) P A FU (DH (by simp at hl; omega)) (by omega)
 rw [show A ++ x :: (P ++ R) ++ B = A ++ x :: P ++ (R ++ B) by simp,this]
 simp
theorem Zx {A X B:List BL} {y:BL} (g:A.length + X.length < 40000) (hy:Lv y) (ho:∀ x ∈ X,Lv x) (v:FX X) :
  ∃ Z,Z.Perm (X ++ [y]) ∧ FX Z ∧ AH (A ++ X ++ y :: B) ((A.length + X.length:Nat):Int) FU (A.length:Int) ((A.length + X.length:Nat):Int) = some (A ++ Z ++ B):=by
 obtain ⟨s,h1,f,h3,h4,h5⟩:=Un (AH (A ++ X ++ y :: B) ((A.length + X.length:Nat):Int)) (fun h=>!decide (FQ y (CN X (h - A.length)))) (fun i=>AH (A ++ X ++ y :: B) ((A.length + X.length:Nat):Int) 1 (i:Int) (i:Int)) A.length (A.length + X.length)
  (fun m i j au hj hi=>by
   have hm:=IU (Y:=X) (k:=(i + j) / 2 - A.length) (by omega)
   obtain ⟨u,hu,al,_⟩:=QS hy (ho _ hm)
   have eg:=Tc (A:=A) (Y:=X) (B:=y :: B) (k:=(i + j) / 2) (by omega) (by omega)
   have ey:=Jj (A:=A ++ X) (B:=B) (x:=y) (k:=A.length + X.length) (by simp)
   rw [AH,if_pos (by simp; omega),Rx (by omega),ey,Aa,eg,Aa,hu,Aa,al,AD (by omega)])
  (fun m i=>by
   rw [AH,if_neg (by simp),AH,if_neg (by simp)])
  (fun c c' hc aw ar hq=>by
   have:=Mh v (i:=c - A.length) (j:=c' - A.length) (by omega) (by omega)
   simp only [Bool.not_eq_true',decide_eq_false_iff_not] at hq ⊢
   unfold Kd FQ at *
   omega) X.length FU A.length (A.length + X.length) (by omega) (DH (by omega)) (by omega) (by omega) (by omega) (fun c h1 f=>by omega) (fun c h1 f=>by omega)
 obtain ⟨P,R,rfl,hP⟩:=MA (l:=X) (k:=s - A.length) (by omega)
 have ad:∀ x ∈ P,Kd x y:=fun x e=>by
  obtain ⟨k,hk,rfl⟩:=Mb e
  have:=h3 (A.length + k) (by omega) (by omega)
  simp only [Bool.not_eq_true',decide_eq_false_iff_not,show A.length + k - A.length = k by omega,PS hk] at this
  exact this
 have ah:∀ x ∈ R,FQ y x:=fun x e=>by
  obtain ⟨k,hk,rfl⟩:=Mb e
  have:=h4 (A.length + (P.length + k)) (by omega) (by simp; omega)
  simp only [Bool.not_eq_false',C9,show A.length + (P.length + k) - A.length = P.length + k by omega,O8] at this
  exact this
 refine ⟨P ++ y :: R,?_,Pg v (fun x e=>LQ (ah x e)) (TP ad),?_⟩
 ·have:(y :: R).Perm (R ++ [y]):=(List.perm_append_singleton y R).symm
  have:=this.append_left P
  simpa using this
 ·rw [h5,AH,if_neg (by simp)]
  have:=Ab0 y B s (by simp at f g; omega) (A ++ P) (by simp; omega) R.length FU R B rfl (DH (by simp at g; omega)) (by simp at g; omega)
  simp only [CD] at this ⊢
  rw [show A ++ (P ++ R) ++ y :: B = A ++ P ++ R ++ y :: B by simp,show A.length + (P.length + R.length) = A.length + P.length + R.length by omega,this]
  simp
theorem Aa3 {L R:List BL} (f:FX L) (e:FX R) (h:∀ x ∈ L,∀ y ∈ R,Kd x y):FX (L ++ R):=List.pairwise_append.2 ⟨f,e,h⟩
theorem M3 {L R:List BL} (h:FX (L ++ R)):FX L:=(List.pairwise_append.1 h).1
theorem LK {L R:List BL} (h:FX (L ++ R)):FX R:=(List.pairwise_append.1 h).2.1
theorem UI {L R:List BL} (h:FX (L ++ R)):∀ x ∈ L,∀ y ∈ R,Kd x y:=(List.pairwise_append.1 h).2.2
theorem Abt {R:Type} {p q:Bool} {a b:Ag R}:(if p = true then (if q = true then a else b) else (if false = true then a else b)) = if (p && q) = true then a else b:=by cases p <;> cases q <;> rfl
theorem Zw:∀ (d m:Nat) (A X Y B:List BL),X.length + Y.length ≤ d → d < m → X ≠ [] → Y ≠ [] → FX X → FX Y → (∀ x ∈ X ++ Y,Lv x) → A.length + X.length + Y.length < 10000 →
  ∃ Z,Z.Perm (X ++ Y) ∧ FX Z ∧ AN m (A ++ X ++ Y ++ B) (A.length:Int) ((A.length + X.length:Nat):Int) ((A.length + X.length + Y.length:Nat):Int) = some (A ++ Z ++ B):=by
 intro d
 induction d with
 | zero =>
  intro m A X Y B hd hm hX hY _ _ _ _
  exact absurd (List.length_eq_zero_iff.1 (by omega)) hX
 | succ d ih =>
  intro m A X Y B hd hm hX hY sX sY ho hl
  have b7:=List.length_pos_iff.2 hX
  have bx:=List.length_pos_iff.2 hY
  cases m with
  | zero=>omega
  | succ m =>
   show ∃ Z,Z.Perm (X ++ Y) ∧ FX Z ∧ BW (AN m) (A ++ X ++ Y ++ B) (A.length:Int) ((A.length + X.length:Nat):Int) ((A.length + X.length + Y.length:Nat):Int) = some (A ++ Z ++ B)
   unfold BW
   rw [A6 (x:=((A.length + X.length:Nat):Int) - _) (by omega) (by omega),A6 (x:=((A.length + X.length + Y.length:Nat):Int) - _) (by omega) (by omega)]
   by_cases e1:X.length = 1
   ·obtain ⟨x,rfl⟩:=List.length_eq_one_iff.1 e1
    obtain ⟨Z,z1,z2,z3⟩:=Aa0 (A:=A) (Y:=Y) (B:=B) (x:=x) (by omega) (ho x (by simp)) (fun y g=>ho y (by simp [g])) sY
    rw [if_pos (by simp; omega)]
    refine ⟨Z,by simpa using z1,z2,?_⟩
    rw [← z3]
    simp
   ·rw [if_neg (by simp; omega)]
    by_cases e2:Y.length = 1
    ·obtain ⟨y,rfl⟩:=List.length_eq_one_iff.1 e2
     obtain ⟨Z,z1,z2,z3⟩:=Zx (A:=A) (X:=X) (B:=B) (y:=y) (by omega) (ho y (by simp)) (fun x f=>ho x (by simp [f])) sX
     rw [if_pos (by simp; omega)]
     refine ⟨Z,z1,z2,?_⟩
     rw [← z3]
     simp
    ·rw [if_neg (by simp; omega)]
     obtain ⟨e,a4⟩:∃ e,e = (A.length + (A.length + X.length + Y.length)) / 2:=⟨_,rfl⟩
     have hh:Af (Bq .u64 (Bg (Af ((A.length:Int) + ((A.length + X.length + Y.length:Nat):Int)))) 1) = (e:Int):=by rw [a4]; exact Rx (by omega)
     unfold Fz
     dsimp only
     rw [hh,A6 (x:=(e:Int) + _) (by omega) (by omega),A6 (x:=(e:Int) + _ - _) (by omega) (by omega)]
     -- where the search starts
     have a0:∀ lo v:Nat,A.length ≤ lo → lo ≤ v → v ≤ A.length + X.length → A.length + X.length ≤ e + (A.length + X.length) - v → e + (A.length + X.length) - lo ≤ A.length + X.length + Y.length →
       (lo = A.length ∨ e + (A.length + X.length) - lo = A.length + X.length + Y.length) → (v = A.length + X.length ∨ e + (A.length + X.length) - v = A.length + X.length) →
       ∃ Z,Z.Perm (X ++ Y) ∧ FX Z ∧ AG (A ++ X ++ Y ++ B) (A.length:Int) ((A.length + X.length + Y.length:Nat):Int) ((A.length + X.length:Nat):Int) (AN m) FU (lo:Int) (v:Int) = some (A ++ Z ++ B):=by
      intro lo v b9 bp cd b4 b3 bi bt
      obtain ⟨s,h1,h2,h3,h4,h5⟩:=Un (AG (A ++ X ++ Y ++ B) (A.length:Int) ((A.length + X.length + Y.length:Nat):Int) ((A.length + X.length:Nat):Int) (AN m))
       (fun c=>!decide (FQ (CN Y (e - 1 - c)) (CN X (c - A.length)))) (fun i=>AG (A ++ X ++ Y ++ B) (A.length:Int) ((A.length + X.length + Y.length:Nat):Int) ((A.length + X.length:Nat):Int) (AN m) 1 (i:Int) (i:Int)) lo v
       (fun m' i j ce hj cc=>by
        have cb:A.length ≤ (i + j) / 2:=by omega
        have bw:(i + j) / 2 < v:=by omega
        have br:=IU (Y:=X) (k:=(i + j) / 2 - A.length) (by omega)
        have bf:=IU (Y:=Y) (k:=e - 1 - (i + j) / 2) (by omega)
        obtain ⟨u,hu,a9,_⟩:=QS (ho _ (Bh _ bf)) (ho _ (At _ br))
        have eX:=Tc (A:=A) (Y:=X) (B:=Y ++ B) (k:=(i + j) / 2) (by omega) (by omega)
        have eY:=Tc (A:=A ++ X) (Y:=Y) (B:=B) (k:=e + (A.length + X.length) - 1 - (i + j) / 2) (by simp; omega) (by simp; omega)
        rw [CD,show e + (A.length + X.length) - 1 - (i + j) / 2 - (A.length + X.length) = e - 1 - (i + j) / 2 by omega] at eY
        rw [show A ++ X ++ (Y ++ B) = A ++ X ++ Y ++ B by simp] at eX
        rw [AG,if_pos (by simp; omega),hh,Rx (by omega),A6 (x:=(e:Int) + _) (by omega) (by omega),A6 (x:=(e:Int) + _ - 1) (by omega) (by omega),A6 (x:=(e:Int) + _ - 1 - _) (by omega) (by omega),
         show (e:Int) + ((A.length + X.length:Nat):Int) - 1 - (((i + j) / 2:Nat):Int) = ((e + (A.length + X.length) - 1 - (i + j) / 2:Nat):Int) by omega,eY,Aa,eX,Aa,hu,Aa,a9,AD (by omega)])
       (fun m' i=>by
        rw [AG,if_neg (by simp),AG,if_neg (by simp)])
       (fun c c' hc cg b5 hq=>by
        have ao:=Mh sX (i:=c - A.length) (j:=c' - A.length) (by omega) (by omega)
        have aq:=Mh sY (i:=e - 1 - c') (j:=e - 1 - c) (by omega) (by omega)
        simp only [Bool.not_eq_true',decide_eq_false_iff_not] at hq ⊢
        unfold Kd FQ at *
        omega) X.length FU lo v (by omega) (DH (by omega)) (by omega) bp (by omega) (fun c h1 h2=>by omega) (fun c h1 h2=>by omega)
      rw [h5]
      obtain ⟨X1,U,rfl,bv⟩:=MA (l:=X) (k:=s - A.length) (by omega)
      obtain ⟨V,Y2,rfl,hV⟩:=MA (l:=Y) (k:=e - s) (by omega)
      simp only [CD] at *
      -- what stands left goes ahead of what stands right
      have c1:∀ x ∈ X1,∀ y ∈ Y2,Kd x y:=fun x f y g=>by
       obtain ⟨i,bg,rfl⟩:=Mb f
       obtain ⟨j,bb,rfl⟩:=Mb g
       have bm:lo < s:=by
        rcases bi with h | h
        ·omega
        ·rcases Nat.lt_or_ge lo s with h' | h'
         ·exact h'
         ·exfalso
          have:s = lo:=by omega
          omega
       have hq:=h3 (s - 1) (by omega) (by omega)
       simp only [Bool.not_eq_true',decide_eq_false_iff_not] at hq
       rw [show e - 1 - (s - 1) = V.length + 0 by omega,O8,PS (by omega)] at hq
       have ao:=Mh (M3 sX) (i:=i) (j:=s - 1 - A.length) (by omega) (by omega)
       have aq:=Mh (LK sY) (i:=0) (j:=j) (by omega) (by omega)
       exact LP ao (LP hq aq)
      have c2:∀ x ∈ V,∀ y ∈ U,Kd x y:=fun x f y g=>by
       obtain ⟨i,bg,rfl⟩:=Mb f
       obtain ⟨j,bb,rfl⟩:=Mb g
       have bm:s < v:=by
        rcases bt with h | h
        ·omega
        ·rcases Nat.lt_or_ge s v with h' | h'
         ·exact h'
         ·exfalso
          have:s = v:=by omega
          omega
       have hq:=h4 s (by omega) (by omega)
       simp only [Bool.not_eq_false',C9] at hq
       rw [PS (by omega),show s - A.length = X1.length + 0 by omega,O8] at hq
       have ao:=Mh (LK sX) (i:=0) (j:=j) (by omega) (by omega)
       have aq:=Mh (M3 sY) (i:=i) (j:=e - 1 - s) (by omega) (by omega)
       exact LP aq (LP (LQ hq) ao)
      have bn:∀ x ∈ X1 ++ V,∀ y ∈ U ++ Y2,Kd x y:=fun x f y g=>by
       rcases AX.1 f with f | f <;> rcases AX.1 g with g | g
       ·exact UI sX x f y g
       ·exact c1 x f y g
       ·exact c2 x f y g
       ·exact UI sY x f y g
      rw [AG,if_neg (by simp)]
      unfold Bk
      dsimp only
      rw [hh,A6 (x:=(e:Int) + _) (by omega) (by omega),A6 (x:=(e:Int) + _ - _) (by omega) (by omega),show (e:Int) + ((A.length + (X1.length + U.length):Nat):Int) - (s:Int) = ((A.length + X1.length + V.length + U.length:Nat):Int) by omega]
      simp only [Abt]
      have bz:e = A.length + X1.length + V.length:=by omega
      have bu:∀ (K:List BL → Ag (List BL)),(if (decide ((s:Int) < ((A.length + (X1.length + U.length):Nat):Int)) && decide (((A.length + (X1.length + U.length):Nat):Int) < ((A.length + X1.length + V.length + U.length:Nat):Int))) = true then
        Option.bind (BI (A ++ (X1 ++ U) ++ (V ++ Y2) ++ B) (s:Int) ((A.length + (X1.length + U.length):Nat):Int) ((A.length + X1.length + V.length + U.length:Nat):Int)) K else K (A ++ (X1 ++ U) ++ (V ++ Y2) ++ B)) = K (A ++ (X1 ++ V) ++ (U ++ Y2) ++ B):=by
       intro K
       by_cases hU:U = []
       ·subst hU
        rw [if_neg (by simp; omega)]
        simp
       ·by_cases ak:V = []
        ·subst ak
         rw [if_neg (by simp; omega)]
         simp
        ·have u0:=List.length_pos_iff.2 hU
         have v0:=List.length_pos_iff.2 ak
         have:=Y9 (A:=A ++ X1) (U:=U) (V:=V) (B:=Y2 ++ B) (x1:=s) (x2:=A.length + (X1.length + U.length)) (x3:=A.length + X1.length + V.length + U.length) hU ak (by simp; omega) (by simp; omega) (by simp; omega) (by omega)
         rw [if_pos (by simp; omega),show A ++ (X1 ++ U) ++ (V ++ Y2) ++ B = A ++ X1 ++ U ++ V ++ (Y2 ++ B) by simp,this,Aa]
         simp
      have a5:∃ Z1:List BL,Z1.Perm (X1 ++ V) ∧ FX Z1 ∧ ∀ (K:List BL → Ag (List BL)),(if (decide ((A.length:Int) < (s:Int)) && decide ((s:Int) < (e:Int))) = true then
        Option.bind (AN m (A ++ (X1 ++ V) ++ (U ++ Y2) ++ B) (A.length:Int) (s:Int) (e:Int)) K else K (A ++ (X1 ++ V) ++ (U ++ Y2) ++ B)) = K (A ++ Z1 ++ (U ++ Y2) ++ B):=by
       by_cases ax:X1 = []
       ·subst ax
        exact ⟨[] ++ V,List.Perm.refl _,M3 sY,fun K=>by rw [if_neg (by simp at bv ⊢; omega)]⟩
       ·by_cases ak:V = []
        ·subst ak
         exact ⟨X1 ++ [],List.Perm.refl _,by simpa using M3 sX,fun K=>by rw [if_neg (by simp at hV ⊢; omega)]⟩
        ·have x0:=List.length_pos_iff.2 ax
         have v0:=List.length_pos_iff.2 ak
         obtain ⟨Z1,z1,z2,z3⟩:=ih m A X1 V (U ++ Y2 ++ B) (by omega) (by omega) ax ak (M3 sX) (M3 sY) (fun x f=>ho x (by
          rcases AX.1 f with h | h
          ·simp [h]
          ·simp [h])) (by omega)
         refine ⟨Z1,z1,z2,fun K=>?_⟩
         rw [show A.length + X1.length = s by omega,show s + V.length = e by omega] at z3
         rw [if_pos (by simp; omega),show A ++ (X1 ++ V) ++ (U ++ Y2) ++ B = A ++ X1 ++ V ++ (U ++ Y2 ++ B) by simp,z3,Aa]
         simp
      obtain ⟨Z1,z1,z2,z3⟩:=a5
      have zl:Z1.length = X1.length + V.length:=by have:=z1.length_eq; simpa using this
      have a6:∃ Z2:List BL,Z2.Perm (U ++ Y2) ∧ FX Z2 ∧ (if (decide ((e:Int) < ((A.length + X1.length + V.length + U.length:Nat):Int)) && decide (((A.length + X1.length + V.length + U.length:Nat):Int) < ((A.length + (X1.length + U.length) + (V.length + Y2.length):Nat):Int))) = true then
        Option.bind (AN m (A ++ Z1 ++ (U ++ Y2) ++ B) (e:Int) ((A.length + X1.length + V.length + U.length:Nat):Int) ((A.length + (X1.length + U.length) + (V.length + Y2.length):Nat):Int)) (fun u=>some u) else some (A ++ Z1 ++ (U ++ Y2) ++ B)) = some (A ++ Z1 ++ Z2 ++ B):=by
       by_cases hU:U = []
       ·subst hU
        exact ⟨[] ++ Y2,List.Perm.refl _,LK sY,by rw [if_neg (by simp; omega)]⟩
       ·by_cases av:Y2 = []
        ·subst av
         exact ⟨U ++ [],List.Perm.refl _,by simpa using LK sX,by rw [if_neg (by simp; omega)]⟩
        ·have u0:=List.length_pos_iff.2 hU
         have y0:=List.length_pos_iff.2 av
         obtain ⟨Z2,w1,w2,w3⟩:=ih m (A ++ Z1) U Y2 B (by omega) (by omega) hU av (LK sX) (LK sY) (fun x f=>ho x (by
          rcases AX.1 f with h | h
          ·simp [h]
          ·simp [h])) (by simp; omega)
         refine ⟨Z2,w1,w2,?_⟩
         simp only [CD] at w3
         rw [show A.length + Z1.length = e by omega,show e + U.length = A.length + X1.length + V.length + U.length by omega,show A.length + X1.length + V.length + U.length + Y2.length = A.length + (X1.length + U.length) + (V.length + Y2.length) by omega] at w3
         rw [if_pos (by simp; omega),show A ++ Z1 ++ (U ++ Y2) ++ B = A ++ Z1 ++ U ++ Y2 ++ B by simp,w3,Aa]
      obtain ⟨Z2,w1,w2,w3⟩:=a6
      refine ⟨Z1 ++ Z2,?_,Aa3 z2 w2 (fun x f y g=>bn x (z1.mem_iff.1 f) y (w1.mem_iff.1 g)),?_⟩
      ·have h1:=z1.append w1
       have h2:(X1 ++ V ++ (U ++ Y2)).Perm (X1 ++ U ++ (V ++ Y2)):=by
        have h3:=((List.perm_append_comm (l₁:=V) (l₂:=U)).append_left X1).append_right Y2
        simpa using h3
       exact h1.trans h2
      ·rw [bu,z3,w3]
       simp
     by_cases b2:e < A.length + X.length
     ·rw [if_pos (by simp; omega),show (e:Int) + ((A.length + X.length:Nat):Int) - ((A.length + X.length + Y.length:Nat):Int) = ((e + (A.length + X.length) - (A.length + X.length + Y.length):Nat):Int) by omega]
      exact a0 _ _ (by omega) (by omega) (by omega) (by omega) (by omega) (by omega) (by omega)
     ·rw [if_neg (by simp; omega)]
      exact a0 _ _ (by omega) (by omega) (by omega) (by omega) (by omega) (by omega) (by omega)
theorem WU {X Y:List BL} (g:X ≠ []) (v:Y ≠ []) (h:FX X) (f:FX Y) (m:∀ x ∈ X ++ Y,Lv x) (s:X.length + Y.length < 10000) :
  ∃ Z,Z.Perm (X ++ Y) ∧ FX Z ∧ Cb (X ++ Y) 0 (X.length:Int) ((X.length + Y.length:Nat):Int) = some Z:=by
 obtain ⟨Z,u,e,l⟩:=Zw (X.length + Y.length) FU [] X Y [] (Nat.le_refl _) (DH (by omega)) g v h f m (by simpa using s)
 exact ⟨Z,u,e,by simpa [Cb] using l⟩
theorem Yt {l:List BL} (hl:l.length ≤ 40) (ho:∀ x ∈ l,Lv x):∃ Z,Z.Perm l ∧ FX Z ∧ B7 l = some Z:=by
 have f1 (g:Nat):g + 1 = g.succ:=rfl
 unfold B7 C7
 by_cases a3:l.length < 20
 ·obtain ⟨Z,z1,v,m⟩:=Md (A:=[]) (X:=l) (B:=[]) (a:=0) (b:=l.length) rfl (by simp) (by omega) ho
  simp only [List.nil_append,List.append_nil] at m
  refine ⟨Z,z1,v,?_⟩
  have e2:AE (l.length:Int) FU Z 20 = some Z:=by
   have:∀ g,AE (l.length:Int) (g + 1) Z 20 = some Z:=fun g=>by
    rw [AE,if_neg (by simp; omega)]
   exact this (FU - 1)
  have e1:AL (l.length:Int) FU l 0 20 = some Z:=by
   have:∀ g,AL (l.length:Int) (g + 1) l 0 20 = some Z:=fun g=>by
    rw [AL,if_neg (by simp; omega),show (0:Int) = ((0:Nat):Int) from rfl,m,Aa,e2]
   exact this (FU - 1)
  rw [e1,Aa]
 ·obtain ⟨X,Y,rfl,hX⟩:=MA (l:=l) (k:=20) (by omega)
  simp only [CD] at hl a3
  obtain ⟨Z1,z1,v,m⟩:=Md (A:=[]) (X:=X) (B:=Y) (a:=0) (b:=20) rfl (by simp [hX]) (by omega) (fun s h=>ho s (by simp [h]))
  have zl:Z1.length = 20:=by rw [z1.length_eq,hX]
  obtain ⟨Z2,w1,w2,w3⟩:=Md (A:=Z1) (X:=Y) (B:=[]) (a:=20) (b:=20 + Y.length) (by omega) (by omega) (by omega) (fun s h=>ho s (by simp [h]))
  have wl:Z2.length = Y.length:=w1.length_eq
  simp only [List.nil_append,List.append_nil] at m w3
  have aj:(Z1 ++ Z2).Perm (X ++ Y):=z1.append w1
  have ay:∀ x ∈ Z1 ++ Z2,Lv x:=fun x hx=>ho x (aj.mem_iff.1 hx)
  have hn:(((X ++ Y).length:Nat):Int) = ((20 + Y.length:Nat):Int):=by simp [hX]
  have ar:Af ((0:Int) + 20) = ((20:Nat):Int):=by decide
  have ap:Af (2 * 20) = ((40:Nat):Int):=by decide
  have an:Af ((20:Int) * 2) = ((40:Nat):Int):=by decide
  -- the merge
  have a0:∃ Z,Z.Perm (X ++ Y) ∧ FX Z ∧ AE ((20 + Y.length:Nat):Int) FU (Z1 ++ Z2) 20 = some Z:=by
   by_cases hY:Y = []
   ·subst hY
    have:Z2 = []:=List.Perm.eq_nil w1
    subst this
    refine ⟨Z1 ++ [],aj,by simpa using v,?_⟩
    have:∀ g,AE ((20 + 0:Nat):Int) (g + 1) (Z1 ++ []) 20 = some (Z1 ++ []):=fun g=>by
     rw [AE,if_neg (by simp)]
    exact this (FU - 1)
   ·have y0:=List.length_pos_iff.2 hY
    obtain ⟨Z,v1,v2,f⟩:=WU (X:=Z1) (Y:=Z2) (fun h=>by subst h; simp at zl) (fun h=>by subst h; simp at wl; exact hY (List.length_eq_zero_iff.1 wl.symm)) v w2 ay (by omega)
    rw [zl,wl] at f
    refine ⟨Z,v1.trans aj,v2,?_⟩
    have l3:∀ (u:List BL → Int → Ag (List BL)),Bn ((20 + Y.length:Nat):Int) 20 u FU (Z1 ++ Z2) 0 ((40:Nat):Int) = u Z ((40:Nat):Int):=by
     intro u
     have:∀ g,Bn ((20 + Y.length:Nat):Int) 20 u (g + 2) (Z1 ++ Z2) 0 ((40:Nat):Int) = u Z ((40:Nat):Int):=fun g=>by
      rw [Bn]
      unfold Bk
      dsimp only
      by_cases am:Y.length = 20
      ·have e:((40:Nat):Int) = ((20 + Y.length:Nat):Int):=by omega
       have a4:Af (((20 + Y.length:Nat):Int) + 20) = ((60:Nat):Int):=by rw [am]; decide
       rw [if_pos (by simp; omega),ar,e,f,Aa,Bn]
       unfold Bk
       dsimp only
       rw [ap,if_neg (by rw [A6 (by omega) (by omega)]; simp; omega),a4,if_neg (by simp; omega),an,e]
      ·rw [if_neg (by simp; omega),ar,if_pos (by simp; omega),f,Aa,an]
     exact this (FU - 2)
    have:∀ g,AE ((20 + Y.length:Nat):Int) (g + 2) (Z1 ++ Z2) 20 = some Z:=fun g=>by
     rw [AE,if_pos (by simp; omega),ap,l3,AE,if_neg (by simp; omega)]
    exact this (FU - 2)
  obtain ⟨Z,v1,v2,f⟩:=a0
  refine ⟨Z,v1,v2,?_⟩
  have l1:AL ((20 + Y.length:Nat):Int) FU (X ++ Y) 0 20 = some Z:=by
   have:∀ g,AL ((20 + Y.length:Nat):Int) (g + 3) (X ++ Y) 0 20 = some Z:=fun g=>by
    have a1:Af ((20:Int) + 20) = ((40:Nat):Int):=by decide
    have a2:Af (((40:Nat):Int) + 20) = ((60:Nat):Int):=by decide
    have az:Bi (X ++ Y) 0 20 = some (Z1 ++ Y):=m
    rw [AL,if_pos (by simp; omega),az,Aa,a1,AL]
    by_cases am:Y.length = 20
    ·have e:((40:Nat):Int) = ((20 + Y.length:Nat):Int):=by omega
     have ak:Bi (Z1 ++ Y) 20 ((40:Nat):Int) = some (Z1 ++ Z2):=by rw [e]; exact w3
     obtain ⟨Z3,y1,_,y3⟩:=Md (A:=Z1 ++ Z2) (X:=[]) (B:=[]) (a:=40) (b:=20 + Y.length) (by simp; omega) (by simp; omega) (by omega) (fun s h=>by cases h)
     have:Z3 = []:=List.Perm.eq_nil y1
     subst this
     simp only [List.append_nil] at y3
     rw [if_pos (by simp; omega),ak,Aa,a2,AL,if_neg (by simp; omega),y3,Aa,f]
    ·have ak:Bi (Z1 ++ Y) 20 ((20 + Y.length:Nat):Int) = some (Z1 ++ Z2):=w3
     rw [if_neg (by simp; omega),ak,Aa,f]
   exact this (FU - 3)
  rw [hn,l1,Aa]
def IH (x:BL):Bool:=BJ x.1 1 12 && (BJ x.2.1 1 9 && (BJ x.2.2.1 0 999 && BJ x.2.2.2 (x.2.2.1 + 1) 1000))
theorem MW {x:BL}:IH x = true ↔ (1 ≤ x.1 ∧ x.1 ≤ 12) ∧ (1 ≤ x.2.1 ∧ x.2.1 ≤ 9) ∧ (0 ≤ x.2.2.1 ∧ x.2.2.1 ≤ 999) ∧ x.2.2.1 + 1 ≤ x.2.2.2 ∧ x.2.2.2 ≤ 1000:=by
 unfold IH
 simp only [Cf,D9]
theorem Wv (x:BL):JO x = some (IH x):=by
 unfold JO Bk
 dsimp only
 rw [CT,Aa,CT,Aa]
 cases h1:BJ x.1 1 12 with
 | false=>simp [IH,h1]
 | true =>
  cases f:BJ x.2.1 1 9 with
  | false=>simp [IH,h1,f]
  | true =>
   rw [if_pos rfl,if_pos rfl]
   have e:IH x = (decide (0 ≤ x.2.2.1) && (decide (x.2.2.1 < x.2.2.2) && decide (x.2.2.2 ≤ 1000))):=by
    unfold IH BJ at *
    rw [h1,f,Bool.eq_iff_iff]
    simp
    omega
   rw [e]
   by_cases g:0 ≤ x.2.2.1 <;> by_cases h:x.2.2.1 < x.2.2.2 <;> simp [g,h]
theorem RX (a b:BL):HR a b = some (decide (FQ a b)):=by
 unfold HR Bk FQ
 dsimp only
 by_cases h1:a.2.2.1 < b.2.2.1
 ·simp [h1]
 ·by_cases e:a.2.2.1 = b.2.2.1 <;> simp [h1,e]
def Of (x y:BL):Bool:=!((decide (y.2.1 = x.2.1) || decide (y.1 = x.1)) && decide (x.2.2.1 < y.2.2.2))
def Ke (l:List BL) (k:Nat):Bool:=decide (k = 0) || decide (FQ (CN l (k - 1)) (CN l k))
def W7 (l:List BL) (k:Nat):Bool:=IH (CN l k) && (Ke l k && (l.take k).all (Of (CN l k)))
def Fv (l:List BL):Bool:=(List.range l.length).all (W7 l) && decide (l.length ≤ 40)
theorem RP {l:List BL} (hl:l.length < 4611686018427387904) (ho:∀ x ∈ l,Lv x):Je l = some (Fv l):=by
 unfold Je Fv
 rw [O0 (Dw l) l.length (W7 l) (some (decide (l.length ≤ 40))) (some false) hl (fun m k u=>?_) (fun m=>?_)]
 ·cases (List.range l.length).all (W7 l) <;> simp
 ·have h:l[k]? = some (CN l k):=by rw [Cp u,FR u]
  have aa:=ho _ (IU u)
  rw [Dw,if_pos (by simp; omega),AY,h,Aa]
  unfold Bk Js Jd W7
  dsimp only
  rw [CU,Aa,Aa,CU,Aa,Aa,CU,Aa,A6 (x:=(CN l k).2.2.1 + 1) (by have:=aa.2; omega) (by have:=aa.2; omega),CU,Aa]
  by_cases v:IH (CN l k) = true
  ·have e:=v
   unfold IH at e
   simp only [Cf] at e
   rw [e.1,if_neg (by simp),e.2.1,if_neg (by simp),e.2.2.1,if_neg (by simp),e.2.2.2,if_neg (by simp),v,Bool.true_and]
   have ah:(Option.bind (sl l 0 (k:Int)) fun ag=>EJ ag (CN l k) (Dw l m) (k:Int) FU 0) = if (l.take k).all (Of (CN l k)) = true then Dw l m ((k + 1:Nat):Int) else some false:=by
    rw [LM l (by omega),Aa]
    rw [O1 (EJ (l.take k) (CN l k) (Dw l m) (k:Int)) (l.take k) (Of (CN l k)) (Dw l m ((k + 1:Nat):Int)) (some false) (by simp; omega) (fun m' j x hj h=>?_) (fun m'=>?_)]
    ·rw [EJ,if_pos (by simp at hj ⊢; omega),AY,h,Aa,AD (by simp at hj; omega)]
     unfold Bk Of
     dsimp only
     by_cases f:x.2.1 = (CN l k).2.1
     ·rw [if_pos (by simpa using f)]
      by_cases s:(CN l k).2.2.1 < x.2.2.2 <;> simp [f,s]
     ·rw [if_neg (by simpa using f)]
      by_cases g:x.1 = (CN l k).1
      ·rw [if_pos (by simpa using g)]
       by_cases s:(CN l k).2.2.1 < x.2.2.2 <;> simp [f,g,s]
      ·rw [if_neg (by simpa using g)]
       simp [f,g]
    ·rw [EJ,if_neg (by simp),AD (by omega)]
   rw [ah]
   by_cases h0:k = 0
   ·subst h0
    rw [if_neg (by simp)]
    simp [Ke]
   ·have ai:l[k - 1]? = some (CN l (k - 1)):=by rw [Cp (by omega),FR (by omega)]
    rw [if_pos (by simp; omega),A6 (by omega) (by omega),show (k:Int) - 1 = ((k - 1:Nat):Int) by omega,AY,ai,Aa,RX,Aa]
    unfold Ke
    by_cases hb:FQ (CN l (k - 1)) (CN l k)
    ·rw [decide_eq_true hb,Bool.or_true,Bool.true_and,if_neg (by simp)]
    ·rw [decide_eq_false hb,decide_eq_false h0]
     simp
  ·have e:IH (CN l k) = false:=by simpa using v
   rw [e,Bool.false_and,if_neg (c:=false = true) (by simp)]
   unfold IH at e
   cases b1:BJ (CN l k).1 1 12 with
   | false=>simp
   | true =>
    cases b2:BJ (CN l k).2.1 1 9 with
    | false=>simp
    | true =>
     cases b3:BJ (CN l k).2.2.1 0 999 with
     | false=>simp
     | true =>
      rw [b1,b2,b3] at e
      simp only [Bool.true_and] at e
      rw [e]
      simp
 ·rw [Dw,if_neg (by simp),show decide ((l.length:Int) ≤ 40) = decide (l.length ≤ 40) by rw [decide_eq_decide]; omega]
theorem Hg {l:List BL}:Fv l = true ↔ l.length ≤ 40 ∧ (∀ x ∈ l,IH x = true) ∧ l.Pairwise FQ ∧ ∀ k,k < l.length → (l.take k).all (Of (CN l k)) = true:=by
 unfold Fv W7
 simp only [Cf,List.all_eq_true,List.mem_range,C9]
 constructor
 ·rintro ⟨h1,h⟩
  refine ⟨h,fun x hx=>?_,?_,fun k e=>?_⟩
  ·obtain ⟨k,e,rfl⟩:=Mb hx
   exact (h1 k e).1
  ·have s:∀ k,k + 1 < l.length → FQ (CN l k) (CN l (k + 1)):=fun k e=>by
    have:=(h1 (k + 1) e).2.1
    unfold Ke at this
    simpa using this
   have v:∀ d i,i + d + 1 < l.length → FQ (CN l i) (CN l (i + d + 1)):=by
    intro d
    induction d with
    | zero=>intro i f; exact s i f
    | succ d ih =>
     intro i f
     have m:=ih i (by omega)
     have u:=s (i + d + 1) (by omega)
     rw [show i + (d + 1) + 1 = i + d + 1 + 1 by omega]
     unfold FQ at *
     omega
   rw [List.pairwise_iff_getElem]
   intro i j f hj ae
   have:=v (j - i - 1) i (by omega)
   rw [show i + (j - i - 1) + 1 = j by omega,FR f,FR hj] at this
   exact this
  ·exact fun y g=>(h1 k e).2.2 y g
 ·rintro ⟨h1,h,m,u⟩
  refine ⟨fun k e=>⟨h _ (IU e),?_,fun y g=>u k e y g⟩,h1⟩
  unfold Ke
  by_cases h0:k = 0
  ·simp [h0]
  ·have:=(List.pairwise_iff_getElem.1 m) (k - 1) k (by omega) e (by omega)
   rw [← FR (by omega:k - 1 < l.length),← FR e] at this
   simp [this]
def Oe (x y:BL):Bool:=!((decide (x.2.1 = y.2.1) || decide (x.1 = y.1)) && decide (Fx x.2.2.1 y.2.2.1 < Fn x.2.2.2 y.2.2.2))
theorem Tv {x y:BL} (g:IH x = true) (f:IH y = true) (h:FQ y x):Oe x y = Of x y:=by
 have l:=MW.1 g
 have m:=MW.1 f
 have e:decide (Fx x.2.2.1 y.2.2.1 < Fn x.2.2.2 y.2.2.2) = decide (x.2.2.1 < y.2.2.2):=by
  rw [decide_eq_decide]
  unfold Fx Fn
  unfold FQ at h
  split <;> split <;> omega
 unfold Oe Of
 rw [e,show decide (x.2.1 = y.2.1) = decide (y.2.1 = x.2.1) by rw [decide_eq_decide]; exact eq_comm,show decide (x.1 = y.1) = decide (y.1 = x.1) by rw [decide_eq_decide]; exact eq_comm]
theorem Aah {l:List BL} (h:∀ k,k < l.length → Ke l k = true):l.Pairwise FQ:=by
 have f:∀ k,k + 1 < l.length → FQ (CN l k) (CN l (k + 1)):=fun k m=>by
  have:=h (k + 1) m
  unfold Ke at this
  simpa using this
 have g:∀ d i,i + d + 1 < l.length → FQ (CN l i) (CN l (i + d + 1)):=by
  intro d
  induction d with
  | zero=>intro i e; exact f i e
  | succ d u =>
   intro i e
   have h3:=u i (by omega)
   have h4:=f (i + d + 1) (by omega)
   rw [show i + (d + 1) + 1 = i + d + 1 + 1 by omega]
   unfold FQ at *
   omega
 rw [List.pairwise_iff_getElem]
 intro i j e s v
 have:=g (j - i - 1) i (by omega)
 rw [show i + (j - i - 1) + 1 = j by omega,FR e,FR s] at this
 exact this
theorem Xu {l:List BL} (h:l.Pairwise FQ) {k:Nat} (e:k < l.length) {y:BL} (f:y ∈ l.take k):FQ y (CN l k):=by
 obtain ⟨i,g,rfl⟩:=List.mem_take_iff_getElem.1 f
 rw [FR e]
 exact (List.pairwise_iff_getElem.1 h) i k (by omega) e (by omega)
theorem O2 {l:List BL} (hl:l.length < 4611686018427387904) (ho:∀ x ∈ l,Lv x):FV l = some (Fv l):=by
 unfold FV
 by_cases ag:l.length ≤ 40
 ·rw [if_neg (by simp; omega)]
  rw [O1 (Eh l) l IH (CF l FU 0) (some false) hl (fun m k x hx e=>?_) (fun m=>?_)]
  ·cases ha:l.all IH with
   | false =>
    rw [if_neg (by simp)]
    have:Fv l = false:=by
     rw [← Bool.not_eq_true]
     intro h
     rw [List.all_eq_true.2 (Hg.1 h).2.1] at ha
     cases ha
    rw [this]
   | true =>
    have v:=List.all_eq_true.1 ha
    rw [if_pos rfl]
    rw [O0 (CF l) l.length (fun k=>Ke l k && (l.take k).all (Oe (CN l k))) (some true) (some false) hl (fun m k e=>?_) (fun m=>?_)]
    ·have:(List.range l.length).all (fun k=>Ke l k && (l.take k).all (Oe (CN l k))) = Fv l:=by
      rw [Bool.eq_iff_iff,Hg]
      simp only [List.all_eq_true,List.mem_range,Cf]
      constructor
      ·intro h
       have g:=Aah fun k e=>(h k e).1
       refine ⟨ag,v,g,fun k e y f=>?_⟩
       rw [← Tv (v _ (IU e)) (v y (List.mem_of_mem_take f)) (Xu g e f)]
       exact (h k e).2 y f
      ·rintro ⟨_,_,g,h⟩ k e
       refine ⟨?_,fun y f=>?_⟩
       ·unfold Ke
        by_cases h0:k = 0
        ·simp [h0]
        ·have:=(List.pairwise_iff_getElem.1 g) (k - 1) k (by omega) e (by omega)
         rw [← FR (by omega:k - 1 < l.length),← FR e] at this
         simp [this]
       ·rw [Tv (v _ (IU e)) (v y (List.mem_of_mem_take f)) (Xu g e f)]
        exact h k e y f
     rw [this]
     cases Fv l <;> rfl
    ·have hx:l[k]? = some (CN l k):=by rw [Cp e,FR e]
     rw [CF,if_pos (by simp; omega),AY,hx,Aa]
     unfold Bk
     dsimp only
     have am:(Option.bind (sl l 0 (k:Int)) fun ap=>D5 ap (CN l k) (CF l m) (k:Int) FU 0) = if (l.take k).all (Oe (CN l k)) = true then CF l m ((k + 1:Nat):Int) else some false:=by
      rw [LM l (by omega),Aa]
      rw [O1 (D5 (l.take k) (CN l k) (CF l m) (k:Int)) (l.take k) (Oe (CN l k)) (CF l m ((k + 1:Nat):Int)) (some false) (by simp; omega) (fun m' j x hj hx=>?_) (fun m'=>?_)]
      ·rw [D5,if_pos (by simp at hj ⊢; omega),AY,hx,Aa,AD (by simp at hj; omega)]
       unfold Bk Oe
       dsimp only
       by_cases s:(CN l k).2.1 = x.2.1
       ·rw [if_pos (by simpa using s)]
        by_cases a3:Fx (CN l k).2.2.1 x.2.2.1 < Fn (CN l k).2.2.2 x.2.2.2 <;> simp [s,a3]
       ·rw [if_neg (by simpa using s)]
        by_cases a2:(CN l k).1 = x.1
        ·rw [if_pos (by simpa using a2)]
         by_cases a3:Fx (CN l k).2.2.1 x.2.2.1 < Fn (CN l k).2.2.2 x.2.2.2 <;> simp [s,a2,a3]
        ·rw [if_neg (by simpa using a2)]
         simp [s,a2]
      ·rw [D5,if_neg (by simp),AD (by omega)]
     rw [am]
     by_cases h0:k = 0
     ·subst h0
      rw [if_neg (by simp)]
      simp [Ke]
     ·have an:l[k - 1]? = some (CN l (k - 1)):=by rw [Cp (by omega),FR (by omega)]
      obtain ⟨u,hu,_,al⟩:=QS (ho _ (IU (Y:=l) (k:=k - 1) (by omega))) (ho _ (IU e))
      rw [if_pos (by simp; omega),A6 (by omega) (by omega),show (k:Int) - 1 = ((k - 1:Nat):Int) by omega,AY,an,Aa,hu,Aa,al]
      unfold Ke
      by_cases hb:FQ (CN l (k - 1)) (CN l k)
      ·rw [decide_eq_true hb,Bool.or_true,Bool.true_and,if_neg (by simp)]
      ·rw [decide_eq_false hb,decide_eq_false h0]
       simp
    ·rw [CF,if_neg (by simp)]
  ·rw [Eh,if_pos (by simp; have:=(List.getElem?_eq_some_iff.1 e).1; omega),AY,e,Aa,Wv,Aa,AD (by have:=(List.getElem?_eq_some_iff.1 e).1; omega)]
   cases IH x <;> simp
  ·rw [Eh,if_neg (by simp)]
 ·rw [if_pos (by simp; omega)]
  have:Fv l = false:=by
   rw [← Bool.not_eq_true]
   intro h
   exact ag (Hg.1 h).1
  rw [this]
theorem Adf {l:List BL} {x:BL} {K:List BL → Ag (List BL × Bool)} (hl:l.length < 100000) (hs:FX l):∀ (k m:Nat),k ≤ l.length → k < m → (∀ s ∈ l.drop k,FQ x s) →
  ∃ Z,Z.Perm (x :: l) ∧ FX Z ∧ FG l x K m (k:Int) = K Z:=by
 intro k
 have ad:∀ (k:Nat),k ≤ l.length → (∀ s ∈ l.drop k,FQ x s) → (k = 0 ∨ ¬ FQ x (CN l (k - 1))) → (Option.bind (sl l 0 (k:Int)) fun ai=>Option.bind (sl l (k:Int) (List.length l:Int)) fun ae=>Option.bind (Cl [] ai) fun an=>Option.bind (Cl an [x]) fun am=>Option.bind (Cl am ae) fun ap=>K ap) = K (l.take k ++ x :: l.drop k) ∧ FX (l.take k ++ x :: l.drop k) ∧ (l.take k ++ x :: l.drop k).Perm (x :: l):=by
  intro k e h1 h2
  refine ⟨?_,?_,?_⟩
  ·rw [LM l e,Aa,SU l e,Aa,Bt (by simp; omega),Aa,Bt (by simp; omega),Aa,Bt (by simp; omega),Aa]
   simp
  ·refine Pg (by rw [List.take_append_drop]; exact hs) (fun s h=>LQ (h1 s h)) ?_
   rcases h2 with h | h
   ·left; rw [h,List.take_zero]
   ·refine TP fun y hy=>?_
    obtain ⟨i,hi,rfl⟩:=List.mem_take_iff_getElem.1 hy
    have h3:=Mh hs (i:=i) (j:=k - 1) (by omega) (by omega)
    rw [FR (by omega)] at h3
    exact LP h3 h
  ·have:(l.take k ++ x :: l.drop k).Perm (x :: (l.take k ++ l.drop k)):=List.perm_middle
   rwa [List.take_append_drop] at this
 induction k with
 | zero =>
  intro m e hm h1
  cases m with
  | zero=>omega
  | succ m =>
   obtain ⟨f1,v,u⟩:=ad 0 e h1 (.inl rfl)
   refine ⟨_,u,v,?_⟩
   rw [FG]
   unfold Bk
   dsimp only
   rw [if_neg (by simp),if_neg (by simp)]
   exact f1
 | succ k ih =>
  intro m e hm h1
  cases m with
  | zero=>omega
  | succ m =>
   have f:k < l.length:=by omega
   have hx:l[k]? = some (CN l k):=by rw [Cp f,FR f]
   have ek:Af (((k + 1:Nat):Int) - 1) = (k:Int):=by rw [A6 (by omega) (by omega)]; omega
   rw [FG]
   unfold Bk
   dsimp only
   rw [if_pos (by simp <;> omega),ek,AY,hx,Aa,RX,Aa]
   by_cases g:FQ x (CN l k)
   ·rw [if_pos (by simpa using g)]
    refine ih m (by omega) (by omega) (fun s h=>?_)
    rw [List.drop_eq_getElem_cons f] at h
    rcases List.mem_cons.1 h with rfl | h
    ·rw [← FR f]; exact g
    ·exact h1 s h
   ·obtain ⟨f1,v,u⟩:=ad (k + 1) e h1 (.inr (by simpa using g))
    refine ⟨_,u,v,?_⟩
    rw [if_neg (by simpa using g)]
    exact f1
theorem Zk {l:List BL} (hl:l.length < 50000) (ho:∀ x ∈ l,Lv x):∃ Z,Z.Perm l ∧ FX Z ∧ Jc l = some (if Fv Z = true then (Z,true) else ([],false)):=by
 unfold Jc
 have ah:∀ (d k m:Nat) (S:List BL),l.length - k = d → k ≤ l.length → d < m → S.Perm (l.take k) → FX S → ∃ Z,Z.Perm l ∧ FX Z ∧ EI l m S (k:Int) = some (if Fv Z = true then (Z,true) else ([],false)):=by
  intro d
  induction d with
  | zero =>
   intro k m S hd hk hm e f
   have:k = l.length:=by omega
   subst this
   rw [List.take_length] at e
   cases m with
   | zero=>omega
   | succ m =>
    refine ⟨S,e,f,?_⟩
    rw [EI,if_neg (by simp),RP (by have:=e.length_eq; omega) (fun x hx=>ho x (e.mem_iff.1 hx)),Aa]
    cases Fv S <;> rfl
  | succ d ih =>
   intro k m S hd hk hm e f
   have g:k < l.length:=by omega
   have ao:S.length = k:=by rw [e.length_eq]; simp; omega
   cases m with
   | zero=>omega
   | succ m =>
    obtain ⟨Z,z1,u,v⟩:=Adf (l:=S) (x:=l[k]) (K:=fun ak=>EI l m ak (Af ((k:Int) + 1))) (by omega) f S.length FU (Nat.le_refl _) (DH (by omega)) (fun s h=>by rw [List.drop_length] at h; cases h)
    rw [EI,if_pos (by simp; omega)]
    unfold Bk
    dsimp only
    rw [Jl g,Aa]
    obtain ⟨W,w1,w2,w3⟩:=ih (k + 1) m Z (by omega) (by omega) (by omega) (by
     rw [List.take_succ_eq_append_getElem g]
     exact z1.trans ((List.Perm.cons _ e).trans (List.perm_append_singleton _ _).symm)) u
    refine ⟨W,w1,w2,?_⟩
    rw [v,AD (by omega)]
    exact w3
 exact ah l.length 0 FU [] rfl (by omega) (DH (by omega)) (by simp) List.Pairwise.nil
theorem Sf:∀ {Z W:List BL},Z.Perm W → Z.Pairwise FQ → FX W → Z = W
 | [],W,h,_,_=>(List.Perm.nil_eq h)
 | a :: Z,[],h,_,_=>by have:=h.length_eq; simp at this
 | a :: Z,b :: W,h,h1,h2=>by
  have e:a = b:=by
   have f:a ∈ b :: W:=h.mem_iff.1 (List.mem_cons_self ..)
   have g:b ∈ a :: Z:=h.mem_iff.2 (List.mem_cons_self ..)
   rcases List.mem_cons.1 f with e | f
   ·exact e
   ·rcases List.mem_cons.1 g with e | g
    ·exact e.symm
    ·have m:=(List.pairwise_cons.1 h1).1 b g
     have l:=(List.pairwise_cons.1 h2).1 a f
     exact absurd m l
  subst e
  rw [Sf (List.Perm.cons_inv h) (List.pairwise_cons.1 h1).2 (List.pairwise_cons.1 h2).2]
theorem Aaa {Z W:List BL} (h:Z.Perm W) (h1:FX Z) (g:FX W):(if Fv Z = true then (Z,true) else ([],false)) = (if Fv W = true then (W,true) else (([]:List BL),false)):=by
 by_cases f:Fv Z = true
 ·rw [Sf h (Hg.1 f).2.2.1 g]
 ·by_cases e:Fv W = true
  ·exact absurd (by rw [← Sf h.symm (Hg.1 e).2.2.1 h1]; exact e) f
  ·rw [if_neg f,if_neg e]
theorem Yh {l:List BL} (u:l.length ≤ 40) (f:∀ x ∈ l,Lv x):∃ Z,Z.Perm l ∧ B7 l = some Z ∧ FV Z = some (Fv Z) ∧ Jc l = some (if Fv Z = true then (Z,true) else ([],false)):=by
 obtain ⟨Z,e,g,h⟩:=Yt u f
 obtain ⟨W,v,s,w3⟩:=Zk (by omega) f
 refine ⟨Z,e,h,O2 (by rw [e.length_eq]; omega) (fun x m=>f x (e.mem_iff.1 m)),?_⟩
 rw [w3,Aaa (v.trans e.symm) s g]
end Go.Proofs.YtellehgihceicaaGreatDoor
