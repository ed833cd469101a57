/-
 REPAIRS, PLAIN: both sides tell the same kind.
-/
import Derived.Test.YtellehgihceicaaGreatDoorCore20
import Derived.Test.YtellehgihceicaaGreatDoorF
import Derived.Test.YtellehgihceicaaGreatDoorLibF
import Derived.Lib.Mul64
set_option linter.unusedVariables false
set_option linter.unusedSimpArgs false
set_option maxHeartbeats 1600000
namespace Go.Proofs.YtellehgihceicaaGreatDoor
open Go
theorem A8 {x:Int} (h1:-9223372036854775808 ≤ x) (e:x ≤ 9223372036854775807):Ag x = x:=by
 unfold Ag IntKind.wrap
 simp only [IntKind.bits,IntKind.signed]
 simp only [ge_iff_le,Bool.true_and,C7]
 split <;> omega
theorem AE {k:Nat} (h:k < 4611686018427387904):Ag ((k:Int) + 1) = ((k + 1:Nat):Int):=by
 rw [A8 (by omega) (by omega)]; omega
theorem AY {α:Type} (l:List α) (k:Nat):AM l (k:Int) = l[k]?:=by unfold AM; simp
theorem Sw {α:Type} (l:List α):AM l 0 = l[0]?:=by unfold AM; simp
theorem It {α:Type} {l:List α} {i:Int} (e:0 ≤ i):AM l i = l[i.toNat]?:=by unfold AM; rw [if_pos e]
theorem DH {n:Nat} (h:n < 4611686018427387904):n < FU:=h
theorem LM {α:Type} (l:List α) {k:Nat} (h:k ≤ l.length):sl l 0 (k:Int) = some (l.take k):=by
 unfold sl
 rw [if_pos (by omega)]
 simp
theorem O1 {R:Type} (f:Nat → Int → Af R) (n:Nat) (p:Nat → Bool) (rest e:Af R) (hn:n < 4611686018427387904)
  (u:∀ m k,k < n → f (m + 1) (k:Int) = if p k = true then f m ((k + 1:Nat):Int) else e) (v:∀ m,f (m + 1) (n:Int) = rest):f FU 0 = if (List.range n).all p = true then rest else e:=by
 have s:∀ d k m,n - k = d → k ≤ n → n - k < m → f m (k:Int) = if (List.range' k (n - k)).all p = true then rest else e:=by
  intro d
  induction d with
  | zero =>
   intro k m g hk h
   have:k = n:=by omega
   subst this
   cases m with
   | zero=>omega
   | succ m=>simp [v]
  | succ d l =>
   intro k m g hk h
   cases m with
   | zero=>omega
   | succ m =>
    rw [u m k (by omega),g,List.range'_succ,List.all_cons]
    cases hp:p k with
    | false=>simp
    | true =>
     simp only [if_true,Bool.true_and]
     rw [l (k + 1) m (by omega) (by omega) (by omega),show n - (k + 1) = d by omega]
 have:=s n 0 FU (by omega) (by omega) (DH (by omega))
 simpa [List.range_eq_range'] using this
theorem YX {α:Type} (l:List α) (p:Nat → Bool) (q:α → Bool) (h:∀ k x,l[k]? = some x → p k = q x):(List.range l.length).all p = l.all q:=by
 rw [Bool.eq_iff_iff,List.all_eq_true,List.all_eq_true]
 constructor
 ·intro h1 x g
  obtain ⟨k,e⟩:=List.getElem?_of_mem g
  rw [← h k x e]
  exact h1 k (List.mem_range.2 (List.getElem?_eq_some_iff.1 e).1)
 ·intro h1 k e
  have f:=List.mem_range.1 e
  rw [h k l[k] (by simp [f])]
  exact h1 _ (List.getElem_mem f)
theorem O2 {α R:Type} (f:Nat → Int → Af R) (l:List α) (q:α → Bool) (rest g:Af R) (s:l.length < 4611686018427387904)
  (u:∀ m k x,k < l.length → l[k]? = some x → f (m + 1) (k:Int) = if q x = true then f m ((k + 1:Nat):Int) else g) (v:∀ m,f (m + 1) (l.length:Int) = rest):f FU 0 = if l.all q = true then rest else g:=by
 rw [O1 f l.length (fun k=>match l[k]? with | some x=>q x | none=>true) rest g s (fun m k h=>?_) v,YX l _ q (fun k x e=>by simp [e])]
 have e:l[k]? = some l[k]:=by simp [h]
 rw [u m k l[k] h e]
 simp [e]
def Szd (o:Af Int) (n:Int) (Q:Prop):Prop:=∃ r,o = some r ∧ (r < 0 ∨ (0 ≤ r ∧ r ≤ n ∧ Q))
theorem Jo {α:Type} {l:List α} {k:Nat} (h:k < l.length):AM l (k:Int) = some l[k]:=by rw [AY]; simp [h]
theorem JX {α:Type} (l:List α) (k:Nat) (x:α):BG l (k:Int) x = l.set k x:=by unfold BG; simp
theorem Szd.imp {o:Af Int} {n:Int} {Q R:Prop} (h:Szd o n Q) (f:Q → R):Szd o n R:=by
 obtain ⟨r,h1,e⟩:=h
 exact ⟨r,h1,e.imp id fun h=>⟨h.1,h.2.1,f h.2.2⟩⟩
theorem N8 {α:Type} {n:Nat} (h:n ≤ 1073741824) (z:α):RY (n:Int) z = some (List.replicate n z):=by
 unfold RY
 rw [if_pos (by omega)]
 simp
theorem W4 {α S R:Type} (f:Nat → S → Int → Af R) (l:List α) (h:S → α → S) (rest:S → Af R) (hn:l.length < 4611686018427387904)
  (hs:∀ m s k x,k < l.length → l[k]? = some x → f (m + 1) s (k:Int) = f m (h s x) ((k + 1:Nat):Int)) (he:∀ m s,f (m + 1) s (l.length:Int) = rest s) (g:S):f FU g 0 = rest (l.foldl h g):=by
 have aa:∀ d k m s,l.length - k = d → k ≤ l.length → l.length - k < m → f m s (k:Int) = rest ((l.drop k).foldl h s):=by
  intro d
  induction d with
  | zero =>
   intro k m s hd hk u
   have:k = l.length:=by omega
   subst this
   cases m with
   | zero=>omega
   | succ m=>rw [he]; simp
  | succ d v =>
   intro k m s hd hk u
   cases m with
   | zero=>omega
   | succ m =>
    have e:k < l.length:=by omega
    rw [hs m s k l[k] e (by simp [e]),v (k + 1) m _ (by omega) (by omega) (by omega),List.drop_eq_getElem_cons e,List.foldl_cons]
 have:=aa _ 0 FU g rfl (by omega) (DH (by omega))
 simpa using this
theorem Tp {α:Type} (l:List α) {k:Nat} (h:k ≤ l.length):sl l 0 (k:Int) = some (l.take k):=LM l h
theorem Br {α:Type} {l m:List α} (h:l.length + m.length ≤ 1073741824):Ck l m = some (l ++ m):=by
 unfold Ck
 rw [if_pos h]
def PQ (l:List Ai):Nat:=l.count 10
theorem ten:(10:Int).toNat.toUInt8 = 10:=by decide
def Ht (l:List Ai):Bool:=decide (l.length ≤ 2000) && (decide (l = []) || decide (l.getLast? = some 10)) && decide (PQ l ≤ 40)
theorem TU {l:List Ai} (h:l ≠ []):∃ b,AM l ((l.length:Int) - 1) = some b ∧ l.getLast? = some b ∧ l = l.take (l.length - 1) ++ [b]:=by
 have f:0 < l.length:=List.length_pos_iff.2 h
 have e:l.length - 1 < l.length:=by omega
 refine ⟨l[l.length - 1],?_,?_,?_⟩
 ·rw [show (l.length:Int) - 1 = ((l.length - 1:Nat):Int) by omega,Jo e]
 ·rw [List.getLast?_eq_getElem?,Cp e]
 ·conv=>lhs; rw [← List.take_append_drop (l.length - 1) l]
  rw [List.drop_eq_getElem_cons e,List.drop_eq_nil_of_le (by omega)]
def Hq (b:Ai):Bool:=decide (48 ≤ b.toNat) && decide (b.toNat ≤ 57)
def OP (l:List Ai):Int:=l.foldl (fun a b=>10 * a + ((b.toNat:Int) - 48)) 0
theorem Sc {d:Nat} (h:d < 10):(UInt8.ofNat (48 + d)).toNat = 48 + d:=by
 rw [UInt8.toNat_ofNat']
 omega
theorem QZ {u:Nat} (h:u < 10):Lib.decDigits u = [UInt8.ofNat (48 + u)]:=Lib.decDigits_one h
theorem XR {u:Nat} (h:¬ u < 10):Lib.decDigits u = Lib.decDigits (u / 10) ++ [UInt8.ofNat (48 + u % 10)]:=by
 rw [Lib.decDigits,dif_neg h]
theorem Vi:∀ (k u:Nat),u < 10 ^ (k + 1) → (∀ b ∈ Lib.decDigits u,Hq b = true) ∧ OP (Lib.decDigits u) = u ∧ 1 ≤ (Lib.decDigits u).length ∧ (Lib.decDigits u).length ≤ k + 1 ∧
  (0 < u → ∀ b,(Lib.decDigits u)[0]? = some b → b.toNat ≠ 48):=by
 intro k
 induction k with
 | zero =>
  intro u m
  have h:u < 10:=by simpa using m
  rw [QZ h]
  have:=Sc h
  refine ⟨fun b e=>?_,?_,by simp,by simp,fun h0 b e=>?_⟩
  ·rw [List.mem_singleton.1 e]
   unfold Hq
   rw [this]
   simp
   omega
  ·unfold OP
   simp only [List.foldl_cons,List.foldl_nil,this]
   omega
  ·rw [List.getElem?_cons_zero,Option.some.injEq] at e
   rw [← e,this]
   omega
 | succ k v =>
  intro u m
  by_cases h:u < 10
  ·obtain ⟨g,f,s,a4,l⟩:=v u (Nat.lt_of_lt_of_le h (by rw [Nat.pow_succ]; have:=Nat.pow_pos (n:=k) (show 0 < 10 by omega); omega))
   exact ⟨g,f,s,by omega,l⟩
  ·have hd:u / 10 < 10 ^ (k + 1):=by rw [Nat.pow_succ] at m; omega
   obtain ⟨g,f,s,a4,l⟩:=v (u / 10) hd
   have hm:u % 10 < 10:=by omega
   have:=Sc hm
   rw [XR h]
   refine ⟨fun b e=>?_,?_,by simp,by simp; omega,fun h0 b e=>?_⟩
   ·rcases AX.1 e with e | e
    ·exact g b e
    ·rw [List.mem_singleton.1 e]
     unfold Hq
     rw [this]
     simp
     omega
   ·unfold OP at f ⊢
    rw [List.foldl_append,List.foldl_cons,List.foldl_nil,f,this]
    omega
   ·rw [List.getElem?_append_left (by omega)] at e
    exact l (by omega) b e
theorem Zl:∀ (l:List Ai) (a:Int),(∀ b ∈ l,Hq b = true) → 0 ≤ a → 0 ≤ l.foldl (fun a b=>10 * a + ((b.toNat:Int) - 48)) a ∧ l.foldl (fun a b=>10 * a + ((b.toNat:Int) - 48)) a < (a + 1) * 10 ^ l.length
 | [],a,_,h=>by simp; omega
 | b :: l,a,hd,h=>by
  have e:=hd b (by simp)
  unfold Hq at e
  simp only [Cg,C7] at e
  obtain ⟨h1,g⟩:=Zl l (10 * a + ((b.toNat:Int) - 48)) (fun c f=>hd c (by simp [f])) (by omega)
  rw [List.foldl_cons,List.length_cons,Int.pow_succ]
  refine ⟨h1,Int.lt_of_lt_of_le g ?_⟩
  have m:(0:Int) ≤ 10 ^ l.length:=Int.le_of_lt (Int.pow_pos (by omega))
  have u:(10 * a + ((b.toNat:Int) - 48) + 1) * 10 ^ l.length ≤ ((a + 1) * 10) * 10 ^ l.length:=Int.mul_le_mul_of_nonneg_right (by omega) m
  have s:(a + 1) * (10 ^ l.length * 10) = ((a + 1) * 10) * 10 ^ l.length:=by rw [Int.mul_comm (10 ^ l.length) 10,Int.mul_assoc]
  omega
def CZ (c:Ai):List Ai → List (List Ai)
 | []=>[[]]
 | b :: l=>if b = c then [] :: CZ c l else match CZ c l with
  | []=>[[b]]
  | h :: t=>(b :: h) :: t
theorem OG {c:Ai}:∀ {l:List Ai},c ∉ l → CZ c l = [l]
 | [],_=>rfl
 | b :: l,h=>by
  rw [List.mem_cons,not_or] at h
  rw [CZ,if_neg (fun e=>h.1 e.symm),OG h.2]
theorem OH {c:Ai}:∀ {A B:List Ai},c ∉ A → CZ c (A ++ c :: B) = A :: CZ c B
 | [],B,_=>by rw [List.nil_append,CZ,if_pos rfl]
 | b :: A,B,h=>by
  rw [List.mem_cons,not_or] at h
  rw [List.cons_append,CZ,if_neg (fun e=>h.1 e.symm),OH h.2]
theorem Jj (c:Ai):∀ l:List Ai,(CZ c l).length = l.count c + 1
 | []=>rfl
 | b :: l=>by
  have e:=Jj c l
  rw [CZ]
  by_cases h:b = c
  ·rw [if_pos h,List.length_cons,e,List.count_cons,if_pos (by simp [h])]
  ·rw [if_neg h,List.count_cons,if_neg (by simpa using h)]
   cases f:CZ c l with
   | nil=>rw [f] at e; simp at e
   | cons a t=>rw [f] at e; simpa using e
theorem YR {α:Type} (l:List α) {k:Nat} (h:k ≤ l.length):sl l 0 (k:Int) = some (l.take k):=LM l h
theorem Ta {α:Type} (l:List α) {k:Nat} (h:k ≤ l.length):sl l (k:Int) (List.length l:Int) = some (l.drop k):=by
 unfold sl
 rw [if_pos (by omega)]
 simp
theorem YS (c:Ai):(UInt8.toNat c:Int).toNat.toUInt8 = c:=by
 rw [Int.toNat_natCast]
 exact UInt8.ofNat_toNat
theorem MR {b c:Ai} (h:b ≠ c):((b.toNat:Nat):Int) ≠ (c.toNat:Int):=fun e=>h (UInt8.toNat_inj.1 (by omega))
theorem Aa8 (l:List Ai) (c:Ai):(PU l (c.toNat:Int) = -1 ∧ c ∉ l) ∨ ∃ A B,l = A ++ c :: B ∧ c ∉ A ∧ PU l (c.toNat:Int) = (A.length:Int):=by
 unfold PU
 rw [YS]
 cases h:(List.range l.length).find? (fun i=>l[i]? == some c) with
 | none =>
  left
  refine ⟨rfl,fun g=>?_⟩
  obtain ⟨k,f,e⟩:=List.getElem_of_mem g
  have:=List.find?_eq_none.1 h k (List.mem_range.2 f)
  rw [Cp f,e] at this
  simp at this
 | some i =>
  right
  have m:=List.find?_some h
  have hi:i < l.length:=List.mem_range.1 (List.mem_of_find?_eq_some h)
  have he:l[i] = c:=by
   rw [Cp hi] at m
   simpa using m
  have ab:c ∉ l.take i:=by
   intro g
   obtain ⟨k,f,e⟩:=List.getElem_of_mem g
   rw [List.getElem_take] at e
   have v:k < i:=by simp at f; omega
   have u:k < l.length:=by omega
   have s:=(List.find?_range_eq_some.1 h).2.2 k v
   rw [Cp u,e] at s
   simp at s
  have hl:l = l.take i ++ c :: l.drop (i + 1):=by
   conv=>rhs; rw [← he]
   rw [List.getElem_cons_drop,List.take_append_drop]
  exact ⟨l.take i,l.drop (i + 1),hl,ab,by simp; omega⟩
theorem WM {c:Ai}:∀ {A A' B B':List Ai},c ∉ A → c ∉ A' → A ++ c :: B = A' ++ c :: B' → A = A' ∧ B = B'
 | [],[],B,B',_,_,e=>by simpa using e
 | [],a :: A',B,B',_,h,e=>by
  rw [List.nil_append,List.cons_append,List.cons.injEq] at e
  exact absurd (by rw [e.1]; simp) h
 | a :: A,[],B,B',h,_,e=>by
  rw [List.nil_append,List.cons_append,List.cons.injEq] at e
  exact absurd (by rw [e.1]; simp) h
 | a :: A,a' :: A',B,B',h,h',e=>by
  rw [List.cons_append,List.cons_append,List.cons.injEq] at e
  rw [List.mem_cons,not_or] at h h'
  obtain ⟨g,f⟩:=WM h.2 h'.2 e.2
  exact ⟨by rw [e.1,g],f⟩
theorem ZP {A B:List Ai} {c:Ai} (h:c ∉ A):PU (A ++ c :: B) (c.toNat:Int) = (A.length:Int):=by
 rcases Aa8 (A ++ c :: B) c with ⟨_,f⟩ | ⟨A',B',e,g,l⟩
 ·exact absurd (by simp) f
 ·rw [l,(WM h g e).1]
theorem Abr (l:List Ai) (c:Ai):HO l [c] = some (PU l (c.toNat:Int)):=by
 unfold HO IJ Hm Bk
 dsimp only
 by_cases h:l = [c]
 ·subst h
  have:=ZP (A:=[]) (B:=[]) (c:=c) (by simp)
  rw [List.nil_append] at this
  rw [this]
  simp
 ·have f:([c] == l) = false:=by
   rw [beq_eq_false_iff_ne]
   exact fun e=>h e.symm
  rw [if_neg (by simp),f,if_neg (by simp),if_pos (by simp)]
  rfl
theorem Abs (l:List Ai) (c:Ai):Jq l [c] = some ((l.count c:Nat):Int):=by
 unfold Jq
 rw [if_neg (by simp),if_pos (by simp)]
 show some (Yy l (UInt8.toNat c:Int)) = _
 unfold Yy
 rw [YS]
theorem Aa7 {α:Type} (L:List α) (i:Nat) (x:α) (h:i < L.length):(BG L (i:Int) x).take (i + 1) = L.take i ++ [x]:=by
 unfold BG
 rw [Int.toNat_natCast,List.take_add_one,List.getElem?_set_self h,List.take_set_of_le (Nat.le_refl _)]
 rfl
theorem XA (l:List Ai) (c:Ai) (hl:l.length ≤ 4194304):FY l [c] = some (CZ c l):=by
 have hc:l.count c ≤ l.length:=List.count_le_length
 unfold FY Jp Bk W8
 dsimp only
 have g:Fn ((l.count c:Int) + 1) ((l.length:Int) + 1) = ((l.count c + 1:Nat):Int):=by
  unfold Fn
  split <;> omega
 rw [if_neg (by simp),if_neg (by simp),if_pos (by simp),Abs,Aa,A8 (x:=((l.count c:Nat):Int) + 1) (by omega) (by omega),A8 (x:=(List.length l:Int) + 1) (by omega) (by omega),g,N8 (by omega),Aa]
 have ab:∀ (d i m:Nat) (y:List Ai) (L:List (List Ai)),l.count c - i = d → i ≤ l.count c → d < m → y.count c = d → L.length = l.count c + 1 → y.length ≤ 4194304 →
   DJ ((l.count c:Int) + 1) l [c] (fun ac aa h=>Option.bind (AM aa h) fun ar=>Option.bind (sl (BG aa h ac) 0 (Ag (h + 1))) fun ad=>some ad) 0 m y L (i:Int) = some (L.take i ++ CZ c y):=by
  intro d
  induction d with
  | zero =>
   intro i m y L hd hi hm f v ah
   have:i = l.count c:=by omega
   subst this
   cases m with
   | zero=>omega
   | succ m =>
    rw [DJ,A8 (x:=(List.length l:Int) + 1) (by omega) (by omega),g,A8 (x:=((l.count c + 1:Nat):Int) - 1) (by omega) (by omega),if_neg (by simp <;> omega),Jo (by omega),Aa,AE (by omega),YR _ (by simp [BG]; omega),Aa,Aa7 _ _ _ (by omega),OG (List.count_eq_zero.1 f)]
  | succ d ih =>
   intro i m y L hd hi hm f v ah
   cases m with
   | zero=>omega
   | succ m =>
    rcases Aa8 y c with ⟨_,h0⟩ | ⟨A,B,e,u,hx⟩
    ·rw [List.count_eq_zero.2 h0] at f; omega
    ·have au:y.length = A.length + (B.length + 1):=by rw [e]; simp
     have hB:y.drop (A.length + 1) = B:=by rw [e,show A ++ c :: B = (A ++ [c]) ++ B by simp]; exact List.drop_left' (by simp)
     have aj:y.take A.length = A:=by rw [e]; exact List.take_left' rfl
     have ao:B.count c = d:=by
      rw [e,List.count_append,List.count_eq_zero.2 u,List.count_cons_self] at f
      omega
     rw [DJ,A8 (x:=(List.length l:Int) + 1) (by omega) (by omega),g,A8 (x:=((l.count c + 1:Nat):Int) - 1) (by omega) (by omega),if_pos (by simp <;> omega),Abr,Aa,hx,if_neg (by simp),A8 (x:=(A.length:Int) + 0) (by omega) (by omega),Int.add_zero,YR _ (by omega),Aa,Jo (by omega),Aa]
     rw [show (List.length ([c]:List Ai):Int) = 1 by rfl,AE (by omega),Ta _ (by omega),Aa,AE (by omega),hB,aj]
     rw [ih (i + 1) m B _ (by omega) (by omega) (by omega) ao (by simp [BG]; exact v) (by omega),Aa7 _ _ _ (by omega)]
     conv=>rhs; rw [e]
     rw [OH u,List.append_assoc]
     rfl
 have s:=ab (l.count c) 0 FU l (List.replicate (l.count c + 1) []) (by omega) (by omega) (DH (by omega)) rfl (by simp) hl
 rw [show ((0:Nat):Int) = 0 by rfl] at s
 rw [s]
 rfl
def BK (a lo hi:Int):Bool:=decide (lo ≤ a) && decide (a ≤ hi)
theorem CU (a e f:Int):BO a e f = some (BK a e f):=by
 unfold BO Bk BK
 by_cases h:e ≤ a <;> simp [h]
theorem CT (a e f:Int):BW a e f = some (BK a e f):=by
 unfold BW Bk BK
 by_cases h:e ≤ a <;> simp [h]
def CX (s:Int × Int):Bool:=BK s.1 0 1280 && BK s.2 0 672
theorem OJ (s:Int × Int):HV s = some (CX s):=by
 unfold HV Bk CX
 dsimp only
 rw [CU,Aa,CU]
 cases BK s.1 0 1280 <;> simp
theorem Lw (s:Int × Int):Gr s = some (CX s):=by
 unfold Gr Bk CX
 dsimp only
 rw [CT,Aa,CT]
 cases BK s.1 0 1280 <;> simp
theorem Sb (x y:Int × Int):MC x y = decide (x = y):=by
 obtain ⟨a,b⟩:=x
 obtain ⟨c,d⟩:=y
 simp [MC]
 by_cases h1:a = c <;> by_cases e:b = d <;> simp [h1,e]
def PN (l:List (Int × Int)) (k:Nat):Bool:=match l[k]? with
 | some s=>CX s && (l.take k).all (fun u=>!decide (s = u))
 | none=>true
theorem NY {l:List (Int × Int)} {k:Nat} {s:Int × Int} (h:l[k]? = some s):PN l k = (CX s && (l.take k).all (fun u=>!decide (s = u))):=by
 unfold PN
 rw [h]
def Cu (l:List (Int × Int)):Bool:=BK (l.length:Int) 1 12 && (List.range l.length).all (PN l)
theorem J3 (l:List (Int × Int)) (hl:l.length < 4611686018427387904):FJ l = some (Cu l):=by
 unfold FJ
 rw [O1 (El l) l.length (PN l) (some (BK (l.length:Int) 1 12)) (some false) hl (fun m k v=>?_) (fun m=>?_)]
 ·unfold Cu
  cases (List.range l.length).all (PN l) <;> simp
 ·obtain ⟨s,e⟩:∃ s,l[k]? = some s:=⟨_,Cp v⟩
  rw [El,if_pos (by simp; omega),AY,e,Aa,OJ,Aa,NY e]
  cases CX s with
  | false=>simp
  | true =>
   rw [if_neg (by simp),LM l (by omega),Aa,Bool.true_and]
   have ac:(l.take k).length = k:=by simp; omega
   rw [O2 (FE (l.take k) s (El l m) (k:Int)) (l.take k) (fun u=>!decide (s = u)) (El l m ((k + 1:Nat):Int)) (some false) (by omega) (fun h j x hj f=>?_) (fun h=>?_)]
   ·rw [FE,if_pos (by simp; omega),AY,f,Aa,Sb,AE (by omega)]
    by_cases g:s = x <;> simp [g]
   ·rw [FE,if_neg (by simp),AE (by omega)]
 ·rw [El,if_neg (by simp),CU]
  rfl
theorem Vx (l:List (Int × Int)) (s:Int × Int) (hl:l.length < 4611686018427387904):Dk l s = some (!l.all (fun u=>!decide (s = u))):=by
 unfold Dk Ez
 have aa:∀ d k m,l.length - k = d → k ≤ l.length → l.length - k < m → ∃ i,Cn l s m (k:Int) = some i ∧ decide (0 ≤ i) = !(l.drop k).all (fun u=>!decide (s = u)):=by
  intro d
  induction d with
  | zero =>
   intro k m hd hk h
   cases m with
   | zero=>omega
   | succ m =>
    rw [Cn,if_neg (by simp; omega)]
    exact ⟨-1,rfl,by rw [List.drop_eq_nil_of_le (by omega)]; simp⟩
  | succ d v =>
   intro k m hd hk h
   cases m with
   | zero=>omega
   | succ m =>
    have g:k < l.length:=by omega
    rw [Cn,if_pos (by simp; omega),Jo g,Aa,Sb,AE (by omega),List.drop_eq_getElem_cons g,List.all_cons]
    by_cases e:s = l[k]
    ·exact ⟨k,by simp [e],by simp [e]⟩
    ·rw [if_neg (by simp [e])]
     obtain ⟨i,h1,f⟩:=v (k + 1) m (by omega) (by omega) (by omega)
     exact ⟨i,h1,by simp [e,f]⟩
 obtain ⟨i,h1,f⟩:=aa _ 0 FU rfl (by omega) (DH (by omega))
 rw [show ((0:Nat):Int) = 0 from rfl] at h1
 rw [h1,Aa,f]
 simp
theorem GO (l:List (Int × Int)) (g:l.length < 4611686018427387904):DZ l = some (Cu l):=by
 unfold DZ Cu
 rw [CT,Aa]
 cases h:BK (l.length:Int) 1 12 with
 | false=>simp
 | true =>
  rw [if_neg (by simp),O1 (Fl l) l.length (PN l) (some true) (some false) g (fun m k f=>?_) (fun m=>?_)]
  ·cases (List.range l.length).all (PN l) <;> simp
  ·obtain ⟨s,e⟩:∃ s,l[k]? = some s:=⟨_,Cp f⟩
   rw [Fl,if_pos (by simp; omega),AY,e,Aa]
   unfold Bk
   dsimp only
   rw [NY e,Lw,Aa]
   rw [LM l (by omega),Aa,Vx _ _ (by simp; omega),Aa,AE (by omega)]
   cases CX s with
   | false=>simp
   | true=>simp only [Bool.not_true,Bool.false_eq_true,if_false,Bool.true_and]; cases (List.take k l).all (fun u=>!decide (s = u)) <;> simp
  ·rw [Fl,if_neg (by simp)]
def Wv (l:List Int):Bool:=l.all fun u=>BK u 1 64
theorem Ov (x:Int):Hc x = some (BK x 0 80):=by
 unfold Hc
 rw [CU]; rfl
theorem QT (x:Int):I0 x = some (BK x 0 80):=by
 unfold I0
 rw [CT]; rfl
def Wj (cs:List Ae1):Bool:=cs.all fun c=>Cu c && (match cs[0]? with | some d=>decide (c.length = d.length) | none=>true)
abbrev T3:=(List Ae1) × (List Int) × Int × Int
def Zk (x:T3):Bool:=BK (x.1.length:Int) 2 8 && decide (x.2.1.length + 1 = x.1.length) && Wj x.1 && Wv x.2.1 && BK x.2.2.1 0 80 && BK x.2.2.2 1 24
theorem Kb {b:Ai}:Hq b = true ↔ 48 ≤ b.toNat ∧ b.toNat ≤ 57:=by
 unfold Hq
 simp
theorem UN {b:Ai} (h:Hq b = true):Ag (Mv ((b.toNat:Int) - 48)) = (b.toNat:Int) - 48:=by
 have:=Kb.1 h
 have e:Mv ((b.toNat:Int) - 48) = (b.toNat:Int) - 48:=by
  unfold Mv
  show ((b.toNat:Int) - 48) % 256 = _
  omega
 rw [e,A8 (by omega) (by omega)]
def Ma (l:List Ai):Int × Bool:=if l = [] ∨ 9 < l.length ∨ (1 < l.length ∧ l[0]? = some 48) then (0,false) else if l.all Hq then (OP l,true) else (0,false)
theorem WD (l:List Ai) (n:Int) (i:Nat) (g:0 ≤ n) (h:n < 10 ^ i) (m:i + l.length ≤ 9):n ≤ 1000000000:=by
 have:(10:Nat) ^ i ≤ 10 ^ 9:=Nat.pow_le_pow_right (by omega) (by omega)
 have f:((10 ^ i:Nat):Int) ≤ ((10 ^ 9:Nat):Int):=Int.ofNat_le.2 this
 rw [Int.natCast_pow] at f
 have e:((10 ^ 9:Nat):Int) = 1000000000:=by decide
 rw [e] at f
 exact Int.le_of_lt (Int.lt_of_lt_of_le h f)
theorem Aad (l:List Ai) (h9:l.length ≤ 9):∀ (d i m:Nat) (n:Int),l.length - i = d → i ≤ l.length → d < m → 0 ≤ n → n < 10 ^ i →
  Fi l m n (i:Int) = some (if (l.drop i).all Hq then ((l.drop i).foldl (fun a b=>10 * a + ((b.toNat:Int) - 48)) n,true) else (0,false)):=by
 intro d
 induction d with
 | zero =>
  intro i m n hd hi h g h1
  have:i = l.length:=by omega
  subst this
  cases m with
  | zero=>omega
  | succ m =>
   rw [Fi,if_neg (by simp),List.drop_length]
   rfl
 | succ d s =>
  intro i m n hd hi h g h1
  cases m with
  | zero=>omega
  | succ m =>
   have f:i < l.length:=by omega
   have hb:=WD (l.drop i) n i g h1 (by simp; omega)
   rw [Fi,if_pos (by simp; omega)]
   unfold Bk
   dsimp only
   rw [Jo f,Aa,Aa]
   rw [List.drop_eq_getElem_cons f,List.all_cons,List.foldl_cons]
   by_cases e:Hq l[i] = true
   ·have u:=Kb.1 e
    rw [if_neg (by simp; omega),Aa,if_neg (by simp; omega),e,Bool.true_and,UN e,A8 (x:=10 * n) (by omega) (by omega),A8 (x:=10 * n + _) (by omega) (by omega),AE (by omega)]
    refine s (i + 1) m _ (by omega) (by omega) (by omega) (by omega) ?_
    rw [Int.pow_succ]
    omega
   ·have u:¬ (48 ≤ l[i].toNat ∧ l[i].toNat ≤ 57):=fun x=>e (Kb.2 x)
    have v:Hq l[i] = false:=by simpa using e
    rw [v,Bool.false_and,if_neg (c:=false = true) (by simp)]
    by_cases ac:l[i].toNat < 48
    ·rw [if_pos (by simp; omega),if_pos rfl]
    ·rw [if_neg (by simp; omega),Aa,if_pos (by simp; omega)]
theorem W9 (l:List Ai) (h:l.length < 4611686018427387904):JO l = some (Ma l):=by
 unfold JO Ma Bk
 dsimp only
 by_cases f:l = []
 ·rw [if_pos (by simp [f]),if_pos rfl,if_pos (Or.inl f)]
 ·rw [if_neg (by simpa using f)]
  by_cases u:9 < l.length
  ·rw [if_pos (by simp; omega),if_pos rfl,if_pos (Or.inr (Or.inl u))]
  ·rw [if_neg (by simp; omega)]
   have v:0 < l.length:=List.length_pos_iff.2 f
   have m:=Aad l (by omega) l.length 0 FU 0 rfl (by omega) (DH (by omega)) (by omega) (by simp)
   rw [show ((0:Nat):Int) = 0 by rfl] at m
   by_cases h1:1 < l.length
   ·rw [if_pos (by simp; omega),Sw,Cp v,Aa]
    by_cases s:l[0] = 48
    ·rw [s,if_pos (by decide),if_pos (Or.inr (Or.inr ⟨h1,rfl⟩))]
    ·have:((l[0].toNat:Int) == 48) = false:=by
      rw [beq_eq_false_iff_ne]
      exact MR (c:=48) s
     have g:¬ (l = [] ∨ 9 < l.length ∨ (1 < l.length ∧ some l[0] = some 48)):=by
      rintro (e | e | ⟨_,e⟩)
      ·exact f e
      ·exact u e
      ·exact s (Option.some.inj e)
     rw [this,if_neg (by simp),m,if_neg g]
     rfl
   ·have g:¬ (l = [] ∨ 9 < l.length ∨ (1 < l.length ∧ l[0]? = some 48)):=by
     rintro (e | e | ⟨e,_⟩)
     ·exact f e
     ·exact u e
     ·exact h1 e
    rw [if_neg (by simp; omega),if_neg (by simp),m,if_neg g]
    rfl
theorem D9 {a e f:Int}:BK a e f = true ↔ e ≤ a ∧ a ≤ f:=by simp [BK]
theorem FL {s:Int × Int}:CX s = true ↔ (0 ≤ s.1 ∧ s.1 ≤ 1280) ∧ 0 ≤ s.2 ∧ s.2 ≤ 672:=by
 unfold CX
 rw [Cg,D9,D9]
theorem O0 {α:Type} {l m:List α} (h:l.length + m.length ≤ 1073741824):Ck l m = some (l ++ m):=by
 unfold Ck
 rw [if_pos h]
def MP (n:Int):List Ai:=Lib.decDigits (n.toNat / 8) ++ if 0 < n.toNat % 8 then 43 :: Lib.decDigits (n.toNat % 8) else []
def PF (s:Int × Int):List Ai:=MP s.1 ++ 44 :: MP s.2
theorem Hu {k u:Nat} (h:u < 10 ^ (k + 1)):(Lib.decDigits u).length ≤ k + 1:=(Vi k u h).2.2.2.1
theorem L9 {n:Int} (h:0 ≤ n) (e:n ≤ 9223372036854775807):CY n = some (Lib.decDigits n.toNat):=by
 unfold CY Lib.itoa
 rw [if_pos (by omega),if_neg (by omega)]
theorem LJ {n:Int} (h:0 ≤ n ∧ n ≤ 1280):(MP n).length ≤ 5:=by
 unfold MP
 have h1:=Hu (k:=2) (u:=n.toNat / 8) (by omega)
 have e:=Hu (k:=0) (u:=n.toNat % 8) (by omega)
 rw [CM]
 split
 ·rw [List.length_cons]; omega
 ·simp; omega
theorem Ps {n:Int} (h:0 ≤ n ∧ n ≤ 1280):Hz n = some (MP n):=by
 have h1:=Hu (k:=2) (u:=n.toNat / 8) (by omega)
 have f:=Hu (k:=0) (u:=n.toNat % 8) (by omega)
 unfold Hz MP Bk
 dsimp only
 rw [Int.tdiv_eq_ediv_of_nonneg h.1,Int.tmod_eq_emod_of_nonneg h.1,A8 (by omega) (by omega),L9 (by omega) (by omega),Aa,show (n / 8).toNat = n.toNat / 8 by omega]
 by_cases e:0 < n.toNat % 8
 ·rw [if_pos (by simp; omega),L9 (by omega) (by omega),Aa,show (n % 8).toNat = n.toNat % 8 by omega,O0 (by simp; omega),Aa,O0 (by simp; omega),Aa,if_pos e]
  rfl
 ·rw [if_neg (by simp; omega),if_neg e,List.append_nil]
theorem Vv {s:Int × Int} (h:CX s = true):Jy s = some (PF s,true):=by
 unfold Jy
 rw [Lw,Aa,h,if_neg (by simp)]
 have f:=FL.1 h
 have e:=LJ (n:=s.1) (by omega)
 have g:=LJ (n:=s.2) (by omega)
 rw [Ps (by omega),Aa,O0 (by simp; omega),Aa,Ps (by omega),Aa,O0 (by simp; omega),Aa]
 unfold PF
 rw [List.append_assoc]
 rfl
theorem YH {s:Int × Int} (h:CX s = true):(PF s).length ≤ 11:=by
 have f:=FL.1 h
 have e:=LJ (n:=s.1) (by omega)
 have g:=LJ (n:=s.2) (by omega)
 unfold PF
 rw [CM,List.length_cons]
 omega
theorem PM {a e f:Int}:BK a e f = true ↔ e ≤ a ∧ a ≤ f:=by simp [BK]
structure ZE (x:T3):Prop where
 n0:2 ≤ x.1.length
 n1:x.1.length ≤ 8
 nc:x.2.1.length + 1 = x.1.length
 ch:∀ c ∈ x.1,Cu c = true
 cl:∀ c ∈ x.1,1 ≤ c.length ∧ c.length ≤ 12
 ce:∀ c ∈ x.1,∀ d,x.1[0]? = some d → c.length = d.length
 cn:∀ u ∈ x.2.1,1 ≤ u ∧ u ≤ 64
 le:0 ≤ x.2.2.1 ∧ x.2.2.1 ≤ 80
 st:1 ≤ x.2.2.2 ∧ x.2.2.2 ≤ 24
theorem Xv {c:List (Int × Int)} (h:Cu c = true):1 ≤ c.length ∧ c.length ≤ 12:=by
 unfold Cu at h
 rw [Cg,PM] at h
 omega
theorem Aey {x:T3} (h:Zk x = true):ZE x:=by
 unfold Zk Wj Wv at h
 simp only [Cg,PM,C7,List.all_eq_true] at h
 obtain ⟨⟨⟨⟨⟨h1,l⟩,f⟩,g⟩,s⟩,m⟩:=h
 refine ⟨by omega,by omega,l,fun c e=>(f c e).1,fun c e=>Xv (f c e).1,fun c e d u=>?_,g,s,m⟩
 have:=(f c e).2
 rw [u] at this
 simpa using this
theorem WZ {α:Type} {l m:List α} (h:l.length + m.length ≤ 1073741824):Ck l m = some (l ++ m):=by
 unfold Ck
 rw [if_pos h]
abbrev FX:=(Int × Int) × (Int × Int) × Int
def GJ (a b:Int × Int):Int:=Ag ((Ag ((Ag (a.1 - b.1)) * (Ag (a.1 - b.1)))) + (Ag ((Ag (a.2 - b.2)) * (Ag (a.2 - b.2)))))
theorem L3 (a b:Int × Int):GQ a b = some (GJ a b):=rfl
theorem Hj (a b:Int × Int):Ed a b = some (GJ a b):=rfl
def ST (m:FX):Int:=GJ m.1 m.2.1
theorem Mb {x y A B:Int} (h1:-A ≤ x) (f:x ≤ A) (g:-B ≤ y) (l:y ≤ B):-(A * B) ≤ x * y ∧ x * y ≤ A * B:=by
 have h:(x * y).natAbs ≤ A.toNat * B.toNat:=by rw [Int.natAbs_mul]; exact Nat.mul_le_mul (by omega) (by omega)
 have e:((A.toNat * B.toNat:Nat):Int) = A * B:=by
  rw [Int.natCast_mul,Int.toNat_of_nonneg (by omega),Int.toNat_of_nonneg (by omega)]
 omega
def Il (a b:Int):Int × Int:=(Ag (Int.tdiv a (Nat.gcd a.toNat b.toNat:Int)),Ag (Int.tdiv b (Nat.gcd a.toNat b.toNat:Int)))
theorem Aaj:∀ (y x m:Nat),y < m → GT m (x:Int) (y:Int) = some ((Nat.gcd x y:Nat):Int):=by
 intro y
 induction y using Nat.strongRecOn with
 | _ y ih =>
  intro x m g
  cases m with
  | zero=>omega
  | succ m =>
   rw [GT]
   by_cases h:y = 0
   ·subst h
    simp
   ·have e:((y:Int) != 0) = true:=by simp; omega
    have f:¬ (y:Int) = 0:=by omega
    rw [if_pos e,if_neg f,← Int.ofNat_tmod,ih (x % y) (Nat.mod_lt _ (by omega)) y m (by have:=Nat.mod_lt x (show 0 < y by omega); omega)]
    congr 2
    rw [Nat.gcd_comm x y,Nat.gcd_rec y x]
    exact Nat.gcd_comm _ _
theorem Zg (a b:Int):∀ (y x m:Nat),y < m → 0 < Nat.gcd x y → Gw a b m (x:Int) (y:Int) = some (Ag (Int.tdiv a (Nat.gcd x y:Int)),Ag (Int.tdiv b (Nat.gcd x y:Int))):=by
 intro y
 induction y using Nat.strongRecOn with
 | _ y ih =>
  intro x m u f
  cases m with
  | zero=>omega
  | succ m =>
   rw [Gw]
   by_cases h:y = 0
   ·subst h
    have s:¬ x = 0:=by simp at f; omega
    simp [s]
   ·have g:decide (0 < (y:Int)) = true:=by simp; omega
    have l:¬ (y:Int) = 0:=by omega
    have e:Nat.gcd x y = Nat.gcd y (x % y):=by rw [Nat.gcd_comm x y,Nat.gcd_rec y x]; exact Nat.gcd_comm _ _
    rw [if_pos g,if_neg l,← Int.ofNat_tmod,ih (x % y) (Nat.mod_lt _ (by omega)) y m (by have:=Nat.mod_lt x (show 0 < y by omega); omega) (by rw [← e]; exact f),e]
theorem LA (a b:Int) (m:0 ≤ a) (u:a ≤ 4000000000000000000) (s:0 < b) (l:b ≤ 1000000000000000):FG a b = some (Il a b):=by
 unfold FG Mq Il
 have f:Fx a (Ag (0 - a)) = ((a.toNat:Nat):Int):=by unfold Fx; rw [A8 (by omega) (by omega)]; split <;> omega
 have g:Fx b (Ag (0 - b)) = ((b.toNat:Nat):Int):=by unfold Fx; rw [A8 (by omega) (by omega)]; split <;> omega
 rw [f,g,Aaj b.toNat a.toNat FU (DH (by omega)),Aa]
 have h:0 < Nat.gcd a.toNat b.toNat:=Nat.gcd_pos_of_pos_right _ (by omega)
 have e:¬ ((Nat.gcd a.toNat b.toNat:Nat):Int) = 0:=by omega
 rw [if_neg e,if_neg e]
theorem RS (a b:Int) (m:0 ≤ a) (u:a ≤ 4000000000000000000) (s:0 < b) (l:b ≤ 1000000000000000):Ja a b = some (Il a b):=by
 unfold Ja Mo Hk Il
 have f:(if decide (Ag (0 - a) < a) = true then some a else some (Ag (0 - a))) = some ((a.toNat:Nat):Int):=by
  rw [A8 (by omega) (by omega)]
  by_cases h:0 - a < a
  ·rw [if_pos (by simp; omega)]; congr 1; omega
  ·rw [if_neg (by simp; omega)]; congr 1; omega
 have g:b = ((b.toNat:Nat):Int):=by omega
 rw [f,Aa,Aa]
 have e:0 < Nat.gcd a.toNat b.toNat:=Nat.gcd_pos_of_pos_right _ (by omega)
 have:=Zg a b b.toNat a.toNat FU (DH (by omega)) e
 rw [← g] at this
 exact this
def Yl (px py qx qy:Int):Int × Int :=
 if 0 ≤ px * (qx - px) + py * (qy - py) then (px * px + py * py,1)
 else if (qx - px) * (qx - px) + (qy - py) * (qy - py) ≤ 0 - (px * (qx - px) + py * (qy - py)) then (qx * qx + qy * qy,1)
 else Il ((px * qy - py * qx) * (px * qy - py * qx)) ((qx - px) * (qx - px) + (qy - py) * (qy - py))
def TT (a b:FX):Int × Int:=Yl (a.1.1 - b.1.1) (a.1.2 - b.1.2) (a.2.1.1 - b.2.1.1) (a.2.1.2 - b.2.1.2)
structure InB (px py qx qy:Int):Prop where
 a1:-1280 ≤ px
 a2:px ≤ 1280
 b1:-672 ≤ py
 b2:py ≤ 672
 c1:-1280 ≤ qx
 c2:qx ≤ 1280
 d1:-672 ≤ qy
 d2:qy ≤ 672
theorem Mx {x A:Int} (h1:-A ≤ x) (e:x ≤ A):0 ≤ x * x ∧ x * x ≤ A * A:=by
 have:=Mb h1 e h1 e
 refine ⟨?_,this.2⟩
 have:(0:Int) ≤ ((x.natAbs * x.natAbs:Nat):Int):=Int.natCast_nonneg _
 rwa [Int.natAbs_mul_self] at this
structure Ad7 (px py qx qy:Int):Prop where
 m1:-3276800 ≤ px * (qx - px) ∧ px * (qx - px) ≤ 3276800
 m2:-903168 ≤ py * (qy - py) ∧ py * (qy - py) ≤ 903168
 m3:0 ≤ (qx - px) * (qx - px) ∧ (qx - px) * (qx - px) ≤ 6553600
 m4:0 ≤ (qy - py) * (qy - py) ∧ (qy - py) * (qy - py) ≤ 1806336
 m5:0 ≤ px * px ∧ px * px ≤ 1638400
 m6:0 ≤ py * py ∧ py * py ≤ 451584
 m7:0 ≤ qx * qx ∧ qx * qx ≤ 1638400
 m8:0 ≤ qy * qy ∧ qy * qy ≤ 451584
 m9:-860160 ≤ px * qy ∧ px * qy ≤ 860160
 m10:-860160 ≤ py * qx ∧ py * qx ≤ 860160
 m11:0 ≤ (px * qy - py * qx) * (px * qy - py * qx) ∧ (px * qy - py * qx) * (px * qy - py * qx) ≤ 2959500902400
theorem Abc {f u v m:Int} (h:InB f u v m):Ad7 f u v m:=by
 obtain ⟨e,g,s,l,c1,c2,d1,d2⟩:=h
 have m9:=Mb e g d1 d2
 have ae:=Mb s l c1 c2
 have ah:=Mx (x:=f * m - u * v) (A:=1720320) (by omega) (by omega)
 exact ⟨Mb (A:=1280) (B:=2560) e g (by omega) (by omega),Mb (A:=672) (B:=1344) s l (by omega) (by omega),Mx (A:=2560) (by omega) (by omega),Mx (A:=1344) (by omega) (by omega),Mx e g,Mx s l,Mx c1 c2,Mx d1 d2,by omega,by omega,by omega⟩
theorem inB {a b:FX} (f:CX a.1 = true) (g:CX a.2.1 = true) (e:CX b.1 = true) (h:CX b.2.1 = true):InB (a.1.1 - b.1.1) (a.1.2 - b.1.2) (a.2.1.1 - b.2.1.1) (a.2.1.2 - b.2.1.2):=by
 unfold CX at f g e h
 rw [Cg,PM,PM] at f g e h
 refine ⟨by omega,by omega,by omega,by omega,by omega,by omega,by omega,by omega⟩
theorem Ts (a b:FX) (g:CX a.1 = true) (s:CX a.2.1 = true) (v:CX b.1 = true) (l:CX b.2.1 = true):Ie a b = some (TT a b):=by
 have f:=inB g s v l
 unfold Ie Lj Ed TT
 generalize a.1.1 - b.1.1 = px at *
 generalize a.1.2 - b.1.2 = py at *
 generalize a.2.1.1 - b.2.1.1 = qx at *
 generalize a.2.1.2 - b.2.1.2 = qy at *
 obtain ⟨m1,m2,m3,m4,m5,m6,m7,m8,m9,ag,am⟩:=Abc f
 obtain ⟨u,h,m,b2,c1,c2,d1,d2⟩:=f
 have k:(px * (qy - py) - py * (qx - px)) = px * qy - py * qx:=by
  rw [Int.mul_sub,Int.mul_sub,Int.mul_comm px py]; omega
 have an:=Mb (x:=px) (y:=qy - py) (A:=1280) (B:=1344) u h (by omega) (by omega)
 have ai:=Mb (x:=py) (y:=qx - px) (A:=672) (B:=2560) m b2 (by omega) (by omega)
 simp only [Aa,A8 (x:=px) (by omega) (by omega),A8 (x:=py) (by omega) (by omega),A8 (x:=qx) (by omega) (by omega),A8 (x:=qy) (by omega) (by omega),
  A8 (x:=qx - px) (by omega) (by omega),A8 (x:=qy - py) (by omega) (by omega),A8 (x:=px * (qx - px)) (by omega) (by omega),A8 (x:=py * (qy - py)) (by omega) (by omega),
  A8 (x:=px * (qx - px) + py * (qy - py)) (by omega) (by omega),A8 (x:=0 - (px * (qx - px) + py * (qy - py))) (by omega) (by omega),
  A8 (x:=(qx - px) * (qx - px)) (by omega) (by omega),A8 (x:=(qy - py) * (qy - py)) (by omega) (by omega),A8 (x:=(qx - px) * (qx - px) + (qy - py) * (qy - py)) (by omega) (by omega),
  A8 (x:=px * px) (by omega) (by omega),A8 (x:=py * py) (by omega) (by omega),A8 (x:=px * px + py * py) (by omega) (by omega),
  A8 (x:=qx * qx) (by omega) (by omega),A8 (x:=qy * qy) (by omega) (by omega),A8 (x:=qx * qx + qy * qy) (by omega) (by omega),
  A8 (x:=px * (qy - py)) (by omega) (by omega),A8 (x:=py * (qx - px)) (by omega) (by omega),k,A8 (x:=px * qy - py * qx) (by omega) (by omega),A8 (x:=(px * qy - py * qx) * (px * qy - py * qx)) (by omega) (by omega)]
 unfold Yl
 by_cases h1:0 ≤ px * (qx - px) + py * (qy - py)
 ·rw [if_pos (by simpa using h1),if_pos h1]
 ·rw [if_neg (by simpa using h1),if_neg h1]
  by_cases e:(qx - px) * (qx - px) + (qy - py) * (qy - py) ≤ 0 - (px * (qx - px) + py * (qy - py))
  ·rw [if_pos (by simpa using e),if_pos e]
  ·rw [if_neg (by simpa using e),if_neg e,LA _ _ (by omega) (by omega) (by omega) (by omega)]
   rfl
theorem We (a b:FX) (l:CX a.1 = true) (s:CX a.2.1 = true) (u:CX b.1 = true) (m:CX b.2.1 = true):JL a b = some (TT a b):=by
 have g:=inB l s u m
 unfold JL Li Kp TT Bk
 generalize a.1.1 - b.1.1 = px at *
 generalize a.1.2 - b.1.2 = py at *
 generalize a.2.1.1 - b.2.1.1 = qx at *
 generalize a.2.1.2 - b.2.1.2 = qy at *
 obtain ⟨m1,m2,m3,m4,m5,m6,v,m8,m9,ae,an⟩:=Abc g
 obtain ⟨a1,a2,b1,b2,c1,c2,d1,d2⟩:=g
 simp only [Aa,A8 (x:=px) (by omega) (by omega),A8 (x:=py) (by omega) (by omega),A8 (x:=qx) (by omega) (by omega),A8 (x:=qy) (by omega) (by omega),
  A8 (x:=qx - px) (by omega) (by omega),A8 (x:=qy - py) (by omega) (by omega),A8 (x:=px * (qx - px)) (by omega) (by omega),A8 (x:=py * (qy - py)) (by omega) (by omega),
  A8 (x:=px * (qx - px) + py * (qy - py)) (by omega) (by omega),A8 (x:=0 - (px * (qx - px) + py * (qy - py))) (by omega) (by omega),
  A8 (x:=(qx - px) * (qx - px)) (by omega) (by omega),A8 (x:=(qy - py) * (qy - py)) (by omega) (by omega),A8 (x:=(qx - px) * (qx - px) + (qy - py) * (qy - py)) (by omega) (by omega),
  A8 (x:=px * px) (by omega) (by omega),A8 (x:=py * py) (by omega) (by omega),A8 (x:=px * px + py * py) (by omega) (by omega),
  A8 (x:=qx * qx) (by omega) (by omega),A8 (x:=qy * qy) (by omega) (by omega),A8 (x:=qx * qx + qy * qy) (by omega) (by omega),
  A8 (x:=px * qy) (by omega) (by omega),A8 (x:=py * qx) (by omega) (by omega),A8 (x:=px * qy - py * qx) (by omega) (by omega),A8 (x:=(px * qy - py * qx) * (px * qy - py * qx)) (by omega) (by omega)]
 have q1:qx * qx = px * px + 2 * (px * (qx - px)) + (qx - px) * (qx - px):=by
  have:qx * qx = (px + (qx - px)) * (px + (qx - px)):=by rw [show px + (qx - px) = qx by omega]
  rw [this,Int.add_mul,Int.mul_add,Int.mul_add,Int.mul_comm (qx - px) px]; omega
 have q2:qy * qy = py * py + 2 * (py * (qy - py)) + (qy - py) * (qy - py):=by
  have:qy * qy = (py + (qy - py)) * (py + (qy - py)):=by rw [show py + (qy - py) = qy by omega]
  rw [this,Int.add_mul,Int.mul_add,Int.mul_add,Int.mul_comm (qy - py) py]; omega
 unfold Yl EP
 generalize hd:px * (qx - px) + py * (qy - py) = dot at *
 generalize hz:(qx - px) * (qx - px) + (qy - py) * (qy - py) = size at *
 by_cases h1:0 ≤ dot
 ·have f:0 - dot ≤ 0:=by omega
  rw [if_pos h1]
  simp only [f,decide_true,if_true,Aa]
  rw [if_neg (by simp)]
  by_cases h:px * px + py * py < qx * qx + qy * qy
  ·rw [if_pos (by simpa using h)]; rfl
  ·rw [if_neg (by simpa using h),Aa]
   have:qx * qx + qy * qy = px * px + py * py:=by omega
   rw [this]
 ·have f:¬ 0 - dot ≤ 0:=by omega
  rw [if_neg h1]
  by_cases e:size ≤ 0 - dot
  ·rw [if_pos e]
   simp only [f,e,decide_true,decide_false,Bool.false_eq_true,if_false,if_true,Aa]
   rw [if_neg (by simp),if_neg (by simp; omega)]
   rfl
  ·rw [if_neg e]
   simp only [f,e,decide_true,decide_false,Bool.false_eq_true,if_false,if_true,Aa]
   rw [if_pos (by simp; omega),RS _ _ (by omega) (by omega) (by omega) (by omega)]
   rfl
theorem Aae {β R:Type} (f:Nat → List β → Int → Af R) (n B:Nat) (p:Nat → Bool) (g:Nat → β) (rest:List β → Af R) (hn:n < 4611686018427387904)
  (hs:∀ m s k,k < n → s.length < B → f (m + 1) s (k:Int) = f m (if p k then s ++ [g k] else s) ((k + 1:Nat):Int)) (he:∀ m s,f (m + 1) s (n:Int) = rest s) :
  ∀ (k:Nat) (s:List β),k ≤ n → s.length + (n - k) ≤ B → f FU s (k:Int) = rest (s ++ ((List.range' k (n - k)).filter p).map g):=by
 have aa:∀ d k m s,n - k = d → k ≤ n → n - k < m → s.length + (n - k) ≤ B → f m s (k:Int) = rest (s ++ ((List.range' k (n - k)).filter p).map g):=by
  intro d
  induction d with
  | zero =>
   intro k m s u h v e
   have:k = n:=by omega
   subst this
   cases m with
   | zero=>omega
   | succ m=>rw [he]; simp
  | succ d l =>
   intro k m s u h v e
   cases m with
   | zero=>omega
   | succ m =>
    rw [hs m s k (by omega) (by omega),u,List.range'_succ,List.filter_cons]
    cases hp:p k with
    | false =>
     simp only [Bool.false_eq_true,if_false]
     rw [l (k + 1) m s (by omega) (by omega) (by omega) (by omega),show n - (k + 1) = d by omega]
    | true =>
     simp only [if_true,List.map_cons]
     rw [l (k + 1) m (s ++ [g k]) (by omega) (by omega) (by omega) (by simp; omega),show n - (k + 1) = d by omega]
     simp
 exact fun k s h e=>aa _ k FU s rfl h (DH (by omega)) e
def Sk (u v:FX) (least:Int):Bool:=decide (Ag (Ag (least * least) * (TT u v).2) ≤ (TT u v).1)
def I5 (u:FX):Prop:=CX u.1 = true ∧ CX u.2.1 = true
theorem TX (u v:FX) (g:Int) (f:I5 u) (e:I5 v):IA u v g = some (Sk u v g):=by
 unfold IA Sk
 rw [Ts u v f.1 f.2 e.1 e.2]
 rfl
theorem Xs (u v:FX) (g:Int) (f:I5 u) (e:I5 v):Kn u v g = some (Sk u v g):=by
 unfold Kn Sk
 rw [We u v f.1 f.2 e.1 e.2]
 rfl
theorem LO {a e f:Int}:BK a e f = true ↔ e ≤ a ∧ a ≤ f:=by simp [BK]
abbrev G6:=List (Int × Int)
abbrev Adu:=Int × (List Ai)
def Gz (u:Int × Int):Bool:=BK u.1 1 12 && BK u.2 40 220
def Gc (x:G6):Bool:=BK (x.length:Int) 1 40 && x.all Gz
theorem TM (u:Int × Int):I8 u = some (Gz u):=by
 unfold I8 Bk Gz
 dsimp only
 rw [CU,Aa,CU,Aa]
 cases BK u.1 1 12 <;> simp
theorem RT (x:G6) (h:x.length < 4611686018427387904):Jb x = some (Gc x):=by
 unfold Jb Gc
 rw [O2 (FC x) x Gz (some (BK (x.length:Int) 1 40)) (some false) h (fun m k u f e=>?_) (fun m=>?_)]
 ·cases x.all Gz <;> simp
 ·rw [FC,if_pos (by simp; omega),AY,e,Aa,TM,Aa,AE (by omega)]
  cases Gz u <;> simp
 ·rw [FC,if_neg (by simp),CU]
  rfl
theorem QU (x:G6) (h:x.length < 4611686018427387904):I1 x = some (Gc x):=by
 unfold I1 Gc
 rw [O2 (Fk x) x Gz (some (BK (x.length:Int) 1 40)) (some false) h (fun m k u f e=>?_) (fun m=>?_)]
 ·cases x.all Gz <;> simp
 ·rw [Fk,if_pos (by simp; omega),AY,e,Aa]
  unfold Bk Gz
  dsimp only
  rw [CT,Aa,CT,Aa,AE (by omega)]
  cases BK u.1 1 12 <;> cases BK u.2 40 220 <;> simp
 ·rw [Fk,if_neg (by simp),CT]
  rfl
def Sj (x:G6):Int:=x.foldl (fun a u=>Ag (a + u.1)) 0
theorem Vr (x:G6) (h:x.length < 4611686018427387904):Js x = some (Sj x):=by
 unfold Js Sj
 rw [W4 (E8 x) x (fun a u=>Ag (a + u.1)) some h (fun m s k u f e=>?_) (fun m s=>?_)]
 ·rw [E8,if_pos (by simp; omega),AY,e,Aa,AE (by omega)]
 ·rw [E8,if_neg (by simp)]
theorem Vu (x:G6) (h:x.length < 4611686018427387904):Jx x = some (Sj x):=by
 unfold Jx Sj
 rw [W4 (EA x) x (fun a u=>Ag (a + u.1)) some h (fun m s k u f e=>?_) (fun m s=>?_)]
 ·rw [EA,if_pos (by simp; omega),AY,e,Aa,AE (by omega)]
 ·rw [EA,if_neg (by simp)]
theorem MU {x:G6} (h:Gc x = true):1 ≤ x.length ∧ x.length ≤ 40 ∧ x.all Gz = true:=by
 unfold Gc at h
 rw [Cg,LO] at h
 exact ⟨by omega,by omega,h.2⟩
structure CueLens (x:G6) (l:List Adu):Prop where
 hx:x.length < 4611686018427387904
 hl:l.length < 1073741824
 hn:∀ c ∈ l,c.2.length < 4611686018427387904
theorem CueLens.hl' {x:G6} {l:List Adu} (h:CueLens x l):l.length < 4611686018427387904:=by have:=h.hl; omega
theorem YE (x:G6):∀ (m:Nat) (a b c:Int),Gx x m a b c = Di x m a b c:=by
 intro m
 induction m with
 | zero=>intro a b c; rfl
 | succ m e =>
  intro a b c
  rw [Gx,Di]
  split
  ·cases AM x c with
   | none=>rfl
   | some u =>
    simp only [Aa,Hw,e]
    by_cases h:u.2 = 0 <;> simp [h]
  ·rfl
theorem TW (x:G6) (c:Int):Jh x c = FI x c:=by
 unfold Jh FI
 exact YE x FU c 0 0
theorem YD (x:G6) (hx:x.all Gz = true) (hl:x.length < 4611686018427387904) (c:Int):∃ t,FI x c = some t:=by
 unfold FI
 have s:∀ d k m (a b:Int),x.length - k = d → k ≤ x.length → x.length - k < m → ∃ t,Di x m a b (k:Int) = some t:=by
  intro d
  induction d with
  | zero =>
   intro k m a b u v g
   cases m with
   | zero=>omega
   | succ m =>
    rw [Di,if_neg (by simp; omega)]
    exact ⟨_,rfl⟩
  | succ d h =>
   intro k m a b u v g
   cases m with
   | zero=>omega
   | succ m =>
    have e:k < x.length:=by omega
    have f:=List.all_eq_true.1 hx x[k] (List.getElem_mem e)
    unfold Gz at f
    rw [Cg,LO,LO] at f
    have l:¬ x[k].2 = 0:=by omega
    rw [Di,if_pos (by simp; omega),Jo e,Aa]
    simp only [Hw,if_neg l,Aa,AE (k:=k) (by omega)]
    split
    ·exact ⟨_,rfl⟩
    ·exact h (k + 1) m _ _ (by omega) (by omega) (by omega)
 exact s _ 0 FU c 0 rfl (by omega) (DH (by omega))
def Rv (x:G6) (c:Int):Int:=(FI x c).getD 0
theorem OK (x:G6) (h:Gc x = true) (c:Int):FI x c = some (Rv x c):=by
 obtain ⟨h1,g,e⟩:=MU h
 obtain ⟨t,f⟩:=YD x e (by omega) c
 unfold Rv
 rw [f]
 rfl
theorem Xx (x:G6) (h:Gc x = true) (c:Int):Jh x c = some (Rv x c):=by
 rw [TW,OK x h]
def rd (x c:Int):Int:=Int.tdiv (2 * x + c) (2 * c)
theorem Abi (t:List Ai):(Ka t).length = t.length:=by unfold Ka; rw [List.length_map]
theorem Ach {t u:List Ai} (h:t.length + u.length ≤ 1073741824):XT (Ka t) u = some (Ka (t ++ u)):=by
 unfold XT
 rw [Abi,if_pos (by omega)]
 unfold Ka
 rw [List.map_append]
theorem Abj (t:List Ai):Ut (Ka t) = some t:=by
 unfold Ut Ka
 rw [if_pos]
 ·rw [List.map_map]
  congr 1
  conv=>rhs; rw [← List.map_id t]
  apply List.map_congr_left
  intro b _
  show UInt8.ofNat (b.toNat:Int).toNat = b
  rw [Int.toNat_natCast]
  exact UInt8.ofNat_toNat
 ·rw [List.all_eq_true]
  intro x e
  obtain ⟨b,_,rfl⟩:=List.mem_map.1 e
  have:=UInt8.toNat_lt b
  simp
  omega
def H7 (L:List (List Ai)):List Ai:=(L.map (· ++ [10])).flatten
theorem Yq (a:List Ai) (L:List (List Ai)):H7 (a :: L) = a ++ 10 :: H7 L:=by
 unfold H7
 rw [List.map_cons,List.flatten_cons,List.append_assoc]
 rfl
theorem QQ (L M:List (List Ai)):H7 (L ++ M) = H7 L ++ H7 M:=by
 unfold H7
 rw [List.map_append,List.flatten_append]
theorem QP (B:Nat):∀ (L:List (List Ai)),(∀ a ∈ L,a.length ≤ B) → (H7 L).length ≤ (B + 1) * L.length
 | [],_=>by simp [H7]
 | a :: L,h=>by
  have g:=QP B L fun b e=>h b (List.mem_cons_of_mem _ e)
  have f:=h a (by simp)
  rw [Yq,CM,List.length_cons,List.length_cons,Nat.mul_add]
  omega
theorem Ac4 {α:Type} (l:List α) {j k:Nat} (h:j ≤ k) (e:k ≤ l.length):sl l (j:Int) (k:Int) = some ((l.take k).drop j):=by
 unfold sl
 rw [if_pos (by omega)]
 simp
theorem Ad3 {α:Type} {l:List α} {k:Nat} (h:k < l.length) {e:Nat} (f:e ≤ k):l.drop e = (l.take k).drop e ++ l[k] :: l.drop (k + 1):=by
 conv=>lhs; rw [← List.take_append_drop k l]
 rw [List.drop_append_of_le_length (by simp; omega),List.drop_eq_getElem_cons h]
theorem SV (l:List Ai) (c:Ai) (hl:l.length ≤ 4194304):FM l (c.toNat:Int) = some (CZ c l):=by
 unfold FM
 have ai:∀ (d k m f:Nat) (s:List (List Ai)),l.length - k = d → k ≤ l.length → d < m → f ≤ k → c ∉ (l.take k).drop f → s ++ CZ c (l.drop f) = CZ c l →
   EZ l (c.toNat:Int) m s (f:Int) (k:Int) = some (CZ c l):=by
  have hn:(CZ c l).length ≤ l.length + 1:=by
   have:=List.count_le_length (a:=c) (l:=l)
   rw [Jj]; omega
  intro d
  induction d with
  | zero =>
   intro k m f s hd hk hm v u g
   have:k = l.length:=by omega
   subst this
   have ag:s.length ≤ l.length + 1:=by rw [← g,CM] at hn; omega
   rw [List.take_length] at u
   cases m with
   | zero=>omega
   | succ m=>rw [EZ,if_neg (by simp),Ta _ v,Aa,Br (by simp; omega),Aa,← g,OG u]
  | succ d ih =>
   intro k m f s hd hk hm v u g
   have aa:k < l.length:=by omega
   have ag:s.length ≤ l.length + 1:=by rw [← g,CM] at hn; omega
   have ac:=Ad3 aa v
   cases m with
   | zero=>omega
   | succ m =>
    rw [EZ,if_pos (by simp; omega)]
    unfold Gk
    dsimp only
    rw [Jo aa,Aa]
    by_cases h:l[k] = c
    ·rw [h,if_pos (by simp),Ac4 _ v hk,Aa,Br (by simp; omega),Aa,AE (by omega)]
     refine ih (k + 1) m (k + 1) _ (by omega) (by omega) (by omega) (by omega) ?_ ?_
     ·rw [List.drop_eq_nil_of_le (by simp; omega)]; simp
     ·rw [h] at ac
      rw [← g,ac,OH u,List.append_assoc]
      rfl
    ·rw [if_neg (by simpa using MR h),AE (by omega)]
     refine ih (k + 1) m f s (by omega) (by omega) (by omega) (by omega) ?_ g
     rw [List.take_succ_eq_append_getElem aa,List.drop_append_of_le_length (by simp; omega),AX,not_or]
     exact ⟨u,by simpa using fun e=>h e.symm⟩
 exact ai l.length 0 FU 0 [] rfl (by omega) (DH (by omega)) (by omega) (by simp) (by simp)
def D5 (l:List Ai):List (List Ai):=if l = [] then [] else CZ 10 (l.take (l.length - 1))
theorem SU (c:Ai):∀ A:List Ai,CZ c (A ++ [c]) = CZ c A ++ [[]]
 | []=>by simp [CZ]
 | b :: A=>by
  rw [List.cons_append,CZ,CZ,SU c A]
  by_cases h:b = c
  ·rw [if_pos h,if_pos h]; rfl
  ·rw [if_neg h,if_neg h]
   cases e:CZ c A with
   | nil=>have:=Jj c A; rw [e] at this; simp at this
   | cons a t=>rfl
theorem RZ {l:List Ai} (h:l = [] ∨ l.getLast? = some 10):CZ 10 l = D5 l ++ [[]]:=by
 unfold D5
 by_cases e:l = []
 ·rw [if_pos e,e]; rfl
 ·rw [if_neg e]
  obtain ⟨b,_,f,m⟩:=TU e
  have g:b = 10:=by
   rcases h with h | h
   ·exact absurd h e
   ·rw [f] at h; exact Option.some.inj h
  subst g
  conv=>lhs; rw [m]
  exact SU 10 _
theorem PP {l:List Ai} (h:l = [] ∨ l.getLast? = some 10):(D5 l).length = PQ l:=by
 have h1:=congrArg List.length (RZ h)
 rw [Jj,CM] at h1
 unfold PQ
 simpa using h1.symm
theorem Yn {l a:List Ai} (h:a ∈ D5 l):a.length ≤ l.length:=by
 have s:∀ (m:List Ai),∀ b ∈ CZ 10 m,b.length ≤ m.length:=by
  intro m
  induction m with
  | nil=>intro b e; simp [CZ] at e; simp [e]
  | cons x m f =>
   intro b e
   rw [CZ] at e
   split at e
   ·rcases List.mem_cons.1 e with rfl | e
    ·simp
    ·have:=f b e; simp; omega
   ·cases g:CZ 10 m with
    | nil=>have:=Jj 10 m; rw [g] at this; simp at this
    | cons a t =>
     rw [g] at e f
     rcases List.mem_cons.1 e with rfl | e
     ·have:=f a (List.mem_cons_self ..); simp; omega
     ·have:=f b (List.mem_cons_of_mem _ e); simp; omega
 unfold D5 at h
 split at h
 ·cases h
 ·have:=s _ a h
  simp at this
  omega
def N6 (l:List Ai):List (List Ai) × Bool:=if Ht l = true then (D5 l,true) else ([],false)
theorem GN {l:List Ai}:Ht l = true ↔ l.length ≤ 2000 ∧ (l = [] ∨ l.getLast? = some 10) ∧ PQ l ≤ 40:=by
 unfold Ht
 simp [and_assoc]
theorem Yw (l:List Ai) (hl:l.length ≤ 4194304):JH l = some (N6 l):=by
 unfold JH Bk N6
 dsimp only
 by_cases h1:l.length ≤ 2000
 ·rw [if_neg (by simp; omega)]
  have m (e:l = [] ∨ l.getLast? = some 10):(Option.bind (FM l 10) fun u=>Option.bind (sl u 0 (Ag ((List.length u:Int) - 1))) fun s=>(if (decide (40 < (List.length s:Int))) = true then some (([]:List (List Ai)),false) else some (s,true))) = some (if Ht l = true then (D5 l,true) else ([],false)):=by
   have hs:FM l 10 = some (CZ 10 l):=SV l 10 hl
   have hc:PQ l ≤ l.length:=List.count_le_length
   have hL:=PP e
   rw [hs,Aa,RZ e,CM,List.length_singleton,A8 (by omega) (by omega),show (((D5 l).length + 1:Nat):Int) - 1 = ((D5 l).length:Int) by omega,Tp _ (by simp),Aa,List.take_left']
   ·by_cases v:PQ l ≤ 40
    ·rw [if_neg (by simp; omega),if_pos (GN.2 ⟨h1,e,v⟩)]
    ·rw [if_pos (by simp; omega),if_neg (fun h=>v (GN.1 h).2.2)]
   ·rfl
  by_cases e:l = []
  ·rw [if_neg (by simp [e]),if_neg (by simp)]
   exact m (.inl e)
  ·obtain ⟨b,hb,g,_⟩:=TU e
   rw [if_pos (by simp [e]),A8 (by omega) (by omega),hb,Aa]
   by_cases f:b = 10
   ·subst f
    rw [if_neg (by decide)]
    exact m (.inr g)
   ·have aa:((b.toNat:Nat):Int) ≠ 10:=MR (c:=10) f
    rw [if_pos (by simpa using aa),if_neg (fun h=>?_)]
    rcases (GN.1 h).2.1 with h | h
    ·exact e h
    ·rw [g] at h; exact f (Option.some.inj h)
 ·rw [if_pos (by simp; omega),if_pos rfl,if_neg (fun h=>h1 (GN.1 h).1)]
theorem Ym (l:List Ai) (hl:l.length ≤ 4194304):JP l = some (if l = [] ∨ l.getLast? = some 10 then (D5 l,true) else ([],false)):=by
 unfold JP D5
 by_cases e:l = []
 ·rw [if_pos (by simp [e]),if_pos (.inl e),if_pos e]
 ·obtain ⟨b,s,g,hd⟩:=TU e
  have v:0 < l.length:=List.length_pos_iff.2 e
  rw [if_neg (by simpa using e),A8 (by omega) (by omega),s,Aa,if_neg e]
  by_cases f:b = 10
  ·subst f
   have u:FY (l.take (l.length - 1)) [10] = some (CZ 10 (l.take (l.length - 1))):=XA _ 10 (by simp; omega)
   rw [if_neg (by decide),show (l.length:Int) - 1 = ((l.length - 1:Nat):Int) by omega,Tp _ (by omega),Aa,u,Aa,if_pos (.inr g)]
  ·have m:((b.toNat:Nat):Int) ≠ 10:=MR (c:=10) f
   rw [if_pos (by simpa using m),if_neg]
   rintro (h | h)
   ·exact e h
   ·rw [g] at h; exact f (Option.some.inj h)
theorem TQ (l:List Ai) (g:l.length ≤ 4194304):HE l = some (N6 l):=by
 unfold HE Bk N6
 rw [Ym l g,Aa]
 by_cases e:l = [] ∨ l.getLast? = some 10
 ·rw [if_pos e]
  dsimp only
  rw [if_neg (by simp)]
  have m:=PP e
  by_cases h1:l.length ≤ 2000
  ·rw [if_neg (by simp; omega)]
   by_cases f:PQ l ≤ 40
   ·rw [if_neg (by simp; omega),if_pos (GN.2 ⟨h1,e,f⟩)]
   ·rw [if_pos (by simp; omega),if_neg (fun h=>f (GN.1 h).2.2)]
  ·rw [if_pos (by simp; omega),if_pos rfl,if_neg (fun h=>h1 (GN.1 h).1)]
 ·rw [if_neg e]
  dsimp only
  rw [if_pos (by simp),if_pos rfl,if_neg (fun h=>e (GN.1 h).2.1)]
def Lc (l:List Ai):Int:=if l = [] ∨ 6 < l.length ∨ (1 < l.length ∧ l[0]? = some 48) then -1 else if l.all Hq then OP l else -1
theorem YW (l:List Ai) (h9:l.length ≤ 6):∀ (d i m:Nat) (n:Int),l.length - i = d → i ≤ l.length → d < m → 0 ≤ n → n < 10 ^ i →
  FD l m n (i:Int) = some (if (l.drop i).all Hq then (l.drop i).foldl (fun a b=>10 * a + ((b.toNat:Int) - 48)) n else -1):=by
 intro d
 induction d with
 | zero =>
  intro i m n hd hi h g h1
  have:i = l.length:=by omega
  subst this
  cases m with
  | zero=>omega
  | succ m =>
   rw [FD,if_neg (by simp),List.drop_length]
   rfl
 | succ d s =>
  intro i m n hd hi h g h1
  cases m with
  | zero=>omega
  | succ m =>
   have f:i < l.length:=by omega
   have hb:=WD (l.drop i) n i g h1 (by simp; omega)
   rw [FD,if_pos (by simp; omega)]
   unfold Bk
   dsimp only
   rw [Jo f,Aa,Aa]
   rw [List.drop_eq_getElem_cons f,List.all_cons,List.foldl_cons]
   by_cases e:Hq l[i] = true
   ·have u:=Kb.1 e
    rw [if_neg (by simp; omega),Aa,if_neg (by simp; omega),e,Bool.true_and,UN e,A8 (x:=10 * n) (by omega) (by omega),A8 (x:=10 * n + _) (by omega) (by omega),AE (by omega)]
    refine s (i + 1) m _ (by omega) (by omega) (by omega) (by omega) ?_
    rw [Int.pow_succ]
    omega
   ·have u:¬ (48 ≤ l[i].toNat ∧ l[i].toNat ≤ 57):=fun x=>e (Kb.2 x)
    have v:Hq l[i] = false:=by simpa using e
    rw [v,Bool.false_and,if_neg (c:=false = true) (by simp)]
    by_cases ac:l[i].toNat < 48
    ·rw [if_pos (by simp; omega),if_pos rfl]
    ·rw [if_neg (by simp; omega),Aa,if_pos (by simp; omega)]
theorem Zs (l:List Ai) (h:l.length < 4611686018427387904):Kl l = some (Lc l):=by
 unfold Kl Lc Bk
 dsimp only
 rw [CU,Aa]
 by_cases f:l = []
 ·rw [if_pos (by simp [f,BK]),if_pos rfl,if_pos (Or.inl f)]
 ·have v:0 < l.length:=List.length_pos_iff.2 f
  by_cases s:6 < l.length
  ·have e:BK (l.length:Int) 1 6 = false:=by rw [← Bool.not_eq_true,D9]; omega
   rw [e,if_pos (c:=(!false) = true) rfl,if_pos rfl,if_pos (Or.inr (Or.inl s))]
  ·have e:BK (l.length:Int) 1 6 = true:=by rw [D9]; omega
   rw [e,if_neg (by simp),Sw,Cp v,Aa]
   have u:=YW l (by omega) l.length 0 FU 0 rfl (by omega) (DH (by omega)) (by omega) (by simp)
   rw [show ((0:Nat):Int) = 0 by rfl] at u
   by_cases m:l[0] = 48
   ·rw [m,if_pos (by decide)]
    by_cases h1:1 < l.length
    ·rw [if_pos (by simp; omega),if_pos (Or.inr (Or.inr ⟨h1,rfl⟩))]
    ·have g:¬ (l = [] ∨ 6 < l.length ∨ (1 < l.length ∧ some (48:Ai) = some 48)):=by
      rintro (e | e | ⟨e,_⟩)
      ·exact f e
      ·exact s e
      ·exact h1 e
     rw [if_neg (by simp; omega),u,if_neg g]
     rfl
   ·have:((l[0].toNat:Int) == 48) = false:=by
     rw [beq_eq_false_iff_ne]
     exact MR (c:=48) m
    have g:¬ (l = [] ∨ 6 < l.length ∨ (1 < l.length ∧ some l[0] = some 48)):=by
     rintro (e | e | ⟨_,e⟩)
     ·exact f e
     ·exact s e
     ·exact m (Option.some.inj e)
    rw [this,if_neg (by simp),if_neg (by simp),u,if_neg g]
    rfl
theorem XH:∀ (l:List Ai) (a:Int),(∀ b ∈ l,Hq b = true) → 0 ≤ a → a * (10:Int) ^ l.length ≤ l.foldl (fun a b=>10 * a + ((b.toNat:Int) - 48)) a
 | [],a,_,_=>by simp
 | b :: l,a,h,h0=>by
  have g:=Kb.1 (h b (List.mem_cons_self ..))
  have e:=XH l (10 * a + ((b.toNat:Int) - 48)) (fun x f=>h x (List.mem_cons_of_mem _ f)) (by omega)
  rw [List.foldl_cons,List.length_cons]
  refine Int.le_trans ?_ e
  rw [Int.pow_succ,Int.mul_comm ((10:Int) ^ l.length) 10,← Int.mul_assoc,Int.mul_comm a 10]
  exact Int.mul_le_mul_of_nonneg_right (by omega) (Int.pow_nonneg (by omega))
def Pm (l:List Ai):Af Int:=if BK (Lc l) 0 99999 = true then some (Lc l) else none
theorem Xw {l:List Ai} (h:BK (Lc l) 0 99999 = true):Ma l = (Lc l,true) ∧ Lc l ≤ 99999:=by
 have f:=D9.1 h
 refine ⟨?_,f.2⟩
 unfold Ma
 unfold Lc at f ⊢
 split at f
 ·omega
 ·rename_i e
  rw [not_or,not_or] at e
  split at f
  ·rename_i g
   rw [if_neg (by rw [not_or,not_or]; exact ⟨e.1,by omega,e.2.2⟩),if_pos g,if_neg (by rw [not_or,not_or]; exact e),if_pos g]
  ·omega
theorem Ww {l:List Ai} (h:BK (Lc l) 0 99999 = false):(Ma l).2 = false ∨ 99999 < (Ma l).1:=by
 unfold Ma
 split
 ·exact .inl rfl
 ·rename_i g
  rw [not_or,not_or] at g
  split
  ·rename_i u
   right
   show 99999 < OP l
   have m:∀ b ∈ l,Hq b = true:=List.all_eq_true.1 u
   by_cases s:6 < l.length
   ·cases l with
    | nil=>exact absurd rfl g.1
    | cons b t =>
     have hb:=Kb.1 (m b (List.mem_cons_self ..))
     have ac:b ≠ 48:=fun e=>g.2.2 ⟨by omega,by rw [e]; rfl⟩
     have ak:49 ≤ b.toNat:=by
      rcases Nat.lt_or_ge b.toNat 49 with f | f
      ·exact absurd (UInt8.toNat_inj.1 (show b.toNat = (48:Ai).toNat by show b.toNat = 48; omega)) ac
      ·exact f
     have hl:=XH t (10 * 0 + ((b.toNat:Int) - 48)) (fun x hx=>m x (List.mem_cons_of_mem _ hx)) (by omega)
     unfold OP
     rw [List.foldl_cons]
     refine Int.lt_of_lt_of_le ?_ hl
     have hp:(10:Int) ^ 6 ≤ (10:Int) ^ t.length:=by
      have h2:(10:Nat) ^ 6 ≤ 10 ^ t.length:=Nat.pow_le_pow_right (by omega) (by simp at s; omega)
      have v:=Int.ofNat_le.2 h2
      rw [Int.natCast_pow,Int.natCast_pow] at v
      exact v
     have e6:(10:Int) ^ 6 = 1000000:=by decide
     have hm:1 * (10:Int) ^ t.length ≤ (10 * 0 + ((b.toNat:Int) - 48)) * (10:Int) ^ t.length:=Int.mul_le_mul_of_nonneg_right (by omega) (by omega)
     omega
   ·have e:Lc l = OP l:=by
     unfold Lc
     rw [if_neg (by rw [not_or,not_or]; exact ⟨g.1,s,g.2.2⟩),if_pos u]
    have h0:=(Zl l 0 m (by omega)).1
    rw [e] at h
    rcases Int.lt_or_le 99999 (OP l) with f | f
    ·exact f
    ·rw [show BK (OP l) 0 99999 = true from D9.2 ⟨h0,f⟩] at h; cases h
  ·exact .inl rfl
def IP {α β:Type} (g:α → Af β):List α → Af (List β)
 | []=>some []
 | x :: t=>(g x).bind fun y=>(IP g t).map (y :: ·)
theorem W3 {α β:Type} {g:α → Af β}:∀ {l:List α} {m:List β},IP g l = some m → m.length = l.length
 | [],m,h=>by cases h; rfl
 | x :: t,m,h=>by
  rw [IP,Option.bind_eq_some_iff] at h
  obtain ⟨y,_,h⟩:=h
  rw [Option.map_eq_some_iff] at h
  obtain ⟨f,e,rfl⟩:=h
  simp [W3 e]
theorem W2 {α β:Type} {g:α → Af β} {p:β → Prop} (f:∀ x y,g x = some y → p y):∀ {l:List α} {m:List β},IP g l = some m → ∀ y ∈ m,p y
 | [],m,h,y,e=>by cases h; cases e
 | x :: t,m,h,y,e=>by
  rw [IP,Option.bind_eq_some_iff] at h
  obtain ⟨z,s,h⟩:=h
  rw [Option.map_eq_some_iff] at h
  obtain ⟨v,u,rfl⟩:=h
  rcases List.mem_cons.1 e with rfl | e
  ·exact f _ _ s
  ·exact W2 f u y e
theorem VH {α β R:Type} (f:Nat → List β → Int → Af R) (l:List α) (g:α → Af β) (rest:List β → Af R) (u:Af R) (hn:l.length < 4611686018427387904)
  (hs:∀ (m k:Nat) e x,l[k]? = some x → e.length = k → f (m + 1) e (k:Int) = match g x with
   | none=>u
   | some y=>f m (e ++ [y]) ((k + 1:Nat):Int))
  (he:∀ m e,e.length = l.length → f (m + 1) e (l.length:Int) = rest e):f FU [] 0 = match IP g l with
   | none=>u
   | some s=>rest s:=by
 have ad:∀ d k m e,l.length - k = d → k ≤ l.length → d < m → e.length = k → f m e (k:Int) = match IP g (l.drop k) with
   | none=>u
   | some s=>rest (e ++ s):=by
  intro d
  induction d with
  | zero =>
   intro k m e hd hk hm h
   have:k = l.length:=by omega
   subst this
   cases m with
   | zero=>omega
   | succ m=>rw [he m e h,List.drop_length,IP]; simp
  | succ d ih =>
   intro k m e hd hk hm h
   have v:k < l.length:=by omega
   cases m with
   | zero=>omega
   | succ m =>
    rw [hs m k e l[k] (Cp v) h,List.drop_eq_getElem_cons v,IP]
    cases hg:g l[k] with
    | none=>rfl
    | some y =>
     dsimp only
     rw [ih (k + 1) m _ (by omega) (by omega) (by omega) (by simp [h]),Aa]
     cases IP g (l.drop (k + 1)) with
     | none=>rfl
     | some s=>simp
 have:=ad l.length 0 FU [] rfl (by omega) (DH hn) rfl
 simpa using this
def OX (w:List Ai):Int:=(G8 w).getD 0
theorem Adg {R:Type} {c:Prop} [Decidable c] {a b:Af R} (f:∃ n,a = some n) (e:∃ n,b = some n):∃ n,(if c then a else b) = some n:=by
 split
 ·exact f
 ·exact e
theorem Adf {A R:Type} {rest:A → Af R} {e:(A → Af R) → Af R} (h:∀ y,∃ n,rest y = some n) (f:∀ k,(∀ y,∃ n,k y = some n) → ∃ n,e k = some n):∃ n,Bk rest e = some n:=f rest h
theorem Tw (w:List Ai):G8 w = some (OX w):=by
 have:∃ n,G8 w = some n:=by
  unfold G8
  repeat' first
   | refine Adg ?_ ?_
   | exact e _
   | refine Adf (fun y=>?_) (fun k e=>?_)
   | exact ⟨_,rfl⟩
 obtain ⟨n,h⟩:=this
 unfold OX
 rw [h]
 rfl
theorem TJ (w:List Ai):Jw w = some (OX w):=Tw w
def SN:List Ai:=[115,112,111,116]
def Q7:List Ai:=[112,108,97,99,101]
def Ph:List Ai:=[109,105,114,114,111,114]
def SP:List Ai:=[107,101,101,112]
def Pi:List Ai:=[99,111,117,110,116,115]
def NH:List Ai:=[109,101,97,115,117,114,101]
def QA:List Ai:=[99,97,114,114,121]
def NF:List Ai:=[118,101,114,115,105,111,110]
def VT:List Ai:=[115,117,109]
def Q9:List Ai:=[99,108,111,115,101]
def SO:List Ai:=[107,105,110,100]
def Q8:List Ai:=[108,101,97,115,116]
def SL:List Ai:=[116,105,109,101]
def VS:List Ai:=[119,104,111]
def Q6:List Ai:=[115,116,97,116,101]
def SM:List Ai:=[116,101,120,116]
def NG:List Ai:=[115,111,117,110,100]
def IV:List (List Ai):=[SN,Q7,Ph,SP,Pi]
def OY:List (List Ai):=[NH,QA,NF]
def LH:List (List Ai):=[VT,Q9,SO,Q8,SL,VS,Q6,SM,NG]
theorem Aag {w:List Ai} (h:OX w ≠ -1):w ∈ IV ++ OY ++ LH:=by
 refine Classical.byContradiction fun f=>h ?_
 simp only [IV,OY,LH,SN,Q7,Ph,SP,Pi,NH,QA,NF,VT,Q9,SO,Q8,SL,VS,Q6,SM,NG,List.cons_append,List.nil_append,List.mem_cons,List.not_mem_nil,or_false,not_or] at f
 obtain ⟨h1,h2,h3,v,h5,h6,l,h8,h9,s,u,ak,aa,g,m,ae,ab⟩:=f
 have e {a:List Ai} (h:¬ w = a):(w == a) = false:=beq_eq_false_iff_ne.2 h
 unfold OX G8 Bk
 rw [e h1,e h2,e h3,e v,e h5,e h6,e l,e h8,e h9,e s,e u,e ak,e aa,e g,e m,e ae,e ab]
 rfl
theorem I4 {l:List (Int × Int)}:Cu l = true ↔ (1 ≤ l.length ∧ l.length ≤ 12) ∧ (∀ s ∈ l,CX s = true) ∧ l.Nodup:=by
 unfold Cu
 rw [Cg,D9,List.all_eq_true]
 constructor
 ·rintro ⟨h1,f⟩
  refine ⟨by omega,fun s hs=>?_,?_⟩
  ·obtain ⟨k,h⟩:=List.getElem?_of_mem hs
   have:=f k (List.mem_range.2 (List.getElem?_eq_some_iff.1 h).1)
   rw [NY h,Cg] at this
   exact this.1
  ·rw [List.nodup_iff_pairwise_ne,List.pairwise_iff_getElem]
   intro i j hi v ad e
   have:=f j (List.mem_range.2 v)
   rw [NY (Cp v),Cg,List.all_eq_true] at this
   have g:=this.2 l[i] (List.mem_take_iff_getElem.2 ⟨i,by omega,rfl⟩)
   simp [e] at g
 ·rintro ⟨h1,f,g⟩
  refine ⟨by omega,fun k h=>?_⟩
  have m:=List.mem_range.1 h
  rw [NY (Cp m),Cg,List.all_eq_true]
  refine ⟨f _ (List.getElem_mem m),fun u hu=>?_⟩
  obtain ⟨i,hi,rfl⟩:=List.mem_take_iff_getElem.1 hu
  rw [List.nodup_iff_pairwise_ne,List.pairwise_iff_getElem] at g
  have:=g i k (by omega) m (by omega)
  simpa using fun e=>this e.symm
theorem Dc {l:List (Int × Int)} (h:Cu l = true):1 ≤ l.length ∧ l.length ≤ 12:=(I4.1 h).1
def Pv (l:List (Int × Int)):List (Int × Int) × Bool:=if Cu l = true then (l,true) else ([],false)
theorem UR (l:List (Int × Int)) (e:l.length < 4611686018427387904):Hb l = some (Pv l):=by
 unfold Hb Pv
 rw [J3 l e,Aa]
 cases Cu l <;> rfl
theorem Sa (l:List (Int × Int)) (e:l.length < 4611686018427387904):Gh l = some (Pv l):=by
 unfold Gh Pv
 rw [GO l e,Aa]
 cases Cu l <;> rfl
def Nc (s:Int × Int):Int × Int:=(1280 - s.1,s.2)
theorem Ac1 {l:List (Int × Int)} (h:Cu l = true):Cu (l.map Nc) = true:=by
 obtain ⟨h1,m,f⟩:=I4.1 h
 refine I4.2 ⟨by simpa using h1,fun s v=>?_,?_⟩
 ·obtain ⟨u,g,rfl⟩:=List.mem_map.1 v
  have:=FL.1 (m u g)
  exact FL.2 ⟨by unfold Nc; dsimp only; omega,this.2⟩
 ·rw [List.nodup_iff_pairwise_ne,List.pairwise_map]
  rw [List.nodup_iff_pairwise_ne] at f
  refine f.imp fun {a b} hab e=>hab ?_
  obtain ⟨a1,a2⟩:=a
  obtain ⟨b1,b2⟩:=b
  simp only [Nc,Prod.mk.injEq] at e ⊢
  omega
theorem Sm {l:List (Int × Int)} (h:Cu l = true):HD l = some (l.map Nc,true):=by
 obtain ⟨h1,f,h3⟩:=I4.1 h
 unfold HD
 rw [J3 l (by omega),Aa,h,if_neg (by simp)]
 rw [VH (DK l) l (fun s=>if CX s = true then some (Nc s) else none) (fun m=>some (m,true)) none (by omega) (fun m k u x g ha=>?_) (fun m u ha=>?_)]
 ·have:IP (fun s=>if CX s = true then some (Nc s) else none) l = some (l.map Nc):=by
   clear h h1 h3
   induction l with
   | nil=>rfl
   | cons a t v=>rw [IP,if_pos (f a (List.mem_cons_self ..)),Aa,v (fun s e=>f s (List.mem_cons_of_mem _ e))]; rfl
  rw [this]
 ·have hk:=(List.getElem?_eq_some_iff.1 g).1
  have e:=f x (List.mem_of_getElem? g)
  have ac:=FL.1 e
  rw [DK,if_pos (by simp; omega),AY,g,Aa,if_pos e]
  unfold KE
  rw [Aa,Br (by simp; omega),Aa,AE (by omega),A8 (by omega) (by omega)]
  rfl
 ·rw [DK,if_neg (by simp)]
theorem Sv {l:List (Int × Int)} (h:Cu l = true):HI l = some (l.map Nc,true):=by
 obtain ⟨h1,f,h3⟩:=I4.1 h
 unfold HI
 rw [GO l (by omega),Aa,h,if_neg (by simp)]
 rw [VH (DR l) l (fun s=>if CX s = true then some (Nc s) else none) (fun m=>some (m,true)) none (by omega) (fun m k u x g ha=>?_) (fun m u ha=>?_)]
 ·have:IP (fun s=>if CX s = true then some (Nc s) else none) l = some (l.map Nc):=by
   clear h h1 h3
   induction l with
   | nil=>rfl
   | cons a t v=>rw [IP,if_pos (f a (List.mem_cons_self ..)),Aa,v (fun s e=>f s (List.mem_cons_of_mem _ e))]; rfl
  rw [this]
 ·have hk:=(List.getElem?_eq_some_iff.1 g).1
  have e:=f x (List.mem_of_getElem? g)
  have ac:=FL.1 e
  rw [DR,if_pos (by simp; omega),AY,g,Aa,if_pos e]
  rw [Br (by simp; omega),Aa,AE (by omega),A8 (by omega) (by omega)]
  rfl
 ·rw [DR,if_neg (by simp)]
def Lu (l:List (Int × Int)) (p:Int) (s:Int × Int):List (Int × Int) × Bool:=if BK p 0 ((l.length:Int) - 1) = true then Pv (BG l p s) else ([],false)
theorem Qu {l:List (Int × Int)} (h:Cu l = true) (p:Int) (s:Int × Int):GB l p s = some (Lu l p s):=by
 have m:=Dc h
 unfold GB Mp Bk Gl Lu
 dsimp only
 rw [J3 l (by omega),h,Aa,if_pos rfl,CU,A8 (by omega) (by omega),Aa,Aa]
 cases f:BK p 0 ((l.length:Int) - 1) with
 | false=>rfl
 | true =>
  have g:=D9.1 f
  have e:p.toNat < l.length:=by omega
  rw [if_neg (by simp),Br (by simp; omega),Aa,Aa,List.nil_append,It g.1,Cp e,Aa,UR _ (by unfold BG; simp; omega),Aa,if_pos rfl]
theorem Ab6 {l:List (Int × Int)} {p:Int} {s:Int × Int} (e:p.toNat < l.length) (f:CX s = false):Pv (BG l p s) = ([],false):=by
 unfold Pv BG
 rw [if_neg]
 intro h
 have:=(I4.1 h).2.1 s (List.mem_iff_getElem.2 ⟨p.toNat,by simpa using e,by simp⟩)
 rw [f] at this
 cases this
theorem Qv {l:List (Int × Int)} (h:Cu l = true) (p:Int) (s:Int × Int):GC l p s = some (Lu l p s):=by
 have u:=Dc h
 unfold GC Bk Lu
 dsimp only
 rw [GO l (by omega),h,Aa,if_neg (by simp),CT,A8 (by omega) (by omega),Aa,Lw]
 cases f:BK p 0 ((l.length:Int) - 1) with
 | false=>rfl
 | true =>
  have g:=D9.1 f
  have e:p.toNat < l.length:=by omega
  rw [if_neg (by simp),Aa,if_pos rfl]
  cases m:CX s with
  | false=>rw [Ab6 e m]; rfl
  | true=>rw [if_neg (by simp),Br (by simp; omega),Aa,List.nil_append,It g.1,Cp e,Aa,Sa _ (by unfold BG; simp; omega),Aa]
theorem EM {x:Int} (h1:0 ≤ x) (e:x < 18446744073709551616):Bh x = x:=by
 unfold Bh IntKind.wrap
 simp only [IntKind.bits,IntKind.signed]
 simp only [ge_iff_le,Bool.false_and,Bool.false_eq_true,if_false]
 omega
theorem ZF (x:Int):Bh x = x % 18446744073709551616:=by
 unfold Bh IntKind.wrap
 simp only [IntKind.bits,IntKind.signed]
 simp only [ge_iff_le,Bool.false_and,Bool.false_eq_true,if_false]
 omega
theorem SZ (n:Nat):Bq .u64 (n:Int) 32 = ((n / 4294967296:Nat):Int):=by
 unfold Bq
 have e:(2:Int) ^ (min (32:Int).toNat IntKind.u64.bits) = 4294967296:=by decide
 rw [e,Int.fdiv_eq_ediv_of_nonneg _ (by decide)]
 omega
theorem YA (n:Nat) (h:n < 18446744073709551616):B5 .u64 (n:Int) 4294967295 = ((n % 4294967296:Nat):Int):=by
 have g:BitVec.ofInt 64 (n:Int) = BitVec.ofNat 64 n:=BitVec.ofInt_natCast ..
 have e:BitVec.ofInt 64 4294967295 = BitVec.ofNat 64 4294967295:=rfl
 have f:(BitVec.ofNat 64 n &&& BitVec.ofNat 64 4294967295).toNat = n % 4294967296:=by
  rw [BitVec.toNat_and,BitVec.toNat_ofNat,BitVec.toNat_ofNat,Nat.mod_eq_of_lt (show n < 2 ^ 64 by omega),Nat.mod_eq_of_lt (show 4294967295 < 2 ^ 64 by omega)]
  exact Nat.and_two_pow_sub_one_eq_mod n 32
 show Bh ((BitVec.ofInt 64 (n:Int) &&& BitVec.ofInt 64 4294967295).toNat:Int) = _
 rw [g,e,f,EM (by omega) (by omega)]
theorem T0 (x y:Nat) (f:x < 18446744073709551616) (e:y < 18446744073709551616):JS (x:Int) (y:Int) = some (((x * y / 18446744073709551616:Nat):Int),((x * y % 18446744073709551616:Nat):Int)):=by
 obtain ⟨h1,g,v,m⟩:=Go.Lib.mul64_hi x y f e
 have h:x * y / 18446744073709551616 < 18446744073709551616:=by
  have:x * y < 18446744073709551616 * 18446744073709551616:=Nat.mul_lt_mul'' f e
  omega
 unfold JS
 rw [SZ,SZ,YA x f,YA y e]
 simp only [← Int.natCast_mul,EM (x:=((x % 4294967296 * (y % 4294967296):Nat):Int)) (by omega) (by omega),SZ]
 have s:=Go.Lib.half_mul_le (a:=x / 4294967296) (b:=y / 4294967296) (by omega) (by omega)
 have u:=Go.Lib.half_mul_le (a:=x / 4294967296) (b:=y % 4294967296) (by omega) (by omega)
 have l:=Go.Lib.half_mul_le (a:=x % 4294967296) (b:=y / 4294967296) (by omega) (by omega)
 rw [ZF ((x * y:Nat):Int)]
 generalize (x / 4294967296) * (y / 4294967296) = A at *
 generalize (x / 4294967296) * (y % 4294967296) = B at *
 generalize (x % 4294967296) * (y / 4294967296) = C at *
 generalize (x % 4294967296) * (y % 4294967296) = D at *
 rw [EM (x:=(A:Int)) (by omega) (by omega),EM (x:=(B:Int)) (by omega) (by omega),EM (x:=(C:Int)) (by omega) (by omega)]
 simp only [← Int.natCast_add]
 rw [EM (x:=((B + D / 4294967296:Nat):Int)) (by omega) (by omega),SZ,YA _ g]
 simp only [← Int.natCast_add]
 rw [EM (x:=(((B + D / 4294967296) % 4294967296 + C:Nat):Int)) (by omega) (by omega),SZ,EM (x:=((A + (B + D / 4294967296) / 4294967296:Nat):Int)) (by omega) (by omega)]
 simp only [← Int.natCast_add]
 rw [EM (by omega) (by omega)]
 congr 2
 omega
theorem Adj (P Q:Nat):(if decide (((P / 18446744073709551616:Nat):Int) < ((Q / 18446744073709551616:Nat):Int)) = true then some true
  else if (((P / 18446744073709551616:Nat):Int) == ((Q / 18446744073709551616:Nat):Int)) = true then some (decide (((P % 18446744073709551616:Nat):Int) < ((Q % 18446744073709551616:Nat):Int))) else some false) = some (decide ((P:Int) < (Q:Int))):=by
 by_cases h1:P / 18446744073709551616 < Q / 18446744073709551616
 ·rw [if_pos (by simp; omega)]
  congr 1
  symm
  simp
  omega
 ·rw [if_neg (by simp; omega)]
  by_cases e:P / 18446744073709551616 = Q / 18446744073709551616
  ·rw [if_pos (by simp; omega)]
   congr 1
   rw [Bool.eq_iff_iff]
   simp
   omega
  ·rw [if_neg (by simp; omega)]
   congr 1
   symm
   simp
   omega
def R5 (a b c d:Int):Bool:=decide (a * d < c * b)
theorem RC (a b c d:Int) (f:0 ≤ a) (u:a < 18446744073709551616) (h:0 ≤ b) (s:b < 18446744073709551616) (e:0 ≤ c) (m:c < 18446744073709551616) (g:0 ≤ d) (l:d < 18446744073709551616) :
  Fo a b c d = some (R5 a b c d):=by
 obtain ⟨a,rfl⟩:=Int.eq_ofNat_of_zero_le f
 obtain ⟨b,rfl⟩:=Int.eq_ofNat_of_zero_le h
 obtain ⟨c,rfl⟩:=Int.eq_ofNat_of_zero_le e
 obtain ⟨d,rfl⟩:=Int.eq_ofNat_of_zero_le g
 unfold Fo Bk R5
 rw [EM f u,EM g l,EM e m,EM h s,T0 a d (by omega) (by omega),Aa,T0 c b (by omega) (by omega),Aa]
 simp only [← Int.natCast_mul]
 exact Adj _ _
theorem Xt (a b c d:Int) (f:0 ≤ a) (aq:a ≤ 4000000000000000000) (u:0 < b) (ag:b ≤ 3000000000) (g:0 ≤ c) (am:c ≤ 4000000000000000000) (m:0 < d) (ai:d ≤ 3000000000) :
  Ko a b c d = some (R5 a b c d):=by
 have e:¬ b = 0:=by omega
 have l:¬ d = 0:=by omega
 unfold Ko R5
 rw [if_neg e,if_neg l,if_neg e,if_neg l,if_neg e,if_neg l,Int.tdiv_eq_ediv_of_nonneg f,Int.tdiv_eq_ediv_of_nonneg g,Int.tmod_eq_emod_of_nonneg f,Int.tmod_eq_emod_of_nonneg g]
 have e1:=Int.emod_add_mul_ediv a b
 have e2:=Int.emod_add_mul_ediv c d
 have r1:=Int.emod_nonneg a e
 have r2:=Int.emod_lt_of_pos a u
 have r3:=Int.emod_nonneg c l
 have r4:=Int.emod_lt_of_pos c m
 have q1:=Int.ediv_nonneg f (Int.le_of_lt u)
 have q2:=Int.ediv_nonneg g (Int.le_of_lt m)
 have q3:a / b ≤ a:=Int.ediv_le_self _ f
 have q4:c / d ≤ c:=Int.ediv_le_self _ g
 generalize a / b = p at *
 generalize c / d = q at *
 generalize a % b = r at *
 generalize c % d = s at *
 have hP:0 < b * d:=Int.mul_pos u m
 have aw:b * d ≤ 3000000000 * 3000000000:=Int.mul_le_mul ag ai (by omega) (by omega)
 have f1:a * d = r * d + b * d * p:=by rw [← e1,Int.add_mul,Int.mul_assoc,Int.mul_assoc,Int.mul_comm p d]
 have f2:c * b = s * b + b * d * q:=by rw [← e2,Int.add_mul,Int.mul_comm b d,Int.mul_assoc,Int.mul_assoc,Int.mul_comm q b]
 have g1:0 ≤ r * d:=Int.mul_nonneg r1 (by omega)
 have g2:r * d < b * d:=Int.mul_lt_mul_of_pos_right r2 m
 have g3:0 ≤ s * b:=Int.mul_nonneg r3 (by omega)
 have g4:s * b < d * b:=Int.mul_lt_mul_of_pos_right r4 u
 rw [Int.mul_comm d b] at g4
 have v:∀ x y:Int,x + 1 ≤ y → b * d * x + b * d ≤ b * d * y:=fun x y h=>by
  have:=Int.mul_le_mul_of_nonneg_left h (Int.le_of_lt hP)
  rwa [Int.mul_add,Int.mul_one] at this
 rw [A8 (x:=p) (by omega) (by omega),A8 (x:=q) (by omega) (by omega),A8 (x:=r * d) (by omega) (by omega),A8 (x:=s * b) (by omega) (by omega)]
 by_cases h1:p = q
 ·subst h1
  rw [if_neg (by simp)]
  congr 1
  rw [Bool.eq_iff_iff]
  simp
  omega
 ·rw [if_pos (by simpa using h1)]
  congr 1
  rw [Bool.eq_iff_iff]
  simp
  rcases Int.lt_or_gt_of_ne h1 with h2 | h2
  ·have:=v p q (by omega)
   omega
  ·have:=v q p (by omega)
   omega
def Dh (n s:Nat):Nat:=(List.range n).foldl (fun a k=>a + (s.testBit k).toNat) 0
theorem Ik (n s:Nat):Dh (n + 1) s = Dh n s + (s.testBit n).toNat:=by
 unfold Dh
 rw [List.range_succ,List.foldl_append]
 rfl
theorem UY (n:Nat):Dh n 0 = 0:=by
 induction n with
 | zero=>rfl
 | succ n e=>rw [Ik,e]; simp
theorem LN (n s:Nat):Dh n s ≤ n:=by
 induction n with
 | zero=>exact Nat.le_refl _
 | succ n e =>
  rw [Ik]
  have:(s.testBit n).toNat ≤ 1:=by cases s.testBit n <;> simp
  omega
theorem VY (s k i:Nat):(s ^^^ 2 ^ k).testBit i = (s.testBit i ^^ decide (k = i)):=by
 rw [Nat.testBit_xor,Nat.testBit_two_pow]
theorem Za {n s t:Nat} (h:∀ i,i < n → s.testBit i = t.testBit i):Dh n s = Dh n t:=by
 induction n with
 | zero=>rfl
 | succ n e=>rw [Ik,Ik,e (fun i f=>h i (by omega)),h n (by omega)]
theorem NO {n s k:Nat} (g:k < n) (h:s.testBit k = true):Dh n (s ^^^ 2 ^ k) + 1 = Dh n s:=by
 induction n with
 | zero=>omega
 | succ n f =>
  rw [Ik,Ik,VY]
  by_cases e:k = n
  ·subst e
   rw [h,Za (t:=s) (fun i l=>by rw [VY,decide_eq_false (by omega)]; simp)]
   simp
  ·have:=f (by omega)
   simp [e]
   omega
theorem Ls:∀ {k s:Nat},s.testBit k = true → s ^^^ 2 ^ k < s
 | 0,s,h=>by
  have h1:=Nat.xor_div_two (a:=s) (b:=2 ^ 0)
  have f:s % 2 = 1:=by simpa [Nat.testBit_zero] using h
  have e:¬ ((s ^^^ 2 ^ 0) % 2 = 1):=by rw [Nat.xor_mod_two_eq_one,f]; simp
  simp only [Nat.pow_zero] at h1 e ⊢
  rw [show (1:Nat) / 2 = 0 by rfl,Nat.xor_zero] at h1
  omega
 | k + 1,s,h=>by
  rw [Nat.testBit_succ] at h
  have g:=Ls h
  have h1:=Nat.xor_div_two (a:=s) (b:=2 ^ (k + 1))
  rw [show 2 ^ (k + 1) / 2 = 2 ^ k by rw [Nat.pow_succ]; omega] at h1
  omega
theorem N0 {n s:Nat} (f:s < 2 ^ n) (g:0 < s):∃ k,k < n ∧ s.testBit k = true:=by
 obtain ⟨k,e⟩:=Nat.exists_testBit_of_ne_zero (by omega:s ≠ 0)
 refine ⟨k,?_,e⟩
 rcases Nat.lt_or_ge k n with h | h
 ·exact h
 ·have:=Nat.testBit_lt_two_pow (Nat.lt_of_lt_of_le f (Nat.pow_le_pow_right (by omega) h))
  rw [e] at this
  cases this
theorem Abt {n s:Nat} (f:s < 2 ^ n) (h:0 < Dh n s):0 < s:=by
 rcases Nat.eq_zero_or_pos s with e | e
 ·rw [e,UY] at h; omega
 ·exact e
theorem Pu {n s i:Nat} (f:s < 2 ^ n) (e:i < n):(2 ^ n - 1 - s).testBit i = !s.testBit i:=by
 rw [show 2 ^ n - 1 - s = 2 ^ n - (s + 1) by omega,Nat.testBit_two_pow_sub_succ f]
 simp [e]
theorem Ur {n s:Nat} (e:s < 2 ^ n):∀ m,m ≤ n → Dh m (2 ^ n - 1 - s) + Dh m s = m
 | 0,_=>rfl
 | m + 1,h=>by
  have:=Ur e m (by omega)
  rw [Ik,Ik,Pu e (by omega)]
  cases s.testBit m <;> simp <;> omega
theorem WO {n s k:Nat} (g:s < 2 ^ n) (m:k < n) (h:s.testBit k = true):(2 ^ n - 1 - s) ||| 2 ^ k = 2 ^ n - 1 - (s ^^^ 2 ^ k):=by
 have l:=Ls h
 apply Nat.eq_of_testBit_eq
 intro i
 rw [Nat.testBit_or,Nat.testBit_two_pow]
 rcases Nat.lt_or_ge i n with f | f
 ·rw [Pu g f,Pu (by omega) f,VY]
  by_cases e:k = i
  ·subst e; simp [h]
  ·simp [e]
 ·have p:=Nat.pow_le_pow_right (n:=2) (by omega) f
  rw [Nat.testBit_lt_two_pow (by omega:2 ^ n - 1 - s < 2 ^ i),Nat.testBit_lt_two_pow (by omega:2 ^ n - 1 - (s ^^^ 2 ^ k) < 2 ^ i)]
  simp
  omega
def mf (g:Nat → Bool) (v:Nat → Int) (a:Int) (n:Nat):Int:=(List.range n).foldl (fun a k=>if g k then min a (v k) else a) a
theorem N9 (g:Nat → Bool) (v:Nat → Int) (a:Int) (n:Nat):mf g v a (n + 1) = if g n then min (mf g v a n) (v n) else mf g v a n:=by
 unfold mf
 rw [List.range_succ,List.foldl_append]
 rfl
theorem R4 (g:Nat → Bool) (v:Nat → Int) (a:Int):∀ (n k:Nat),k < n → g k = true → mf g v a n ≤ v k
 | n + 1,k,hk,hg=>by
  rw [N9]
  by_cases e:k = n
  ·subst e; rw [if_pos hg]; omega
  ·have:=R4 g v a n k (by omega) hg
   split <;> omega
theorem Tm (g:Nat → Bool) (v:Nat → Int) (a:Int):∀ (n:Nat),mf g v a n = a ∨ ∃ k,k < n ∧ g k = true ∧ mf g v a n = v k
 | 0=>.inl rfl
 | n + 1=>by
  rw [N9]
  have m:=Tm g v a n
  by_cases e:g n = true
  ·rw [if_pos e]
   rcases Int.le_total (mf g v a n) (v n) with h | h
   ·rw [Int.min_eq_left h]
    exact m.imp id fun ⟨k,h1,f,l⟩=>⟨k,by omega,f,l⟩
   ·rw [Int.min_eq_right h]
    exact .inr ⟨n,by omega,e,rfl⟩
  ·rw [if_neg e]
   exact m.imp id fun ⟨k,h1,f,l⟩=>⟨k,by omega,f,l⟩
theorem Ac2 {g:Nat → Bool} {v:Nat → Int} {a b:Int} {n k:Nat} (f:k < n) (e:g k = true) (ha:v k < a) (hb:v k < b):mf g v a n = mf g v b n:=by
 have h1:=R4 g v a n k f e
 have h2:=R4 g v b n k f e
 rcases Tm g v a n with h | ⟨i,hi,s,h⟩
 ·omega
 ·rcases Tm g v b n with u | ⟨j,l,m,u⟩
  ·omega
  ·have h3:=R4 g v a n j l m
   have h4:=R4 g v b n i hi s
   omega
theorem W1 {g f:Nat → Bool} {v l:Nat → Int} {a:Int}:∀ {n:Nat},(∀ k,k < n → g k = f k ∧ (g k = true → v k = l k)) → mf g v a n = mf f l a n
 | 0,_=>rfl
 | n + 1,h=>by
  have h1:=h n (by omega)
  rw [N9,N9,W1 (fun k m=>h k (by omega)),← h1.1]
  by_cases e:g n = true
  ·rw [if_pos e,if_pos e,h1.2 e]
  ·rw [if_neg e,if_neg e]
def Vn:Int:=1000000000
def Qi (n:Nat) (c:Nat → Nat → Int):Nat → List Int
 | 0=>[0]
 | m + 1=>Qi n c m ++ [mf (m + 1).testBit (fun k=>c (n - Dh n (m + 1)) k + (Qi n c m).getD ((m + 1) ^^^ 2 ^ k) 0) Vn n]
def VV (n:Nat) (c:Nat → Nat → Int) (s:Nat):Int:=(Qi n c s).getD s 0
theorem HJ (n:Nat) (c:Nat → Nat → Int):∀ m,(Qi n c m).length = m + 1
 | 0=>rfl
 | m + 1=>by rw [Qi,CM,HJ n c m]; rfl
theorem Rz (n:Nat) (c:Nat → Nat → Int) {s:Nat}:∀ {m:Nat},s ≤ m → (Qi n c m)[s]? = some (VV n c s)
 | 0,h=>by
  have:s = 0:=by omega
  subst this; rfl
 | m + 1,h=>by
  by_cases e:s = m + 1
  ·subst e
   have f:=HJ n c (m + 1)
   unfold VV
   rw [List.getD_eq_getElem?_getD,Cp (by omega)]
   rfl
  ·rw [Qi,List.getElem?_append_left (by rw [HJ]; omega)]
   exact Rz n c (by omega)
theorem RB (n:Nat) (c:Nat → Nat → Int):VV n c 0 = 0:=rfl
theorem VJ (n:Nat) (c:Nat → Nat → Int) {s:Nat} (h:0 < s):VV n c s = mf s.testBit (fun k=>c (n - Dh n s) k + VV n c (s ^^^ 2 ^ k)) Vn n:=by
 cases s with
 | zero=>omega
 | succ m =>
  conv=>lhs; unfold VV
  rw [Qi,List.getD_eq_getElem?_getD,List.getElem?_append_right (by rw [HJ]; omega),HJ]
  simp only [Nat.sub_self,List.getElem?_cons_zero,Option.getD_some]
  refine W1 fun k f=>⟨rfl,fun e=>?_⟩
  have:=Ls e
  rw [List.getD_eq_getElem?_getD,Rz n c (by omega)]
  rfl
theorem XW {n:Nat} (hn:n ≤ 12) {c:Nat → Nat → Int} (hc:∀ i k,i < n → k < n → 0 ≤ c i k ∧ c i k ≤ 2100000):∀ (d s:Nat),s ≤ d → s < 2 ^ n → (0 ≤ VV n c s ∧ VV n c s ≤ 2100000 * (Dh n s:Int)) ∧ (0 < s → ∃ k,k < n ∧ s.testBit k = true ∧ c (n - Dh n s) k + VV n c (s ^^^ 2 ^ k) = VV n c s):=by
 intro d
 induction d with
 | zero =>
  intro s h u
  have:s = 0:=by omega
  subst this
  exact ⟨⟨by rw [RB]; omega,by rw [RB]; omega⟩,fun h=>by omega⟩
 | succ d ih =>
  intro s h u
  by_cases g:0 < s
  ·obtain ⟨k,e,f⟩:=N0 u g
   have aj:=LN n s
   have v:∀ k,k < n → s.testBit k = true → (0 ≤ c (n - Dh n s) k + VV n c (s ^^^ 2 ^ k)) ∧ c (n - Dh n s) k + VV n c (s ^^^ 2 ^ k) ≤ 2100000 * (Dh n s:Int):=by
    intro k e f
    have hx:=Ls f
    have hp:=NO e f
    have h1:=(ih (s ^^^ 2 ^ k) (by omega) (by omega)).1
    have h2:=hc (n - Dh n s) k (by omega) e
    omega
   have ac:=R4 s.testBit (fun k=>c (n - Dh n s) k + VV n c (s ^^^ 2 ^ k)) Vn n k e f
   rw [← VJ n c g] at ac
   have ht:=v k e f
   have aa:=Tm s.testBit (fun k=>c (n - Dh n s) k + VV n c (s ^^^ 2 ^ k)) Vn n
   rw [← VJ n c g] at aa
   rcases aa with l | ⟨j,m,ab,l⟩
   ·unfold Vn at l; omega
   ·have ai:=v j m ab
    exact ⟨by omega,fun _=>⟨j,m,ab,l.symm⟩⟩
  ·have:s = 0:=by omega
   subst this
   exact ⟨⟨by rw [RB]; omega,by rw [RB]; omega⟩,fun h=>by omega⟩
theorem VK {n:Nat} (e:n ≤ 12) {c:Nat → Nat → Int} (f:∀ i k,i < n → k < n → 0 ≤ c i k ∧ c i k ≤ 2100000) {s:Nat} (g:s < 2 ^ n):0 ≤ VV n c s ∧ VV n c s ≤ 25200000:=by
 have h1:=(XW e f s s (Nat.le_refl _) g).1
 have h:=LN n s
 omega
def KA (n:Nat) (c:Nat → Nat → Int) (m:Nat):List Int:=List.replicate (2 ^ n - 1 - m) 0 ++ (Qi n c m).reverse
theorem PX (n:Nat) (c:Nat → Nat → Int) {m:Nat} (h:m < 2 ^ n):(KA n c m).length = 2 ^ n:=by
 unfold KA
 rw [CM,List.length_replicate,List.length_reverse,HJ]
 omega
theorem MF (n:Nat) (c:Nat → Nat → Int) {m s:Nat} (h:m < 2 ^ n) (e:s ≤ m):(KA n c m)[2 ^ n - 1 - s]? = some (VV n c s):=by
 unfold KA
 rw [List.getElem?_append_right (by simp; omega),List.length_replicate,List.getElem?_reverse (by rw [HJ]; omega),HJ,show m + 1 - 1 - (2 ^ n - 1 - s - (2 ^ n - 1 - m)) = s by omega]
 exact Rz n c e
theorem Aaw (n:Nat) (c:Nat → Nat → Int) {m:Nat} (h:m + 1 < 2 ^ n):(KA n c m).set (2 ^ n - 1 - (m + 1)) (VV n c (m + 1)) = KA n c (m + 1):=by
 apply List.ext_getElem?
 intro i
 have s:=PX n c (m:=m) (by omega)
 have l:=PX n c h
 rcases Nat.lt_trichotomy i (2 ^ n - 1 - (m + 1)) with g | g | g
 ·rw [List.getElem?_set_ne (by omega)]
  unfold KA
  rw [List.getElem?_append_left (by simp; omega),List.getElem?_append_left (by simp; omega)]
  rw [List.getElem?_replicate,List.getElem?_replicate,if_pos (by omega),if_pos (by omega)]
 ·subst g
  rw [List.getElem?_set_self (by omega),MF n c h (Nat.le_refl _)]
 ·rw [List.getElem?_set_ne (by omega)]
  rcases Nat.lt_or_ge i (2 ^ n) with f | f
  ·have e:i = 2 ^ n - 1 - (2 ^ n - 1 - i):=by omega
   rw [e,MF n c (by omega) (by omega),MF n c h (by omega)]
  ·rw [List.getElem?_eq_none (by rw [s]; exact f),List.getElem?_eq_none (by rw [l]; exact f)]
theorem Tz (n:Nat):BitVec.ofInt 64 (n:Int) = BitVec.ofNat 64 n:=BitVec.ofInt_natCast ..
theorem ZA (k:Nat):((2:Int) ^ k) = ((2 ^ k:Nat):Int):=by rw [Int.natCast_pow]; rfl
theorem Lx {k:Nat} (h:k ≤ 30):K0 .i64 1 (k:Int) = ((2 ^ k:Nat):Int):=by
 have e:2 ^ k ≤ 2 ^ 30:=Nat.pow_le_pow_right (by omega) h
 show Ag (1 * 2 ^ (min ((k:Int).toNat) 64)) = _
 rw [Int.toNat_natCast,Nat.min_eq_left (by omega),Int.one_mul,ZA]
 generalize 2 ^ k = P at e ⊢
 exact A8 (by omega) (by omega)
theorem Adk {s k:Nat} (h:k ≤ 30):Bq .i64 (s:Int) (k:Int) = ((s / 2 ^ k:Nat):Int):=by
 show Int.fdiv (s:Int) (2 ^ (min ((k:Int).toNat) 64)) = _
 rw [Int.toNat_natCast,Nat.min_eq_left (by omega),ZA,Int.fdiv_eq_ediv_of_nonneg _ (Int.natCast_nonneg _)]
 rfl
theorem Ab0 {x:Nat} (h:x < 4611686018427387904):B5 .i64 (x:Int) 1 = ((x % 2:Nat):Int):=by
 have e:(BitVec.ofNat 64 x &&& BitVec.ofNat 64 1).toNat = x % 2:=by
  rw [BitVec.toNat_and,BitVec.toNat_ofNat,BitVec.toNat_ofNat,Nat.mod_eq_of_lt (show x < 2 ^ 64 by omega),Nat.mod_eq_of_lt (show 1 < 2 ^ 64 by omega)]
  exact Nat.and_two_pow_sub_one_eq_mod x 1
 show Ag ((BitVec.ofInt 64 (x:Int) &&& BitVec.ofInt 64 1).toNat:Int) = _
 rw [Tz,show BitVec.ofInt 64 1 = BitVec.ofNat 64 1 by rfl,e,A8 (by omega) (by omega)]
theorem Y7 {x y:Nat} (f:x < 1073741824) (e:y < 1073741824):Tj .i64 (x:Int) (y:Int) = ((x ||| y:Nat):Int):=by
 have g:x ||| y < 2 ^ 30:=Nat.or_lt_two_pow (by omega) (by omega)
 show Ag ((BitVec.ofInt 64 (x:Int) ||| BitVec.ofInt 64 (y:Int)).toNat:Int) = _
 rw [Tz,Tz,BitVec.toNat_or,BitVec.toNat_ofNat,BitVec.toNat_ofNat,Nat.mod_eq_of_lt (show x < 2 ^ 64 by omega),Nat.mod_eq_of_lt (show y < 2 ^ 64 by omega),A8 (by omega) (by omega)]
theorem WU {x y:Nat} (f:x < 1073741824) (e:y < 1073741824):Si .i64 (x:Int) (y:Int) = ((x ^^^ y:Nat):Int):=by
 have g:x ^^^ y < 2 ^ 30:=Nat.xor_lt_two_pow (by omega) (by omega)
 show Ag ((BitVec.ofInt 64 (x:Int) ^^^ BitVec.ofInt 64 (y:Int)).toNat:Int) = _
 rw [Tz,Tz,BitVec.toNat_xor,BitVec.toNat_ofNat,BitVec.toNat_ofNat,Nat.mod_eq_of_lt (show x < 2 ^ 64 by omega),Nat.mod_eq_of_lt (show y < 2 ^ 64 by omega),A8 (by omega) (by omega)]
theorem WV {s k:Nat} (f:s < 1073741824) (h:k ≤ 30):B5 .i64 (Bq .i64 (s:Int) (k:Int)) 1 = (((s.testBit k).toNat:Nat):Int):=by
 have:s / 2 ^ k ≤ s:=Nat.div_le_self _ _
 rw [Adk h,Ab0 (by omega),Nat.testBit_eq_decide_div_mod_eq]
 have:s / 2 ^ k % 2 < 2:=Nat.mod_lt _ (by omega)
 by_cases e:s / 2 ^ k % 2 = 1
 ·simp [e]
 ·have:s / 2 ^ k % 2 = 0:=by omega
  simp [this]
theorem Uw {s k:Nat} (e:s < 1073741824) (h:k ≤ 30):(B5 .i64 (Bq .i64 (s:Int) (k:Int)) 1 == 1) = s.testBit k:=by
 rw [WV e h]; cases s.testBit k <;> rfl
theorem XV {s k:Nat} (e:s < 1073741824) (h:k ≤ 30):(B5 .i64 (Bq .i64 (s:Int) (k:Int)) 1 == 0) = !s.testBit k:=by
 rw [WV e h]; cases s.testBit k <;> rfl
theorem ED {S R:Type} (f:Nat → S → Int → Af R) (n:Nat) (e:Nat → S) (rest:Af R) (hn:n < 4611686018427387904) {j:Nat} (h:j ≤ n)
  (hs:∀ m k,j ≤ k → k < n → f (m + 1) (e k) (k:Int) = f m (e (k + 1)) ((k + 1:Nat):Int)) (he:∀ m,f (m + 1) (e n) (n:Int) = rest):f FU (e j) (j:Int) = rest:=by
 have v:∀ d k m,n - k = d → j ≤ k → k ≤ n → d < m → f m (e k) (k:Int) = rest:=by
  intro d
  induction d with
  | zero =>
   intro k m hd g l s
   have:k = n:=by omega
   subst this
   cases m with
   | zero=>omega
   | succ m=>exact he m
  | succ d u =>
   intro k m hd g l s
   cases m with
   | zero=>omega
   | succ m=>rw [hs m k g (by omega)]; exact u (k + 1) m (by omega) (by omega) (by omega) (by omega)
 exact v (n - j) j FU rfl (Nat.le_refl _) h (DH (by omega))
theorem Ac3 {S R:Type} (f:Nat → S → Int → Af R) (n:Nat) (g:Nat → Bool) (l:Nat → S) (rest u:Af R) (hn:n < 4611686018427387904)
  (hs:∀ m k,k < n → (∀ i,i < k → g i = true) → f (m + 1) (l k) (k:Int) = if g k = true then f m (l (k + 1)) ((k + 1:Nat):Int) else u) (he:∀ m,f (m + 1) (l n) (n:Int) = rest):f FU (l 0) 0 = if (List.range n).all g = true then rest else u:=by
 have ae:∀ d k m,n - k = d → k ≤ n → d < m → (∀ i,i < k → g i = true) → f m (l k) (k:Int) = if (List.range n).all g = true then rest else u:=by
  intro d
  induction d with
  | zero =>
   intro k m hd hk hm s
   have:k = n:=by omega
   subst this
   cases m with
   | zero=>omega
   | succ m=>rw [he,if_pos (List.all_eq_true.2 fun i v=>s i (List.mem_range.1 v))]
  | succ d ih =>
   intro k m hd hk hm s
   cases m with
   | zero=>omega
   | succ m =>
    rw [hs m k (by omega) s]
    by_cases h:g k = true
    ·rw [if_pos h]
     exact ih (k + 1) m (by omega) (by omega) (by omega) (fun i v=>by
      by_cases e:i = k
      ·subst e; exact h
      ·exact s i (by omega))
    ·rw [if_neg h,if_neg]
     intro ha
     exact h (List.all_eq_true.1 ha k (List.mem_range.2 (by omega)))
 exact ae n 0 FU rfl (by omega) (DH hn) (fun i v=>by omega)
theorem Tn {R:Type} (f:Nat → Int → Af R) (n:Nat) (p:Nat → Bool) (e:Nat → Af R) (g:Af R) (l:n < 4611686018427387904)
  (hs:∀ m k,k < n → f (m + 1) (k:Int) = if p k = true then e k else f m ((k + 1:Nat):Int)) (he:∀ m,f (m + 1) (n:Int) = g):f FU 0 = match (List.range n).find? p with
   | some k=>e k
   | none=>g:=by
 have aa:∀ d k m,n - k = d → k ≤ n → d < m → f m (k:Int) = match (List.range' k d).find? p with
   | some k=>e k
   | none=>g:=by
  intro d
  induction d with
  | zero =>
   intro k m hd hk s
   have:k = n:=by omega
   subst this
   cases m with
   | zero=>omega
   | succ m=>rw [he]; rfl
  | succ d u =>
   intro k m hd hk s
   cases m with
   | zero=>omega
   | succ m =>
    rw [hs m k (by omega),List.range'_succ,List.find?_cons]
    by_cases h:p k = true
    ·rw [if_pos h,h]
    ·have v:p k = false:=by simpa using h
     rw [if_neg h,v]
     exact u (k + 1) m (by omega) (by omega) (by omega)
 have:=aa n 0 FU rfl (by omega) (DH l)
 rw [List.range_eq_range']
 exact this
theorem Yk (u:Nat) (h:u < 4096):H4 (u:Int) = some (Dh 12 u:Int):=by
 have:∀ a:Nat,a < 64 → ∀ b:Nat,b < 64 → H4 ((64 * a + b:Nat):Int) = some (Dh 12 (64 * a + b):Int):=by decide +kernel
 have:=this (u / 64) (by omega) (u % 64) (by omega)
 rwa [Nat.div_add_mod] at this
structure CO (x:List (List Int)) (n:Nat) (c:Nat → Nat → Int):Prop where
 len:x.length = n
 row:∀ i,i < n → ∃ r,x[i]? = some r ∧ r.length = n ∧ ∀ k,k < n → r[k]? = some (c i k)
 bd:∀ i k,i < n → k < n → 0 ≤ c i k ∧ c i k ≤ 2100000
 n1:1 ≤ n
 n12:n ≤ 12
theorem Oy {n:Nat} (h:n ≤ 12):1 ≤ 2 ^ n ∧ 2 ^ n ≤ 4096:=⟨Nat.one_le_two_pow,Nat.pow_le_pow_right (n:=2) (by omega) h⟩
def J9 (n:Nat) (c:Nat → Nat → Int) (m:Nat):List Int:=Qi n c m ++ List.replicate (2 ^ n - 1 - m) 0
theorem NR (n:Nat) (c:Nat → Nat → Int) {m:Nat} (h:m < 2 ^ n):(J9 n c m).length = 2 ^ n:=by
 unfold J9
 rw [CM,List.length_replicate,HJ]
 omega
theorem L8 (n:Nat) (c:Nat → Nat → Int) {m s:Nat} (e:s ≤ m):(J9 n c m)[s]? = some (VV n c s):=by
 unfold J9
 rw [List.getElem?_append_left (by rw [HJ]; omega)]
 exact Rz n c e
theorem Aab (n:Nat) (c:Nat → Nat → Int) {m:Nat} (h:m + 1 < 2 ^ n):(J9 n c m).set (m + 1) (VV n c (m + 1)) = J9 n c (m + 1):=by
 apply List.ext_getElem?
 intro i
 have l:=NR n c (m:=m) (by omega)
 have g:=NR n c h
 rcases Nat.lt_trichotomy i (m + 1) with f | f | f
 ·rw [List.getElem?_set_ne (by omega),L8 n c (by omega),L8 n c (by omega)]
 ·subst f
  rw [List.getElem?_set_self (by omega),L8 n c (Nat.le_refl _)]
 ·rw [List.getElem?_set_ne (by omega)]
  unfold J9
  rw [List.getElem?_append_right (by rw [HJ]; omega),List.getElem?_append_right (by rw [HJ]; omega),HJ,HJ,List.getElem?_replicate,List.getElem?_replicate]
  by_cases e:i - (m + 1) < 2 ^ n - 1 - m
  ·rw [if_pos e,if_pos (by omega)]
  ·rw [if_neg e,if_neg (by omega)]
theorem JZ (a b:Int):EP a b = some (min a b):=by
 unfold EP
 by_cases h:a < b
 ·rw [if_pos (by simpa using h),Int.min_eq_left (by omega)]
 ·rw [if_neg (by simpa using h),Int.min_eq_right (by omega)]
theorem Abv (a b:Int):Fn a b = min a b:=by
 unfold Fn
 by_cases h:b < a
 ·rw [if_pos h,Int.min_eq_right (by omega)]
 ·rw [if_neg h,Int.min_eq_left (by omega)]
theorem YO (x:List (List Int)) {n:Nat} (g:x.length = n) (hn:n ≤ 12) {s:Nat} (v:s < 1073741824) (l:List Int) (e:List Int → Int → Af (List Int)) :
  Ex x (s:Int) l e FU 0 0 = Option.bind (AM l (s:Int)) fun h=>Option.bind (AM x ((n:Int) - (Dh n s:Int))) fun f=>D0 f (s:Int) e FU (BG l (s:Int) 1000000000) 0:=by
 have:=ED (Ex x (s:Int) l e) n (fun k=>(Dh k s:Int)) (Option.bind (AM l (s:Int)) fun h=>Option.bind (AM x ((n:Int) - (Dh n s:Int))) fun f=>D0 f (s:Int) e FU (BG l (s:Int) 1000000000) 0) (by omega) (j:=0) (by omega) (fun m k _ hk=>?_) (fun m=>?_)
 ·simpa [Dh] using this
 ·have u:=LN k s
  rw [Ex,if_pos (by rw [g]; simp; omega),EM (by omega) (by omega),if_pos (by simp),WV v (by omega),AE (by omega),Ik]
  have hb:(s.testBit k).toNat ≤ 1:=by cases s.testBit k <;> simp
  rw [A8 (by omega) (by omega)]
  rfl
 ·have u:=LN n s
  rw [Ex,if_neg (by rw [g]; simp),g,A8 (by omega) (by omega)]
theorem Abl {x:List (List Int)} {n:Nat} {c:Nat → Nat → Int} (h:CO x n c) {m:Nat} (l:m + 1 < 2 ^ n) {r:List Int} (v:r.length = n) (hc:∀ k,k < n → r[k]? = some (c (n - Dh n (m + 1)) k)) (f:List Int → Int → Af (List Int)) :
  D0 r ((m + 1:Nat):Int) f FU (BG (J9 n c m) ((m + 1:Nat):Int) 1000000000) 0 = f (J9 n c (m + 1)) ((m + 2:Nat):Int):=by
 have ab:=Oy h.n12
 have hn:=h.n12
 have hp:0 < Dh n (m + 1):=by
  obtain ⟨k,g,u⟩:=N0 l (by omega)
  have:=NO g u
  omega
 have ai:=LN n (m + 1)
 have aj:=NR n c (m:=m) (by omega)
 have ac:=ED (D0 r ((m + 1:Nat):Int) f) n (fun k=>(J9 n c m).set (m + 1) (mf (m + 1).testBit (fun k=>c (n - Dh n (m + 1)) k + VV n c ((m + 1) ^^^ 2 ^ k)) Vn k)) (f (J9 n c (m + 1)) ((m + 2:Nat):Int)) (by omega) (j:=0) (by omega) (fun q k _ g=>?_) (fun q=>?_)
 ·rw [JX]
  exact ac
 ·have u:=h.bd (n - Dh n (m + 1)) k (by omega) g
  rw [D0,if_pos (by rw [v]; simp; omega)]
  unfold Bk
  dsimp only
  rw [AY,hc k g,Aa,EM (by omega) (by omega),if_pos (by simp),Uw (by omega) (by omega),N9]
  by_cases e:(m + 1).testBit k = true
  ·have hx:=Ls e
   have hv:=VK h.n12 h.bd (s:=(m + 1) ^^^ 2 ^ k) (by omega)
   have ag:2 ^ k ≤ 4096:=Aw (Nat.pow_le_pow_right (by omega) (by omega:k ≤ n)) ab.2
   rw [if_pos e,AY,List.getElem?_set_self (by omega),Aa,Lx (by omega),WU (by omega) (by omega),AY,List.getElem?_set_ne (by omega),L8 n c (by omega),Aa,A8 (x:=c _ k + _) (by omega) (by omega),JZ,Aa,Aa,JX,List.set_set,AE (by omega),if_pos e]
  ·rw [if_neg e,if_neg e,AE (by omega)]
 ·rw [D0,if_neg (by rw [v]; simp),← VJ n c (by omega),Aab n c l,A8 (by omega) (by omega)]
  rfl
theorem Wb {x:List (List Int)} {n:Nat} {c:Nat → Nat → Int} (h:CO x n c):JD x = some (J9 n c (2 ^ n - 1)):=by
 have ad:=Oy h.n12
 have hn:=h.n12
 unfold JD
 rw [h.len,EM (by omega) (by omega),if_pos (by simp),Lx (by omega),N8 (by omega),Aa]
 have f:List.replicate (2 ^ n) (0:Int) = J9 n c 0:=by
  unfold J9 Qi
  rw [show 2 ^ n = (2 ^ n - 1 - 0) + 1 by omega,List.replicate_succ]
  simp
 have l:=ED (EX x) (2 ^ n) (fun s=>J9 n c (s - 1)) (some (J9 n c (2 ^ n - 1))) (by omega) (j:=1) (by omega) (fun q s ag e=>?_) (fun q=>?_)
 ·rw [f]; exact l
 ·rw [EX,h.len,EM (by omega) (by omega),Lx (by omega),if_pos (decide_eq_true (Int.ofNat_lt.2 e)),YO x h.len h.n12 (by omega)]
  obtain ⟨m,rfl⟩:∃ m,s = m + 1:=⟨s - 1,by omega⟩
  have hp:0 < Dh n (m + 1):=by
   obtain ⟨k,hk,u⟩:=N0 e (by omega)
   have:=NO hk u
   omega
  have ah:=LN n (m + 1)
  have ai:=NR n c (m:=m) (by omega)
  obtain ⟨r,v,aa,g⟩:=h.row (n - Dh n (m + 1)) (by omega)
  rw [Nat.add_sub_cancel,Jo (by omega),Aa,show (n:Int) - (Dh n (m + 1):Int) = ((n - Dh n (m + 1):Nat):Int) by omega,AY,v,Aa,Abl h e aa g]
  rfl
 ·rw [EX,h.len,EM (by omega) (by omega),Lx (by omega),if_neg (by simp)]
theorem XF {n s:Nat} (e:s < 2 ^ n):∀ m,Dh (n + m) s = Dh n s
 | 0=>rfl
 | m + 1=>by
  rw [← Nat.add_assoc,Ik,XF e m,Nat.testBit_lt_two_pow (Nat.lt_of_lt_of_le e (Nat.pow_le_pow_right (by omega) (by omega)))]
  rfl
theorem Aac {n s:Nat} (e:n ≤ 12) (f:s < 2 ^ n):H4 ((2 ^ n - 1 - s:Nat):Int) = some ((n - Dh n s:Nat):Int):=by
 have g:=Oy e
 rw [Yk _ (by omega)]
 have h1:=XF (n:=n) (s:=2 ^ n - 1 - s) (by omega) (12 - n)
 rw [show n + (12 - n) = 12 by omega] at h1
 have h:=Ur f n (Nat.le_refl _)
 rw [h1,show Dh n (2 ^ n - 1 - s) = n - Dh n s by omega]
theorem Ab1 {x:List (List Int)} {n:Nat} {c:Nat → Nat → Int} (h:CO x n c) {s:Nat} (h0:0 < s) (u:s < 2 ^ n) (g:List Int → Int → Af (List Int)) :
  DG x ((2 ^ n - 1 - s:Nat):Int) ((n - Dh n s:Nat):Int) g FU (BG (KA n c (s - 1)) ((2 ^ n - 1 - s:Nat):Int) 13194139533312) 0 = g (KA n c s) (Ag (((2 ^ n - 1 - s:Nat):Int) - 1)):=by
 have ae:=Oy h.n12
 have hn:=h.n12
 obtain ⟨j,l,v⟩:=N0 u h0
 have hp:0 < Dh n s:=by
  have:=NO l v
  omega
 have am:=LN n s
 have ao:=PX n c (m:=s - 1) (by omega)
 obtain ⟨r,hr,ap,aj⟩:=h.row (n - Dh n s) (by omega)
 have aa:∀ k,k < n → s.testBit k = true → 0 ≤ c (n - Dh n s) k + VV n c (s ^^^ 2 ^ k) ∧ c (n - Dh n s) k + VV n c (s ^^^ 2 ^ k) ≤ 27300000:=fun k f e=>by
  have hx:=Ls e
  have hb:=h.bd (n - Dh n s) k (by omega) f
  have hv:=VK h.n12 h.bd (s:=s ^^^ 2 ^ k) (by omega)
  omega
 have ac:=ED (DG x ((2 ^ n - 1 - s:Nat):Int) ((n - Dh n s:Nat):Int) g) n (fun k=>(KA n c (s - 1)).set (2 ^ n - 1 - s) (mf s.testBit (fun k=>c (n - Dh n s) k + VV n c (s ^^^ 2 ^ k)) 13194139533312 k)) (g (KA n c s) (Ag (((2 ^ n - 1 - s:Nat):Int) - 1))) (by omega) (j:=0) (by omega) (fun q k _ f=>?_) (fun q=>?_)
 ·rw [JX]
  exact ac
 ·have hb:=h.bd (n - Dh n s) k (by omega) f
  have al:2 ^ k ≤ 4096:=Aw (Nat.pow_le_pow_right (by omega) (by omega:k ≤ n)) ae.2
  rw [DG,if_pos (by rw [h.len]; simp; omega)]
  unfold Bk
  dsimp only
  rw [if_pos (by simp),XV (by omega) (by omega),Pu u f,Bool.not_not,N9]
  by_cases e:s.testBit k = true
  ·have hx:=Ls e
   have hv:=aa k f e
   rw [if_pos e,AY,List.getElem?_set_self (by omega),Aa,AY,hr,Aa,AY,aj k f,Aa,Lx (by omega),Y7 (by omega) (by omega),WO u f e,AY,List.getElem?_set_ne (by omega),MF n c (by omega) (by omega),Aa,Aa,JX,List.set_set,AE (by omega),if_pos e,A8 (by omega) (by omega),Abv]
  ·rw [if_neg e,if_neg e,AE (by omega)]
 ·have e:=aa j l v
  rw [DG,if_neg (by rw [h.len]; simp),Ac2 (b:=Vn) l v (by omega) (by unfold Vn; omega),← VJ n c h0]
  have:=Aaw n c (m:=s - 1) (by omega)
  rw [show s - 1 + 1 = s by omega] at this
  rw [this]
theorem Ua {x:List (List Int)} {n:Nat} {c:Nat → Nat → Int} (h:CO x n c):IE x = some (KA n c (2 ^ n - 1)):=by
 have aa:=Oy h.n12
 have v:=h.n12
 have g:=h.n1
 have ab:2 ≤ 2 ^ n:=Aw (by decide:2 ≤ 2 ^ 1) (Nat.pow_le_pow_right (by omega) g)
 unfold IE
 rw [h.len,if_pos (by simp),Lx (by omega),N8 (by omega),Aa]
 have f:List.replicate (2 ^ n) (0:Int) = KA n c 0:=by
  unfold KA Qi
  rw [show [(0:Int)].reverse = List.replicate 1 0 by rfl,List.replicate_append_replicate,show 2 ^ n - 1 - 0 + 1 = 2 ^ n by omega]
 have u:=ED (fun m l (k:Int)=>Ev x m l (((2 ^ n - 1:Nat):Int) - k)) (2 ^ n) (fun s=>KA n c (s - 1)) (some (KA n c (2 ^ n - 1))) (by omega) (j:=1) (by omega) (fun q s ac e=>?_) (fun q=>?_)
 ·rw [f,A8 (by omega) (by omega),show ((2 ^ n:Nat):Int) - 2 = ((2 ^ n - 1:Nat):Int) - ((1:Nat):Int) by omega]
  exact u
 ·have ad:=LN n s
  have ae:=PX n c (m:=s - 1) (by omega)
  rw [show ((2 ^ n - 1:Nat):Int) - (s:Int) = ((2 ^ n - 1 - s:Nat):Int) by omega,Ev,if_pos (by simp),EM (by omega) (by omega),Aac h.n12 e,Aa,Jo (by omega),Aa,Ab1 h (by omega) e,A8 (by omega) (by omega),show ((2 ^ n - 1 - s:Nat):Int) - 1 = ((2 ^ n - 1:Nat):Int) - ((s + 1:Nat):Int) by omega]
  rfl
 ·rw [Ev,if_neg (by rw [C7]; omega)]
def Pq (n:Nat) (c:Nat → Nat → Int) (r s k:Nat):Bool:=s.testBit k && decide (c r k + VV n c (s ^^^ 2 ^ k) = VV n c s)
def Pp (n:Nat) (c:Nat → Nat → Int) (r s:Nat):Nat:=((List.range n).find? (Pq n c r s)).getD 0
def EK (n:Nat) (c:Nat → Nat → Int):Nat → Nat
 | 0=>2 ^ n - 1
 | r + 1=>EK n c r ^^^ 2 ^ Pp n c r (EK n c r)
def KN (n:Nat) (c:Nat → Nat → Int) (r:Nat):List Int:=(List.range r).map fun i=>(Pp n c i (EK n c i):Int)
theorem Va (n:Nat) (c:Nat → Nat → Int) (r:Nat):KN n c (r + 1) = KN n c r ++ [(Pp n c r (EK n c r):Int)]:=by
 unfold KN
 rw [List.range_succ,List.map_append]
 rfl
theorem NQ (n:Nat) (c:Nat → Nat → Int) (r:Nat):(KN n c r).length = r:=by unfold KN; simp
theorem Aak (n:Nat):Dh n (2 ^ n - 1) = n:=by
 have h1:=Ur (n:=n) (s:=0) (Nat.two_pow_pos n) n (Nat.le_refl _)
 rw [UY] at h1
 simpa using h1
theorem US {x:List (List Int)} {n:Nat} {c:Nat → Nat → Int} (h:CO x n c):∀ r,r ≤ n → (EK n c r < 2 ^ n ∧ Dh n (EK n c r) = n - r) ∧ (r < n → (List.range n).find? (Pq n c r (EK n c r)) = some (Pp n c r (EK n c r)) ∧ Pp n c r (EK n c r) < n ∧ (EK n c r).testBit (Pp n c r (EK n c r)) = true):=by
 have al:=Oy h.n12
 have m:∀ r s,r < n → s < 2 ^ n → Dh n s = n - r → (List.range n).find? (Pq n c r s) = some (Pp n c r s) ∧ Pp n c r s < n ∧ s.testBit (Pp n c r s) = true:=by
  intro r s g u f
  have h0:=Abt u (by omega)
  obtain ⟨k,hk,hb,he⟩:=(XW h.n12 h.bd s s (Nat.le_refl _) u).2 h0
  rw [f,show n - (n - r) = r by omega] at he
  cases l:(List.range n).find? (Pq n c r s) with
  | none =>
   have:=List.find?_eq_none.1 l k (List.mem_range.2 hk)
   unfold Pq at this
   simp [hb,he] at this
  | some j =>
   have f:=List.find?_some l
   have hj:j < n:=List.mem_range.1 (List.mem_of_find?_eq_some l)
   have e:Pp n c r s = j:=by unfold Pp; rw [l]; rfl
   rw [e]
   unfold Pq at f
   rw [Cg] at f
   exact ⟨rfl,hj,f.1⟩
 intro r
 induction r with
 | zero =>
  intro _
  have h1:EK n c 0 < 2 ^ n ∧ Dh n (EK n c 0) = n - 0:=⟨by unfold EK; omega,Aak n⟩
  exact ⟨h1,fun g=>m 0 _ g h1.1 h1.2⟩
 | succ r ih =>
  intro g
  obtain ⟨⟨i1,i2⟩,i3⟩:=ih (by omega)
  obtain ⟨_,i4,v⟩:=i3 (by omega)
  have h1:EK n c (r + 1) < 2 ^ n ∧ Dh n (EK n c (r + 1)) = n - (r + 1):=by
   have hx:=Ls v
   have f:=NO i4 v
   refine ⟨by unfold EK; omega,by unfold EK; omega⟩
  exact ⟨h1,fun g=>m (r + 1) _ g h1.1 h1.2⟩
theorem Zy (p:Nat → Bool) (k:Nat):(List.range (k + 1)).find? p = match (List.range k).find? p with
  | some j=>some j
  | none=>if p k = true then some k else none:=by
 rw [List.range_succ,List.find?_append]
 cases (List.range k).find? p with
 | some j=>rfl
 | none =>
  rw [Option.none_or,List.find?_cons]
  cases p k <;> rfl
def Ud (o:Af Nat):Int:=match o with
 | some j=>(j:Int)
 | none=>-1
theorem Wc {x:List (List Int)} {n:Nat} {c:Nat → Nat → Int} (h:CO x n c):JE x = some (KN n c n,VV n c (2 ^ n - 1)):=by
 have v:=Oy h.n12
 have hn:=h.n12
 have aa:=NR n c (m:=2 ^ n - 1) (by omega)
 unfold JE
 rw [Wb h,Aa,aa,A8 (by omega) (by omega),show ((2 ^ n:Nat):Int) - 1 = ((2 ^ n - 1:Nat):Int) by omega]
 have ac:=ED (fun m (s:Int × List Int) k=>DT x (J9 n c (2 ^ n - 1)) m s.1 s.2 k) n (fun r=>((EK n c r:Int),KN n c r)) (some (KN n c n,VV n c (2 ^ n - 1))) (by omega) (j:=0) (by omega) (fun q r _ g=>?_) (fun q=>?_)
 ·exact ac
 ·dsimp only
  obtain ⟨l,ag,ab,ai⟩:=h.row r g
  obtain ⟨⟨i1,i2⟩,i3⟩:=US h r (by omega)
  obtain ⟨i6,i4,i5⟩:=i3 g
  rw [DT,if_pos (by rw [h.len]; simp; omega),AY,ag,Aa]
  have II:=ED (EY l (EK n c r:Int) (J9 n c (2 ^ n - 1)) (KN n c r) (DT x (J9 n c (2 ^ n - 1)) q) (r:Int)) n (fun k=>Ud ((List.range k).find? (Pq n c r (EK n c r)))) (DT x (J9 n c (2 ^ n - 1)) q (EK n c (r + 1):Int) (KN n c (r + 1)) ((r + 1:Nat):Int)) (by omega) (j:=0) (by omega) (fun q k _ u=>?_) (fun q=>?_)
  ·exact II
  ·have hb:=h.bd r k g u
   rw [EY,if_pos (by rw [ab]; simp; omega)]
   unfold Bk
   dsimp only
   rw [AY,ai k u,Aa,Zy]
   cases hf:(List.range k).find? (Pq n c r (EK n c r)) with
   | some j =>
    unfold Ud
    dsimp only
    rw [if_neg (by simp),if_neg (by simp),AE (by omega)]
   | none =>
    unfold Ud
    dsimp only
    have ad:2 ^ k ≤ 4096:=Aw (Nat.pow_le_pow_right (by omega) (by omega:k ≤ n)) v.2
    rw [if_pos (by simp),EM (by omega) (by omega),if_pos (by simp),Uw (by omega) (by omega)]
    by_cases e:(EK n c r).testBit k = true
    ·have hx:=Ls e
     have hv:=VK h.n12 h.bd (s:=EK n c r ^^^ 2 ^ k) (by omega)
     rw [if_pos e,AY,L8 n c (by omega),Aa,Lx (by omega),WU (by omega) (by omega),AY,L8 n c (by omega),Aa,A8 (by omega) (by omega),AE (by omega)]
     unfold Pq
     rw [e,Bool.true_and]
     by_cases f:c r k + VV n c (EK n c r ^^^ 2 ^ k) = VV n c (EK n c r)
     ·rw [if_pos (by simpa using f),if_pos (by simpa using f)]
     ·rw [if_neg (by simpa using f),if_neg (by simpa using f)]
    ·rw [if_neg e,if_neg (by simp),AE (by omega),if_neg]
     unfold Pq
     simp [e]
  ·have ad:2 ^ Pp n c r (EK n c r) ≤ 4096:=Aw (Nat.pow_le_pow_right (by omega) (by omega:Pp n c r (EK n c r) ≤ n)) v.2
   rw [EY,if_neg (by rw [ab]; simp),i6]
   unfold Ud
   dsimp only
   rw [Br (by rw [NQ]; simp; omega),Aa,EM (by omega) (by omega),if_pos (by simp),Lx (by omega),WU (by omega) (by omega),AE (by omega),Va]
   rfl
 ·dsimp only
  rw [DT,if_neg (by rw [h.len]; simp),aa,A8 (by omega) (by omega),show ((2 ^ n:Nat):Int) - 1 = ((2 ^ n - 1:Nat):Int) by omega,AY,L8 n c (by omega),Aa]
theorem QS {x:List (List Int)} {n:Nat} {c:Nat → Nat → Int} (h:CO x n c):GS x = some (KN n c n):=by
 have ae:=Oy h.n12
 have hn:=h.n12
 unfold GS
 rw [Ua h,Aa]
 have v:=ED (fun m (s:Int × List Int) k=>Dx x (KA n c (2 ^ n - 1)) m s.1 s.2 k) n (fun r=>(((2 ^ n - 1 - EK n c r:Nat):Int),KN n c r)) (some (KN n c n)) (by omega) (j:=0) (by omega) (fun q r _ hr=>?_) (fun q=>?_)
 ·have e:((2 ^ n - 1 - EK n c 0:Nat):Int) = 0:=by unfold EK; omega
  dsimp only at v
  rw [e] at v
  exact v
 ·dsimp only
  obtain ⟨ab,ah,aq,aj⟩:=h.row r hr
  obtain ⟨⟨l,i2⟩,i3⟩:=US h r (by omega)
  obtain ⟨i6,i4,i5⟩:=i3 hr
  rw [Dx,if_pos (by rw [h.len]; simp; omega)]
  unfold Gk
  dsimp only
  have II:=fun (u:Int → List Int → Af (List Int))=>Tn (Dw x (KN n c r) u ((2 ^ n - 1 - EK n c r:Nat):Int) (r:Int) (KA n c (2 ^ n - 1))) n (Pq n c r (EK n c r)) (fun k=>u (((2 ^ n - 1 - EK n c r:Nat) ||| 2 ^ k:Nat):Int) (KN n c r ++ [(k:Int)])) (u ((2 ^ n - 1 - EK n c r:Nat):Int) (KN n c r)) (by omega) (fun q k g=>?_) (fun q=>?_)
  ·rw [II,i6]
   dsimp only
   rw [WO l i4 i5,AE (by omega),Va]
   rfl
  ·have hb:=h.bd r k hr g
   have al:2 ^ k ≤ 4096:=Aw (Nat.pow_le_pow_right (by omega) (by omega:k ≤ n)) ae.2
   rw [Dw,if_pos (by rw [h.len]; simp; omega)]
   unfold Bk
   dsimp only
   rw [if_pos (by simp),XV (by omega) (by omega),Pu l g,Bool.not_not]
   by_cases f:(EK n c r).testBit k = true
   ·have hx:=Ls f
    have hv:=VK h.n12 h.bd (s:=EK n c r ^^^ 2 ^ k) (by omega)
    rw [if_pos f,AY,ah,Aa,AY,aj k g,Aa,AY,MF n c (by omega) (by omega),Aa,Lx (by omega),Y7 (by omega) (by omega),WO l g f,AY,MF n c (by omega) (by omega),Aa,A8 (by omega) (by omega),AE (by omega),Br (by rw [NQ]; simp; omega),Aa,if_pos (c:=decide (0 ≤ (k:Int)) = true) (by simp)]
    unfold Pq
    rw [f,Bool.true_and]
    rfl
   ·rw [if_neg f,if_neg (by simp),AE (by omega),if_neg]
    unfold Pq
    simp [f]
  ·rw [Dw,if_neg (by rw [h.len]; simp)]
 ·dsimp only
  rw [Dx,if_neg (by rw [h.len]; simp)]
theorem Nx (c:List (Int × Int)) (h:c.length ≤ 1048576):Gl c = some c:=by
 unfold Gl
 rw [WZ (by simp; omega)]
 rfl
theorem SW (c:List Int) (h:c.length ≤ 1048576):JF c = some c:=by
 unfold JF
 rw [WZ (by simp; omega)]
 rfl
theorem Nd (c:List Int) (h:c.length ≤ 1048576):Ft c = some c:=by
 unfold Ft
 rw [WZ (by simp; omega)]
 rfl
def Ad8 (x:T3) (p n:Int):T3:=(x.1,BG x.2.1 p n,x.2.2.1,x.2.2.2)
theorem Yf (l:List Int) (n:Int) (h:l.length < 4611686018427387904):KU l n = some (l.any (· == n)):=by
 unfold KU
 rw [O2 (FZ l n) l (fun u=>!(u == n)) (some false) (some true) h (fun m k u f e=>?_) (fun m=>?_)]
 ·have:l.any (· == n) = !l.all (fun u=>!(u == n)):=by simp [List.any_eq_not_all_not]
  rw [this]
  cases l.all (fun u=>!(u == n)) <;> simp
 ·rw [FZ,if_pos (by simp; omega),AY,e,Aa,AE (by omega)]
  cases u == n <;> simp
 ·rw [FZ,if_neg (by simp)]
abbrev BU:=Ae1 × Ae1 × Int × (List Int)
def IK (l:List Int) (i:Nat):Int:=(l[i]?).getD 0
theorem JB {l:List Int} {i:Nat} (h:i < l.length):l[i]? = some (IK l i):=by unfold IK; rw [Cp h]; rfl
def OT (l:List Int) (n:Nat) (i:Nat):Bool:=BK (IK l i) 0 ((n:Int) - 1) && !(l.take i).any (· == IK l i)
def R3 (l:List Int) (n:Nat):Bool:=(List.range l.length).all (OT l n) && ((l.length:Int) == (n:Int))
theorem Vs {l:List Int} {n:Nat} (f:l.length < 4611686018427387904) (g:n ≤ 12):Jt l (n:Int) = some (R3 l n):=by
 unfold Jt R3
 rw [O1 (E9 l (n:Int)) l.length (OT l n) (some ((l.length:Int) == (n:Int))) (some false) f (fun m k e=>?_) (fun m=>?_)]
 ·cases (List.range l.length).all (OT l n) <;> simp
 ·rw [E9,if_pos (by simp; omega),AY,JB e,Aa]
  unfold Bk OT
  dsimp only
  rw [CU,Aa,A8 (by omega) (by omega),LM _ (by omega),Aa,Yf _ _ (by simp; omega),Aa,AE (by omega)]
  cases BK (IK l k) 0 ((n:Int) - 1) with
  | false=>rfl
  | true=>cases (l.take k).any (· == IK l k) <;> rfl
 ·rw [E9,if_neg (by simp)]
def QB (l:List Int) (i:Nat):Nat:=(l.take i).foldl (fun a k=>a ||| 2 ^ k.toNat) 0
theorem UP {l:List Int} {i:Nat} (h:i < l.length):QB l (i + 1) = QB l i ||| 2 ^ (IK l i).toNat:=by
 unfold QB
 rw [List.take_add_one,JB h,List.foldl_append]
 rfl
theorem SR {l:List Int} {n:Nat} (f:n ≤ 12):∀ i,i ≤ l.length → (∀ j,j < i → OT l n j = true) → QB l i < 2 ^ 12 ∧ ∀ b:Nat,(QB l i).testBit b = (l.take i).any (· == (b:Int))
 | 0,_,_=>⟨by unfold QB; simp,fun b=>by unfold QB; simp⟩
 | i + 1,h,hk=>by
  obtain ⟨h1,g⟩:=SR f i (by omega) (fun j s=>hk j (by omega))
  have e:=hk i (by omega)
  unfold OT at e
  rw [Cg,D9] at e
  have m:2 ^ (IK l i).toNat < 2 ^ 12:=Nat.pow_lt_pow_right (by omega) (by omega)
  rw [UP (by omega)]
  refine ⟨Nat.or_lt_two_pow h1 m,fun b=>?_⟩
  rw [Nat.testBit_or,g,Nat.testBit_two_pow,List.take_add_one,JB (by omega),List.any_append]
  congr 1
  rw [Bool.eq_iff_iff]
  simp
  omega
theorem Tt {l:List Int} {n:Nat} (hl:l.length < 4611686018427387904) (h:n ≤ 12):Ig l (n:Int) = some (R3 l n):=by
 unfold Ig R3
 have:=Ac3 (Ef l (n:Int)) l.length (OT l n) (fun i=>(QB l i:Int)) (some ((l.length:Int) == (n:Int))) (some false) hl (fun m k g s=>?_) (fun m=>?_)
 ·refine Eq.trans this ?_
  cases (List.range l.length).all (OT l n) <;> simp
 ·obtain ⟨h1,u⟩:=SR h k (by omega) s
  rw [Ef,if_pos (by simp; omega),AY,JB g,Aa]
  unfold Bk OT
  dsimp only
  rw [CT,Aa,A8 (by omega) (by omega),AE (by omega)]
  cases ho:BK (IK l k) 0 ((n:Int) - 1) with
  | false=>rfl
  | true =>
   have v:=D9.1 ho
   have e:IK l k = ((IK l k).toNat:Int):=by omega
   have hp:2 ^ (IK l k).toNat < 2 ^ 12:=Nat.pow_lt_pow_right (by omega) (by omega)
   have f:=u (IK l k).toNat
   rw [← e] at f
   rw [if_neg (by simp),if_pos (by simpa using v.1)]
   conv=>lhs; rw [e]
   rw [Uw (by omega) (by omega),Lx (by omega),Y7 (by omega) (by omega),f,UP g]
   cases (l.take k).any (· == IK l k)
   ·rw [if_neg (by simp),if_pos (decide_eq_true (Int.natCast_nonneg _)),if_pos (by simp)]
   ·simp
 ·rw [Ef,if_neg (by simp)]
def LG (a b:List (Int × Int)) (n:Int):Bool:=Cu a && (Cu b && (((a.length:Int) == (b.length:Int)) && BK n 1 64))
theorem Pt {a b:List (Int × Int)} {n:Int} (f:a.length < 4611686018427387904) (e:b.length < 4611686018427387904):H2 a b n = some (LG a b n):=by
 unfold H2 Bk LG
 dsimp only
 rw [GO a f,Aa,GO b e,CT,Aa,Aa]
 cases Cu a <;> cases Cu b <;> cases ((a.length:Int) == (b.length:Int)) <;> rfl
theorem RU {a b:List (Int × Int)} (f:a.length < 4611686018427387904) (e:b.length < 4611686018427387904):Jd a b = some (Cu a && (Cu b && ((a.length:Int) == (b.length:Int)))):=by
 unfold Jd Bk
 dsimp only
 rw [J3 a f,Aa,J3 b e,Aa]
 cases Cu a <;> cases Cu b <;> rfl
theorem QD {a b:List (Int × Int)} {n:Int} (f:a.length < 4611686018427387904) (e:b.length < 4611686018427387904):Iy a b n = some (LG a b n):=by
 unfold Iy Bk LG
 dsimp only
 rw [RU f e,Aa,CU,Aa]
 cases Cu a <;> cases Cu b <;> cases ((a.length:Int) == (b.length:Int)) <;> rfl
structure Aa4 (a b:List (Int × Int)) (n:Int):Prop where
 ca:Cu a = true
 cb:Cu b = true
 le:a.length = b.length
 l1:1 ≤ a.length
 l12:a.length ≤ 12
 n1:1 ≤ n
 n64:n ≤ 64
theorem LF {a b:List (Int × Int)} {n:Int}:LG a b n = true ↔ Aa4 a b n:=by
 unfold LG
 rw [Cg,Cg,Cg,D9,beq_iff_eq]
 constructor
 ·rintro ⟨h1,f,g,e⟩
  have:=Dc h1
  exact ⟨h1,f,by omega,this.1,this.2,e.1,e.2⟩
 ·rintro h
  exact ⟨h.ca,h.cb,by have:=h.le; omega,h.n1,h.n64⟩
def Ln (t:BU):Bool:=LG t.1 t.2.1 t.2.2.1 && R3 t.2.2.2 t.1.length
theorem Lo {t:BU} (h1:t.1.length < 4611686018427387904) (f:t.2.1.length < 4611686018427387904) (e:t.2.2.2.length < 4611686018427387904):Fp t = some (Ln t):=by
 unfold Fp Bk Ln LG
 dsimp only
 rw [GO _ h1,Aa,GO _ f,CT,Aa,Aa]
 cases g:Cu t.1 with
 | false=>rfl
 | true =>
  rw [Tt e (Dc g).2,Aa]
  cases Cu t.2.1 <;> cases ((t.1.length:Int) == (t.2.1.length:Int)) <;> cases BK t.2.2.1 1 64 <;> rfl
theorem OM {t:BU} (h1:t.1.length < 4611686018427387904) (f:t.2.1.length < 4611686018427387904) (e:t.2.2.2.length < 4611686018427387904):HX t = some (Ln t):=by
 unfold HX Bk Ln LG
 dsimp only
 rw [RU h1 f,Aa,CU,Aa]
 cases g:Cu t.1 with
 | false=>rfl
 | true =>
  rw [Vs e (Dc g).2,Aa]
  cases Cu t.2.1 <;> cases ((t.1.length:Int) == (t.2.1.length:Int)) <;> cases BK t.2.2.1 1 64 <;> rfl
def Qk:BU:=([],[],0,[])
def QL (n:Nat):List Int:=(List.range n).map fun (i:Nat)=>(i:Int)
def Em (a b:List (Int × Int)) (n:Int):BU × Bool:=if LG a b n = true then ((a,b,n,QL a.length),true) else (Qk,false)
theorem KP {a b:List (Int × Int)} {n:Int} {p:List Int} (f:a.length ≤ 1000) (e:b.length ≤ 1000) (g:p.length ≤ 1000):EI a b n p = some (a,b,n,p):=by
 unfold EI
 rw [Br (by simp; omega),Aa,Br (by simp; omega),Aa,Nd _ (by omega),Aa,List.nil_append,List.nil_append]
theorem OL {a b:List (Int × Int)} {n:Int} {p:List Int} (f:a.length ≤ 1000) (e:b.length ≤ 1000) (g:p.length ≤ 1000):HW a b n p = some (a,b,n,p):=by
 unfold HW
 rw [Nx _ (by omega),Aa,Nx _ (by omega),Aa,SW _ (by omega),Aa]
theorem NP (n:Nat):(QL n).length = n:=by unfold QL; simp
theorem UZ (n:Nat):QL (n + 1) = QL n ++ [(n:Int)]:=by unfold QL; rw [List.range_succ,List.map_append]; rfl
theorem Mg {a b:List (Int × Int)} {n:Int} (g:a.length < 4611686018427387904) (e:b.length < 4611686018427387904):EQ a b n = some (Em a b n):=by
 unfold EQ Em
 rw [Pt g e,Aa]
 cases h:LG a b n with
 | false=>rfl
 | true =>
  have f:=LF.1 h
  have:=f.l12
  have:=f.le
  rw [if_neg (by simp),if_pos rfl]
  refine ED (Dg a b n) a.length QL _ (by omega) (j:=0) (by omega) (fun m k _ l=>?_) (fun m=>?_)
  ·rw [Dg,if_pos (by simp; omega),Br (by simp [NP]; omega),Aa,AE (by omega),UZ]
  ·rw [Dg,if_neg (by simp),KP (by omega) (by omega) (by rw [NP]; omega),Aa]
theorem LT {a b:List (Int × Int)} {n:Int} (g:a.length < 4611686018427387904) (e:b.length < 4611686018427387904):Gm a b n = some (Em a b n):=by
 unfold Gm Em
 rw [QD g e,Aa]
 cases h:LG a b n with
 | false=>rfl
 | true =>
  have f:=LF.1 h
  have:=f.l12
  have:=f.le
  rw [if_neg (by simp),if_pos rfl]
  refine ED (Df a b n) a.length QL _ (by omega) (j:=0) (by omega) (fun m k _ l=>?_) (fun m=>?_)
  ·rw [Df,if_pos (by simp; omega),Br (by simp [NP]; omega),Aa,AE (by omega),UZ]
  ·rw [Df,if_neg (by simp),OL (by omega) (by omega) (by rw [NP]; omega),Aa]
structure XX (t:BU):Prop where
 can:Aa4 t.1 t.2.1 t.2.2.1
 mat:t.2.2.2.length = t.1.length
 inR:∀ i,i < t.1.length → 0 ≤ IK t.2.2.2 i ∧ (IK t.2.2.2 i).toNat < t.2.1.length
theorem NU {t:BU} (h:Ln t = true):XX t:=by
 unfold Ln R3 at h
 rw [Cg,Cg,List.all_eq_true,beq_iff_eq] at h
 obtain ⟨h1,g,l⟩:=h
 have f:=LF.1 h1
 refine ⟨f,by omega,fun i m=>?_⟩
 have e:=g i (List.mem_range.2 (by omega))
 unfold OT at e
 rw [Cg,D9] at e
 have:=f.le
 omega
def DW (l:List (Int × Int)) (i:Nat):Int × Int:=(l[i]?).getD (0,0)
theorem Dq {l:List (Int × Int)} {i:Nat} (h:i < l.length):l[i]? = some (DW l i):=by unfold DW; rw [Cp h]; rfl
theorem I3 {l:List (Int × Int)} (h:Cu l = true) {i:Nat} (e:i < l.length):CX (DW l i) = true:=(I4.1 h).2.1 _ (List.mem_of_getElem? (Dq e))
def Hi (t:BU) (i:Nat):FX:=(DW t.1 i,DW t.2.1 (IK t.2.2.2 i).toNat,t.2.2.1)
def G3 (t:BU):List FX:=(List.range t.1.length).map (Hi t)
theorem DY (t:BU):(G3 t).length = t.1.length:=by unfold G3; simp
theorem Is (t:BU) {i:Nat} (h:i < t.1.length):(G3 t)[i]? = some (Hi t i):=by unfold G3; simp [h]
theorem Wx (t:BU) (k:Nat):(List.range (k + 1)).map (Hi t) = (List.range k).map (Hi t) ++ [Hi t k]:=by rw [List.range_succ,List.map_append]; rfl
theorem JY {t:BU} (f:XX t) {i:Nat} (h:i < t.1.length):I5 (Hi t i):=⟨I3 f.can.ca h,I3 f.can.cb (f.inR i h).2⟩
theorem Oa {t:BU} (f:XX t):H1 t = some (G3 t):=by
 unfold H1
 have:=f.can.l12
 refine ED (Fj t) t.1.length (fun k=>(List.range k).map (Hi t)) _ (by omega) (j:=0) (by omega) (fun m k _ g=>?_) (fun m=>?_)
 ·have h:=f.mat
  have e:=f.inR k g
  rw [Fj,if_pos (by simp; omega),AY,JB (by omega),Aa,AY,Dq g,Aa,It e.1,Dq e.2,Aa,Br (by simp; omega),Aa,AE (by omega),Wx]
  rfl
 ·rw [Fj,if_neg (by rw [f.mat]; simp)]
  rfl
theorem LS {t:BU} (f:XX t):GA t = some (G3 t):=by
 unfold GA
 have:=f.can.l12
 refine ED (Ff t) t.1.length (fun k=>(List.range k).map (Hi t)) _ (by omega) (j:=0) (by omega) (fun m k _ g=>?_) (fun m=>?_)
 ·have h:=f.mat
  have e:=f.inR k g
  rw [Ff,if_pos (by simp; omega),AY,JB (by omega),Aa,AY,Dq g,Aa,It e.1,Dq e.2,Aa,Br (by simp; omega),Aa,AE (by omega),Wx]
  rfl
 ·rw [Ff,if_neg (by rw [f.mat]; simp)]
  rfl
theorem LL {a b:Int × Int} (f:CX a = true) (e:CX b = true):GJ a b = (a.1 - b.1) * (a.1 - b.1) + (a.2 - b.2) * (a.2 - b.2) ∧ 0 ≤ GJ a b ∧ GJ a b ≤ 2089984:=by
 have f:=FL.1 f
 have e:=FL.1 e
 have h1:=Mx (x:=a.1 - b.1) (A:=1280) (by omega) (by omega)
 have g:=Mx (x:=a.2 - b.2) (A:=672) (by omega) (by omega)
 unfold GJ
 rw [A8 (x:=a.1 - b.1) (by omega) (by omega),A8 (x:=a.2 - b.2) (by omega) (by omega)]
 generalize (a.1 - b.1) * (a.1 - b.1) = A at *
 generalize (a.2 - b.2) * (a.2 - b.2) = B at *
 rw [A8 (x:=A) (by omega) (by omega),A8 (x:=B) (by omega) (by omega),A8 (by omega) (by omega)]
 omega
def NK (t:BU) (k:Nat):Int:=((List.range k).map fun i=>ST (Hi t i)).sum
theorem QC (t:BU) (k:Nat):NK t (k + 1) = NK t k + ST (Hi t k):=by unfold NK; rw [List.range_succ,List.map_append,List.sum_append]; simp
theorem R0 {t:BU} (f:XX t):∀ k,k ≤ t.1.length → 0 ≤ NK t k ∧ NK t k ≤ 2089984 * (k:Int)
 | 0,_=>by simp [NK]
 | k + 1,h=>by
  have e:=R0 f k (by omega)
  have g:=JY f (i:=k) (by omega)
  have:=(LL g.1 g.2).2
  rw [QC]
  unfold ST
  omega
def M3 (t:BU):Int × Bool:=if Ln t = true then (NK t t.1.length,true) else (0,false)
theorem Ub {t:BU} (h1:t.1.length < 4611686018427387904) (s:t.2.1.length < 4611686018427387904) (v:t.2.2.2.length < 4611686018427387904):H3 t = some (M3 t):=by
 unfold H3 M3
 rw [Lo h1 s v,Aa]
 cases u:Ln t with
 | false=>rfl
 | true =>
  have f:=NU u
  have:=f.can.l12
  have e:IC t = some (NK t t.1.length):=by
   unfold IC
   refine ED (Et t) t.1.length (NK t) _ (by omega) (j:=0) (by omega) (fun m k _ h=>?_) (fun m=>?_)
   ·have hm:=f.mat
    have l:=f.inR k h
    have hb:=R0 f k (by omega)
    have g:=JY f h
    have hq:=(LL g.1 g.2).2
    have e:GJ (DW t.1 k) (DW t.2.1 (IK t.2.2.2 k).toNat) = ST (Hi t k):=rfl
    rw [Et,if_pos (by simp; omega),AY,JB (by omega),Aa,AY,Dq h,Aa,It l.1,Dq l.2,Aa,Hj,Aa,AE (by omega),e,A8 (by unfold ST; omega) (by unfold ST; omega),QC]
   ·rw [Et,if_neg (by rw [f.mat]; simp)]
  rw [if_neg (by simp),e,if_pos rfl]
  rfl
theorem TN {t:BU} (h1:t.1.length < 4611686018427387904) (l:t.2.1.length < 4611686018427387904) (u:t.2.2.2.length < 4611686018427387904):Hx t = some (M3 t):=by
 unfold Hx M3
 rw [OM h1 l u,Aa]
 cases s:Ln t with
 | false=>rfl
 | true =>
  have f:=NU s
  have:=f.can.l12
  have e:KW t = some (NK t t.1.length):=by
   unfold KW
   rw [LS f,Aa]
   refine ED (Gb (G3 t)) t.1.length (NK t) _ (by omega) (j:=0) (by omega) (fun m k _ h=>?_) (fun m=>?_)
   ·have hb:=R0 f k (by omega)
    have g:=JY f h
    have v:=(LL g.1 g.2).2
    have e:GJ (Hi t k).1 (Hi t k).2.1 = ST (Hi t k):=rfl
    rw [Gb,if_pos (by rw [DY]; simp; omega),AY,Is t h,Aa,L3,Aa,AE (by omega),e,A8 (by unfold ST; omega) (by unfold ST; omega),QC]
   ·rw [Gb,if_neg (by rw [DY]; simp)]
  rw [if_neg (by simp),e,if_pos rfl]
  rfl
def WN (a b:List (Int × Int)) (i k:Nat):Int:=GJ (DW a i) (DW b k)
def Nf (a b:List (Int × Int)) (i:Nat) (n:Nat):List Int:=(List.range n).map (WN a b i)
def Mi (a b:List (Int × Int)) (n:Nat):List (List Int):=(List.range n).map fun i=>Nf a b i b.length
theorem Vj (a b:List (Int × Int)) (i n:Nat):Nf a b i (n + 1) = Nf a b i n ++ [WN a b i n]:=by unfold Nf; rw [List.range_succ,List.map_append]; rfl
theorem Vk (a b:List (Int × Int)) (n:Nat):Mi a b (n + 1) = Mi a b n ++ [Nf a b n b.length]:=by unfold Mi; rw [List.range_succ,List.map_append]; rfl
theorem TY {a b:List (Int × Int)} (h:a.length ≤ 1000) (g:b.length ≤ 1000):IB a b = some (Mi a b a.length):=by
 unfold IB
 refine ED (DE a b) a.length (Mi a b) _ (by omega) (j:=0) (by omega) (fun m i _ f=>?_) (fun m=>?_)
 ·rw [DE,if_pos (by simp; omega),AY,Dq f,Aa]
  refine ED (Es b (DW a i) (Mi a b i) (DE a b m) (i:Int)) b.length (Nf a b i) _ (by omega) (j:=0) (by omega) (fun m k _ e=>?_) (fun m=>?_)
  ·rw [Es,if_pos (by simp; omega),AY,Dq e,Aa,Hj,Aa,Br (by simp [Nf]; omega),Aa,AE (by omega),Vj]
   rfl
  ·rw [Es,if_neg (by simp),Br (by simp [Mi]; omega),Aa,AE (by omega),Vk]
 ·rw [DE,if_neg (by simp)]
theorem Wd {a b:List (Int × Int)} (h:a.length ≤ 1000) (g:b.length ≤ 1000):JK a b = some (Mi a b a.length):=by
 unfold JK
 refine ED (Ey a b) a.length (Mi a b) _ (by omega) (j:=0) (by omega) (fun m i _ f=>?_) (fun m=>?_)
 ·rw [Ey,if_pos (by simp; omega),AY,Dq f,Aa]
  refine ED (Fg b (DW a i) (Mi a b i) (Ey a b m) (i:Int)) b.length (Nf a b i) _ (by omega) (j:=0) (by omega) (fun m k _ e=>?_) (fun m=>?_)
  ·rw [Fg,if_pos (by simp; omega),AY,Dq e,Aa,L3,Aa,Br (by simp [Nf]; omega),Aa,AE (by omega),Vj]
   rfl
  ·rw [Fg,if_neg (by simp),Br (by simp [Mi]; omega),Aa,AE (by omega),Vk]
 ·rw [Ey,if_neg (by simp)]
theorem Z0 {a b:List (Int × Int)} {n:Int} (f:Aa4 a b n):CO (Mi a b a.length) a.length (WN a b):=by
 have g:=f.le
 refine ⟨by simp [Mi],fun i e=>⟨Nf a b i b.length,by simp [Mi,e],by simp [Nf,g],fun k h=>?_⟩,fun i k e h=>?_,f.l1,f.l12⟩
 ·have:k < b.length:=by omega
  simp [Nf,this]
 ·have:=(LL (I3 f.ca e) (I3 f.cb (by omega:k < b.length))).2
  unfold WN
  omega
def Fy (a b:List (Int × Int)) (n:Int):BU × Bool:=if LG a b n = true then ((a,b,n,KN a.length (WN a b) a.length),true) else (Qk,false)
theorem PT {a b:List (Int × Int)} {n:Int} (g:a.length < 4611686018427387904) (e:b.length < 4611686018427387904):Gp a b n = some (Fy a b n):=by
 unfold Gp Fy
 rw [Pt g e,Aa]
 cases h:LG a b n with
 | false=>rfl
 | true =>
  have f:=LF.1 h
  have:=f.l12
  have:=f.le
  rw [if_neg (by simp),if_pos rfl,TY (by omega) (by omega),Aa,QS (Z0 f),Aa,KP (by omega) (by omega) (by rw [NQ]; omega),Aa]
theorem PG {a b:List (Int × Int)} {n:Int} (g:a.length < 4611686018427387904) (e:b.length < 4611686018427387904):Gn a b n = some (Fy a b n):=by
 unfold Gn Fy
 rw [QD g e,Aa]
 cases h:LG a b n with
 | false=>rfl
 | true =>
  have f:=LF.1 h
  have:=f.l12
  have:=f.le
  rw [if_neg (by simp),if_pos rfl,Wd (by omega) (by omega),Aa,Wc (Z0 f),Aa,OL (by omega) (by omega) (by rw [NQ]; omega),Aa]
structure SmT (t:BU):Prop where
 h1:t.1.length ≤ 12
 h2:t.2.1.length ≤ 12
 h3:t.2.2.2.length ≤ 12
theorem SmT.sum {t:BU} (h:SmT t):H3 t = some (M3 t) ∧ Hx t = some (M3 t):=by
 have:=h.h1
 have:=h.h2
 have:=h.h3
 exact ⟨Ub (by omega) (by omega) (by omega),TN (by omega) (by omega) (by omega)⟩
theorem Zm:SmT Qk:=⟨by simp [Qk],by simp [Qk],by simp [Qk]⟩
theorem Vb (a b:List (Int × Int)) (n:Int):SmT (Em a b n).1:=by
 unfold Em
 split
 ·rename_i h
  have f:=LF.1 h
  have:=f.l12
  have:=f.le
  exact ⟨by dsimp only; omega,by dsimp only; omega,by dsimp only; rw [NP]; omega⟩
 ·exact Zm
theorem Zq (a b:List (Int × Int)) (n:Int):SmT (Fy a b n).1:=by
 unfold Fy
 split
 ·rename_i h
  have f:=LF.1 h
  have:=f.l12
  have:=f.le
  exact ⟨by dsimp only; omega,by dsimp only; omega,by dsimp only; rw [NQ]; omega⟩
 ·exact Zm
theorem So:Ln Qk = false:=by decide
theorem Abo (t:BU):0 ≤ (M3 t).1 ∧ (M3 t).1 ≤ 100000000:=by
 unfold M3
 split
 ·rename_i h
  have f:=NU h
  have:=f.can.l12
  have:=R0 f t.1.length (by omega)
  dsimp only
  omega
 ·simp
def Wo (bad:Nat → Nat → Bool) (n i:Nat):List (List Int):=((List.range' (i + 1) (n - (i + 1))).filter (bad i)).map fun (k:Nat)=>[(i:Int),(k:Int)]
def J5 (bad:Nat → Nat → Bool) (n j:Nat):List (List Int):=(List.range j).foldl (fun s i=>s ++ Wo bad n i) []
theorem ZT (e:Nat → Nat → Bool) (n i:Nat):(Wo e n i).length ≤ n:=by
 unfold Wo
 rw [List.length_map]
 refine Aw (List.length_filter_le _ _) ?_
 simp
theorem PL (e:Nat → Nat → Bool) (n j:Nat):J5 e n (j + 1) = J5 e n j ++ Wo e n j:=by unfold J5; rw [List.range_succ,List.foldl_append]; rfl
theorem QM (e:Nat → Nat → Bool) (n:Nat):∀ j,(J5 e n j).length ≤ n * j
 | 0=>by simp [J5]
 | j + 1=>by
  have:=QM e n j
  have:=ZT e n j
  rw [PL,CM,Nat.mul_succ]
  omega
theorem Ny (F1:Nat → List (List Int) → Int → Af Ae6) (F2:(List (List Int) → Int → Af Ae6) → Nat → Nat → List (List Int) → Int → Af Ae6) (e:Nat → Nat → Bool) (n:Nat) (g:n ≤ 100)
  (h1:∀ m s i,i < n → F1 (m + 1) s (i:Int) = F2 (F1 m) i FU s ((i + 1:Nat):Int))
  (l:∀ nx i m s k,i < n → k < n → s.length ≤ 1000000 → F2 nx i (m + 1) s (k:Int) = F2 nx i m (if e i k then s ++ [[(i:Int),(k:Int)]] else s) ((k + 1:Nat):Int))
  (u:∀ nx i m s,i < n → F2 nx i (m + 1) s (n:Int) = nx s ((i + 1:Nat):Int))
  (h:∀ m s,F1 (m + 1) s (n:Int) = some s):F1 FU [] 0 = some (J5 e n n):=by
 refine ED F1 n (J5 e n) _ (by omega) (j:=0) (by omega) (fun m i _ f=>?_) (fun m=>h m _)
 have hl:=QM e n i
 have hm:n * i ≤ 100 * 100:=Nat.mul_le_mul g (by omega)
 rw [h1 m _ i f,Aae (F2 (F1 m) i) n 1000000 (e i) (fun (k:Nat)=>[(i:Int),(k:Int)]) (fun s=>F1 m s ((i + 1:Nat):Int)) (by omega) (fun q s k v hs=>l _ i q s k f v (by omega)) (fun q s=>u _ i q s f) (i + 1) (J5 e n i) (by omega) (by omega),PL]
 rfl
theorem Zj {e:Nat → Nat → Bool} {n j:Nat} {q:List Int} (h:q ∈ J5 e n j):∃ i k:Nat,q = [(i:Int),(k:Int)] ∧ i < j ∧ i < k ∧ k < n ∧ e i k = true:=by
 induction j with
 | zero=>cases h
 | succ j g =>
  rw [PL,AX] at h
  rcases h with h | h
  ·obtain ⟨i,k,h1,m,l⟩:=g h
   exact ⟨i,k,h1,by omega,l⟩
  ·unfold Wo at h
   obtain ⟨k,f,rfl⟩:=List.mem_map.1 h
   rw [List.mem_filter,List.mem_range'_1] at f
   exact ⟨j,k,rfl,by omega,by omega,by omega,f.2⟩
def XS (t:BU) (least:Int) (i k:Nat):Bool:=!Sk (Hi t i) (Hi t k) least
def Ld (t:BU) (least:Int):Ae6 × Bool:=if (Ln t && BK least 0 80) = true then (J5 (XS t least) t.1.length t.1.length,true) else ([],false)
theorem QV {t:BU} (h:SmT t) (g:Int):GW t g = some (Ld t g):=by
 have:=h.h1
 have:=h.h2
 have:=h.h3
 unfold GW Bk Ld
 dsimp only
 rw [Lo (by omega) (by omega) (by omega),Aa,QT,Aa]
 cases ho:Ln t with
 | false=>rfl
 | true =>
  cases l:BK g 0 80 with
  | false=>rfl
  | true =>
   have f:=NU ho
   have e:GV t g = some (J5 (XS t g) t.1.length t.1.length):=by
    unfold GV
    rw [Oa f,Aa]
    refine Ny (Dz (G3 t) g) (fun u i=>Dy (G3 t) (i:Int) g u) _ _ (by omega) (fun m s i l=>?_) (fun u i m s k l v hs=>?_) (fun u i m s l=>?_) (fun m s=>?_)
    ·rw [Dz,if_pos (by rw [DY]; simp; omega),AE (by omega)]
    ·rw [Dy,if_pos (by rw [DY]; simp; omega)]
     unfold Bk XS
     dsimp only
     rw [AY,Is t l,Aa,AY,Is t v,Aa,TX _ _ _ (JY f l) (JY f v),Aa,Br (by simp; omega),Aa,AE (by omega)]
     cases Sk (Hi t i) (Hi t k) g <;> rfl
    ·rw [Dy,if_neg (by rw [DY]; simp),AE (by omega)]
    ·rw [Dz,if_neg (by rw [DY]; simp)]
   rw [e]
   rfl
theorem QE {t:BU} (h:SmT t) (g:Int):GR t g = some (Ld t g):=by
 have:=h.h1
 have:=h.h2
 have:=h.h3
 unfold GR Lg Bk Ld
 dsimp only
 rw [OM (by omega) (by omega) (by omega),Aa,Ov,Aa]
 cases ho:Ln t with
 | false=>rfl
 | true =>
  cases l:BK g 0 80 with
  | false=>rfl
  | true =>
   have f:=NU ho
   have e:JJ t g = some (J5 (XS t g) t.1.length t.1.length):=by
    unfold JJ
    rw [LS f,Aa]
    refine Ny (Fe (G3 t) g) (fun u i=>Fd (G3 t) (Hi t i) g (i:Int) u) _ _ (by omega) (fun m s i l=>?_) (fun u i m s k l v hs=>?_) (fun u i m s l=>?_) (fun m s=>?_)
    ·rw [Fe,if_pos (by rw [DY]; simp; omega),AY,Is t l,Aa,AE (by omega)]
    ·rw [Fd,if_pos (by rw [DY]; simp; omega)]
     unfold Bk XS
     dsimp only
     rw [AY,Is t v,Aa,Xs _ _ _ (JY f l) (JY f v),Aa,Br (by simp; omega),Aa,AE (by omega)]
     cases Sk (Hi t i) (Hi t k) g <;> rfl
    ·rw [Fd,if_neg (by rw [DY]; simp),AE (by omega)]
    ·rw [Fe,if_neg (by rw [DY]; simp)]
   rw [e]
   rfl
theorem MV {a b:Int} (ha:0 ≤ a) (ab:a ≤ 4000000000000000000) (hb:0 < b) (ac:b ≤ 1000000000000000) :
  ∃ g:Int,0 < g ∧ a = (Il a b).1 * g ∧ b = (Il a b).2 * g ∧ 0 ≤ (Il a b).1 ∧ (Il a b).1 ≤ a ∧ 0 < (Il a b).2 ∧ (Il a b).2 ≤ b:=by
 have f:0 < Nat.gcd a.toNat b.toNat:=Nat.gcd_pos_of_pos_right _ (by omega)
 obtain ⟨x,hx⟩:=Nat.gcd_dvd_left a.toNat b.toNat
 obtain ⟨y,v⟩:=Nat.gcd_dvd_right a.toNat b.toNat
 have l:a = ((Nat.gcd a.toNat b.toNat * x:Nat):Int):=by omega
 have e:b = ((Nat.gcd a.toNat b.toNat * y:Nat):Int):=by omega
 unfold Il
 generalize Nat.gcd a.toNat b.toNat = g at *
 have aa:x ≤ g * x:=Nat.le_mul_of_pos_left _ f
 have ag:y ≤ g * y:=Nat.le_mul_of_pos_left _ f
 have m:Int.tdiv a (g:Int) = (x:Int):=by rw [l,Int.natCast_mul,Int.mul_comm,Int.mul_tdiv_cancel _ (by omega)]
 have s:Int.tdiv b (g:Int) = (y:Int):=by rw [e,Int.natCast_mul,Int.mul_comm,Int.mul_tdiv_cancel _ (by omega)]
 rw [m,s,A8 (by omega) (by omega),A8 (by omega) (by omega)]
 have u:0 < y:=by
  rcases Nat.eq_zero_or_pos y with h | h
  ·subst h; simp at e; omega
  ·exact h
 refine ⟨(g:Int),by omega,?_,?_,by omega,by omega,by omega,by omega⟩
 ·dsimp only; rw [l,Int.natCast_mul,Int.mul_comm]
 ·dsimp only; rw [e,Int.natCast_mul,Int.mul_comm]
def G5 (M:Int) (f:Int × Int):Bool:=decide (f.1 < M * f.2)
theorem PO {a b g:Int} (e:0 < g):a * g < b * g ↔ a < b :=
 ⟨fun h=>Int.lt_of_mul_lt_mul_right h (Int.le_of_lt e),fun h=>Int.mul_lt_mul_of_pos_right h e⟩
theorem ZB {M a b f e g:Int} (h:0 < g) (l:a = f * g) (m:b = e * g):G5 M (a,b) = G5 M (f,e):=by
 unfold G5
 rw [decide_eq_decide]
 dsimp only
 rw [l,m,← Int.mul_assoc,PO h]
theorem Ux {M a b:Int} (l:0 ≤ a) (s:a ≤ 4000000000000000000) (m:0 < b) (h:b ≤ 1000000000000000):G5 M (Il a b) = G5 M (a,b):=by
 obtain ⟨g,e,h1,f,_⟩:=MV l s m h
 rw [ZB e h1 f]
def OS (a b:Int × Int):Int × Int:=if R5 b.1 b.2 a.1 a.2 = true then b else a
theorem WW {M:Int} {a b:Int × Int} (f:0 < a.2) (g:0 < b.2):G5 M (OS a b) = (G5 M a || G5 M b):=by
 unfold OS R5
 by_cases h:b.1 * a.2 < a.1 * b.2
 ·rw [if_pos (decide_eq_true h)]
  rw [Bool.eq_iff_iff,Bool.or_eq_true]
  refine ⟨.inr,fun h1=>h1.elim (fun h1=>?_) id⟩
  unfold G5 at h1 ⊢
  rw [C7] at h1 ⊢
  have l:a.1 * b.2 < M * a.2 * b.2:=Int.mul_lt_mul_of_pos_right h1 g
  have e:b.1 * a.2 < M * b.2 * a.2:=by
   have:M * a.2 * b.2 = M * b.2 * a.2:=by rw [Int.mul_assoc,Int.mul_comm a.2,← Int.mul_assoc]
   omega
  exact (PO f).1 e
 ·rw [if_neg (by simpa using h)]
  rw [Bool.eq_iff_iff,Bool.or_eq_true]
  refine ⟨.inl,fun h1=>h1.elim id (fun h1=>?_)⟩
  unfold G5 at h1 ⊢
  rw [C7] at h1 ⊢
  have l:b.1 * a.2 < M * b.2 * a.2:=Int.mul_lt_mul_of_pos_right h1 f
  have e:a.1 * b.2 < M * a.2 * b.2:=by
   have:M * a.2 * b.2 = M * b.2 * a.2:=by rw [Int.mul_assoc,Int.mul_comm a.2,← Int.mul_assoc]
   omega
  exact (PO g).1 e
abbrev HN:=Int × Int
def II (P Q:HN):Bool:=decide (P.1 * (Q.1 - P.1) + P.2 * (Q.2 - P.2) < 0) && decide (0 - (P.1 * (Q.1 - P.1) + P.2 * (Q.2 - P.2)) < (Q.1 - P.1) * (Q.1 - P.1) + (Q.2 - P.2) * (Q.2 - P.2))
def H5 (P Q:HN):Int:=P.1 * Q.2 - P.2 * Q.1
def Lt (P Q:HN):Int:=(Q.1 - P.1) * (Q.1 - P.1) + (Q.2 - P.2) * (Q.2 - P.2)
def Jn (P:HN):Int:=P.1 * P.1 + P.2 * P.2
def IL (P Q:HN):Int × Int:=if II P Q = true then (H5 P Q * H5 P Q,Lt P Q) else (Jn Q,1)
def LU (P Q:HN):Int × Int:=if II P Q = true then (H5 P Q * H5 P Q,Lt P Q) else (min (Jn P) (Jn Q),1)
theorem Aa6 (x:Int):0 ≤ x * x:=by
 have:(0:Int) ≤ ((x.natAbs * x.natAbs:Nat):Int):=Int.natCast_nonneg _
 rwa [Int.natAbs_mul_self] at this
theorem Ael (P Q:HN):H5 P Q * H5 P Q + (P.1 * (Q.1 - P.1) + P.2 * (Q.2 - P.2)) * (P.1 * (Q.1 - P.1) + P.2 * (Q.2 - P.2)) = Jn P * Lt P Q:=by
 unfold H5 Jn Lt
 grind
theorem Ad4 (P Q:HN):H5 P Q * H5 P Q + (Q.1 * (Q.1 - P.1) + Q.2 * (Q.2 - P.2)) * (Q.1 * (Q.1 - P.1) + Q.2 * (Q.2 - P.2)) = Jn Q * Lt P Q:=by
 unfold H5 Jn Lt
 grind
theorem Adi (P Q:HN):H5 P Q * H5 P Q ≤ Jn P * Lt P Q ∧ H5 P Q * H5 P Q ≤ Jn Q * Lt P Q:=by
 have h1:=Ael P Q
 have f:=Ad4 P Q
 have e:=Aa6 (P.1 * (Q.1 - P.1) + P.2 * (Q.2 - P.2))
 have g:=Aa6 (Q.1 * (Q.1 - P.1) + Q.2 * (Q.2 - P.2))
 omega
theorem Sr {P Q:HN} (h:II P Q = true):0 < Lt P Q:=by
 unfold II at h
 rw [Cg,C7,C7] at h
 unfold Lt
 omega
theorem Ab2 {M a b:Int}:G5 M (min a b,1) = (G5 M (a,1) || G5 M (b,1)):=by
 unfold G5
 rw [Bool.eq_iff_iff,Bool.or_eq_true]
 simp only [C7]
 omega
theorem Vm {M:Int} {P Q:HN} (h:II P Q = true):(G5 M (Jn P,1) = true → G5 M (IL P Q) = true) ∧ (G5 M (Jn Q,1) = true → G5 M (IL P Q) = true):=by
 have m:=Sr h
 obtain ⟨l,g⟩:=Adi P Q
 have f:∀ x,H5 P Q * H5 P Q ≤ x * Lt P Q → G5 M (x,1) = true → G5 M (IL P Q) = true:=by
  intro x s e
  unfold G5 IL at *
  rw [if_pos h]
  rw [C7] at e ⊢
  dsimp only at e ⊢
  have:x * Lt P Q < M * 1 * Lt P Q:=Int.mul_lt_mul_of_pos_right e m
  rw [Int.mul_one] at this
  omega
 exact ⟨f _ l,f _ g⟩
theorem WX {M:Int} {P Q:HN}:G5 M (LU P Q) = if II P Q = true then G5 M (IL P Q) else (G5 M (Jn P,1) || G5 M (Jn Q,1)):=by
 unfold LU IL
 split
 ·rfl
 ·exact Ab2
def Mk (M:Int) (D:Nat → HN):Nat → Bool
 | 0=>G5 M (Jn (D 0),1)
 | k + 1=>Mk M D k || G5 M (IL (D k) (D (k + 1)))
def KB (M:Int) (D:Nat → HN):Nat → Bool
 | 0=>false
 | k + 1=>KB M D k || G5 M (LU (D k) (D (k + 1)))
theorem Ab7 {M:Int} {D:Nat → HN}:∀ k,G5 M (Jn (D k),1) = true → Mk M D k = true
 | 0,h=>h
 | k + 1,h=>by
  rw [Mk,Bool.or_eq_true]
  right
  by_cases e:II (D k) (D (k + 1)) = true
  ·exact (Vm e).2 h
  ·unfold IL
   rw [if_neg e]
   exact h
theorem Adn {M:Int} {D:Nat → HN}:∀ k,Mk M D (k + 1) = KB M D (k + 1):=by
 have l:∀ k,KB M D k = true → Mk M D k = true:=by
  intro k
  induction k with
  | zero=>intro h; cases h
  | succ k f =>
   intro h
   rw [KB,Bool.or_eq_true,WX] at h
   rw [Mk,Bool.or_eq_true]
   rcases h with h | h
   ·exact .inl (f h)
   ·by_cases e:II (D k) (D (k + 1)) = true
    ·rw [if_pos e] at h; exact .inr h
    ·rw [if_neg e,Bool.or_eq_true] at h
     rcases h with h | h
     ·exact .inl (Ab7 k h)
     ·right; unfold IL; rw [if_neg e]; exact h
 have m:∀ k,Mk M D (k + 1) = true → KB M D (k + 1) = true:=by
  have g:∀ k,G5 M (IL (D k) (D (k + 1))) = true → KB M D (k + 1) = true:=by
   intro k h
   rw [KB,Bool.or_eq_true,WX]
   right
   by_cases e:II (D k) (D (k + 1)) = true
   ·rw [if_pos e]; exact h
   ·rw [if_neg e,Bool.or_eq_true]
    unfold IL at h
    rw [if_neg e] at h
    exact .inr h
  intro k
  induction k with
  | zero =>
   intro h
   rw [Mk,Mk,Bool.or_eq_true] at h
   rcases h with h | h
   ·rw [KB,KB,Bool.false_or,WX]
    by_cases e:II (D 0) (D (0 + 1)) = true
    ·rw [if_pos e]; exact (Vm e).1 h
    ·rw [if_neg e,Bool.or_eq_true]; exact .inl h
   ·exact g 0 h
  | succ k f =>
   intro h
   rw [Mk,Bool.or_eq_true] at h
   rcases h with h | h
   ·rw [KB,Bool.or_eq_true]; exact .inl (f h)
   ·exact g (k + 1) h
 intro k
 rw [Bool.eq_iff_iff]
 exact ⟨m k,l (k + 1)⟩
def tD (C p k:Int):Int:=max 0 (min C (k - p))
def DA (m:FX) (p k:Int):HN:=(m.1.1 * m.2.2 + (m.2.1.1 - m.1.1) * tD m.2.2 p k,m.1.2 * m.2.2 + (m.2.1.2 - m.1.2) * tD m.2.2 p k)
theorem Yb {C p k:Int} (h:1 ≤ C):0 ≤ tD C p k ∧ tD C p k ≤ C:=by unfold tD; omega
theorem Th {a b c k B:Int} (e:0 ≤ a ∧ a ≤ B) (f:0 ≤ b ∧ b ≤ B) (g:0 ≤ k ∧ k ≤ c):0 ≤ a * c + (b - a) * k ∧ a * c + (b - a) * k ≤ B * c ∧ 0 ≤ a * c ∧ a * c ≤ B * c ∧ - (B * c) ≤ (b - a) * k ∧ (b - a) * k ≤ B * c:=by
 have h1:a * c + (b - a) * k = a * (c - k) + b * k:=by rw [Int.sub_mul,Int.mul_sub]; omega
 have u:0 ≤ a * (c - k):=Int.mul_nonneg e.1 (by omega)
 have h3:0 ≤ b * k:=Int.mul_nonneg f.1 g.1
 have m:a * (c - k) ≤ B * (c - k):=Int.mul_le_mul_of_nonneg_right e.2 (by omega)
 have v:b * k ≤ B * k:=Int.mul_le_mul_of_nonneg_right f.2 g.1
 have l:0 ≤ a * c:=Int.mul_nonneg e.1 (by omega)
 have h:a * c ≤ B * c:=Int.mul_le_mul_of_nonneg_right e.2 (by omega)
 have s:B * c = B * (c - k) + B * k:=by rw [← Int.mul_add]; congr 1; omega
 exact ⟨by omega,by omega,l,h,by omega,by omega⟩
theorem XE {m:FX} (g:I5 m) (h:1 ≤ m.2.2) (u:m.2.2 ≤ 16) (p k:Int):(0 ≤ (DA m p k).1 ∧ (DA m p k).1 ≤ 20480) ∧ 0 ≤ (DA m p k).2 ∧ (DA m p k).2 ≤ 10752:=by
 have h1:=FL.1 g.1
 have e:=FL.1 g.2
 have f:=Yb (C:=m.2.2) (p:=p) (k:=k) h
 have l:=Th h1.1 e.1 f
 have s:=Th h1.2 e.2 f
 unfold DA
 dsimp only
 omega
theorem Y9 {m:FX} (g:I5 m) (u:1 ≤ m.2.2) (s:m.2.2 ≤ 16) {t:Int} (f:0 ≤ t ∧ t ≤ m.2.2):FO m t = some (m.1.1 * m.2.2 + (m.2.1.1 - m.1.1) * t,m.1.2 * m.2.2 + (m.2.1.2 - m.1.2) * t) ∧ Lz m t = some (m.1.1 * m.2.2 + (m.2.1.1 - m.1.1) * t,m.1.2 * m.2.2 + (m.2.1.2 - m.1.2) * t):=by
 have h1:=FL.1 g.1
 have e:=FL.1 g.2
 have h:=Th h1.1 e.1 f
 have l:=Th h1.2 e.2 f
 unfold FO Lz
 rw [A8 (x:=m.2.1.1 - m.1.1) (by omega) (by omega),A8 (x:=m.2.1.2 - m.1.2) (by omega) (by omega),Int.mul_comm t,Int.mul_comm t,A8 (x:=m.1.1 * m.2.2) (by omega) (by omega),A8 (x:=m.1.2 * m.2.2) (by omega) (by omega),A8 (x:=(m.2.1.1 - m.1.1) * t) (by omega) (by omega),A8 (x:=(m.2.1.2 - m.1.2) * t) (by omega) (by omega),
  A8 (x:=m.1.1 * m.2.2 + _) (by omega) (by omega),A8 (x:=m.1.2 * m.2.2 + _) (by omega) (by omega)]
 exact ⟨rfl,rfl⟩
theorem Np {m:FX} (g:I5 m) (f:1 ≤ m.2.2) (h:m.2.2 ≤ 16) {p k:Int} (l:0 ≤ p ∧ p ≤ 4) (s:0 ≤ k ∧ k ≤ 1000):Gd m p k = some (DA m p k):=by
 unfold Gd
 have e:Fn (Fx (Ag (k - p)) 0) m.2.2 = tD m.2.2 p k:=by
  rw [A8 (by omega) (by omega)]
  unfold Fn Fx tD
  split <;> split <;> omega
 rw [e,(Y9 g f h (Yb f)).1]
 rfl
theorem QN (a b:Int):Hk a b = some (max a b):=by
 unfold Hk
 by_cases h:b < a
 ·rw [if_pos (by simpa using h),Int.max_eq_left (by omega)]
 ·rw [if_neg (by simpa using h),Int.max_eq_right (by omega)]
theorem Ou {m:FX} (g:I5 m) (e:1 ≤ m.2.2) (f:m.2.2 ≤ 16) {p k:Int} (h:0 ≤ p ∧ p ≤ 4) (l:0 ≤ k ∧ k ≤ 1000):Ip m p k = some (DA m p k):=by
 unfold Ip
 rw [A8 (by omega) (by omega),JZ,Aa,QN,Aa]
 rw [show max 0 (min m.2.2 (k - p)) = tD m.2.2 p k by rfl,(Y9 g e f (Yb e)).2]
 rfl
structure Ms (P:HN):Prop where
 a1:-20480 ≤ P.1
 a2:P.1 ≤ 20480
 b1:-10752 ≤ P.2
 b2:P.2 ≤ 10752
structure Aer (P Q:HN):Prop where
 m1:-838860800 ≤ P.1 * (Q.1 - P.1) ∧ P.1 * (Q.1 - P.1) ≤ 838860800
 m2:-231211008 ≤ P.2 * (Q.2 - P.2) ∧ P.2 * (Q.2 - P.2) ≤ 231211008
 m3:0 ≤ (Q.1 - P.1) * (Q.1 - P.1) ∧ (Q.1 - P.1) * (Q.1 - P.1) ≤ 1677721600
 m4:0 ≤ (Q.2 - P.2) * (Q.2 - P.2) ∧ (Q.2 - P.2) * (Q.2 - P.2) ≤ 462422016
 m5:0 ≤ P.1 * P.1 ∧ P.1 * P.1 ≤ 419430400
 m6:0 ≤ P.2 * P.2 ∧ P.2 * P.2 ≤ 115605504
 m7:0 ≤ Q.1 * Q.1 ∧ Q.1 * Q.1 ≤ 419430400
 m8:0 ≤ Q.2 * Q.2 ∧ Q.2 * Q.2 ≤ 115605504
 m9:-220200960 ≤ P.1 * Q.2 ∧ P.1 * Q.2 ≤ 220200960
 m10:-220200960 ≤ P.2 * Q.1 ∧ P.2 * Q.1 ≤ 220200960
 m11:0 ≤ H5 P Q * H5 P Q ∧ H5 P Q * H5 P Q ≤ 193953851139686400
 m12:-440401920 ≤ P.1 * (Q.2 - P.2) ∧ P.1 * (Q.2 - P.2) ≤ 440401920
 m13:-440401920 ≤ P.2 * (Q.1 - P.1) ∧ P.2 * (Q.1 - P.1) ≤ 440401920
 m14:P.1 * (Q.2 - P.2) - P.2 * (Q.1 - P.1) = H5 P Q
theorem Y6 {P Q:HN} (hP:Ms P) (v:Ms Q):Aer P Q:=by
 obtain ⟨e,f,h,g⟩:=hP
 obtain ⟨m,l,u,s⟩:=v
 have m9:=Mb e f u s
 have ab:=Mb h g m l
 have ad:=Mx (x:=H5 P Q) (A:=440401920) (by unfold H5; omega) (by unfold H5; omega)
 refine ⟨Mb (A:=20480) (B:=40960) e f (by omega) (by omega),Mb (A:=10752) (B:=21504) h g (by omega) (by omega),Mx (A:=40960) (by omega) (by omega),Mx (A:=21504) (by omega) (by omega),Mx e f,Mx h g,Mx m l,Mx u s,by omega,by omega,by omega,Mb (A:=20480) (B:=21504) e f (by omega) (by omega),Mb (A:=10752) (B:=40960) h g (by omega) (by omega),?_⟩
 unfold H5
 grind
theorem X9 {P Q:HN} (g:Ms P) (f:Ms Q):0 ≤ (IL P Q).1 ∧ (IL P Q).1 ≤ 193953851139686400 ∧ 0 < (IL P Q).2 ∧ (IL P Q).2 ≤ 2200000000:=by
 have b:=Y6 g f
 have:=b.m3
 have:=b.m4
 have:=b.m7
 have:=b.m8
 have:=b.m11
 unfold IL
 split
 ·rename_i h
  have:=Sr h
  have e:Lt P Q = (Q.1 - P.1) * (Q.1 - P.1) + (Q.2 - P.2) * (Q.2 - P.2):=rfl
  dsimp only
  omega
 ·have e:Jn Q = Q.1 * Q.1 + Q.2 * Q.2:=rfl
  dsimp only
  omega
theorem TP {P Q:HN} (g:Ms P) (f:Ms Q):0 ≤ (LU P Q).1 ∧ (LU P Q).1 ≤ 193953851139686400 ∧ 0 < (LU P Q).2 ∧ (LU P Q).2 ≤ 2200000000:=by
 have b:=Y6 g f
 have:=b.m3
 have:=b.m4
 have:=b.m5
 have:=b.m6
 have:=b.m7
 have:=b.m8
 have:=b.m11
 unfold LU
 split
 ·rename_i h
  have:=Sr h
  have e:Lt P Q = (Q.1 - P.1) * (Q.1 - P.1) + (Q.2 - P.2) * (Q.2 - P.2):=rfl
  dsimp only
  omega
 ·have e:Jn Q = Q.1 * Q.1 + Q.2 * Q.2:=rfl
  have l:Jn P = P.1 * P.1 + P.2 * P.2:=rfl
  dsimp only
  omega
theorem Ac0 {P:HN} (e:Ms P):0 ≤ Jn P ∧ Jn P ≤ 535035904:=by
 have b:=Y6 e e
 have:=b.m5
 have:=b.m6
 unfold Jn
 omega
def XY (f:Int × Int):Prop:=0 ≤ f.1 ∧ f.1 ≤ 193953851139686400 ∧ 0 < f.2 ∧ f.2 ≤ 2200000000
theorem XK {a b:Int × Int} (f:XY a) (e:XY b):XY (OS a b):=by unfold OS; split <;> assumption
def Do (D:Nat → HN):Nat → Int × Int
 | 0=>(Jn (D 0),1)
 | k + 1=>OS (Do D k) (IL (D k) (D (k + 1)))
def HB (D:Nat → HN):Nat → Int × Int
 | 0=>(-1,1)
 | k + 1=>if (HB D k).1 < 0 then LU (D k) (D (k + 1)) else OS (HB D k) (LU (D k) (D (k + 1)))
theorem Qa {D:Nat → HN} (h:∀ k,Ms (D k)) (M:Int):∀ k,XY (Do D k) ∧ G5 M (Do D k) = Mk M D k
 | 0=>by
  have:=Ac0 (h 0)
  exact ⟨⟨by unfold Do; dsimp only; omega,by unfold Do; dsimp only; omega,by unfold Do; dsimp only; omega,by unfold Do; dsimp only; omega⟩,rfl⟩
 | k + 1=>by
  obtain ⟨h1,f⟩:=Qa h M k
  have e:=X9 (h k) (h (k + 1))
  refine ⟨XK h1 e,?_⟩
  rw [Do,WW h1.2.2.1 e.2.2.1,f,Mk]
theorem PZ {D:Nat → HN} (h:∀ k,Ms (D k)) (M:Int):∀ k,XY (HB D (k + 1)) ∧ G5 M (HB D (k + 1)) = KB M D (k + 1)
 | 0=>by
  have e:=TP (h 0) (h 1)
  rw [HB,if_pos (by unfold HB; decide),KB,KB,Bool.false_or]
  exact ⟨e,rfl⟩
 | k + 1=>by
  obtain ⟨h1,g⟩:=PZ h M k
  have e:=TP (h (k + 1)) (h (k + 2))
  have f:¬ (HB D (k + 1)).1 < 0:=by have:=h1.1; omega
  rw [HB,if_neg f,WW h1.2.2.1 e.2.2.1,g,KB]
  exact ⟨XK h1 e,rfl⟩
structure Uz (u v:FX) (p q:Int):Prop where
 gu:I5 u
 gv:I5 v
 c1:1 ≤ u.2.2
 c16:u.2.2 ≤ 16
 e:v.2.2 = u.2.2
 p0:0 ≤ p ∧ p ≤ 4
 q0:0 ≤ q ∧ q ≤ 4
def BH (u v:FX) (p q:Int) (k:Nat):HN:=((DA u p (k:Int)).1 - (DA v q (k:Int)).1,(DA u p (k:Int)).2 - (DA v q (k:Int)).2)
theorem WK {u v:FX} {p q:Int} (f:Uz u v p q) (k:Nat):Ms (BH u v p q k):=by
 have h1:=XE f.gu f.c1 f.c16 p (k:Int)
 have g:=XE f.gv (by rw [f.e]; exact f.c1) (by rw [f.e]; exact f.c16) q (k:Int)
 unfold BH
 exact ⟨by dsimp only; omega,by dsimp only; omega,by dsimp only; omega,by dsimp only; omega⟩
def Cq (u:FX) (p q:Int):Nat:=(u.2.2 + max p q).toNat
def KS (u v:FX) (p q least:Int):Bool:=KB (least * least * u.2.2 * u.2.2) (BH u v p q) (Cq u p q)
structure Aeq (P Q:HN):Prop where
 w1:Ag (Q.1 - P.1) = Q.1 - P.1
 w2:Ag (Q.2 - P.2) = Q.2 - P.2
 w3:Ag (P.1 * (Q.2 - P.2)) = P.1 * (Q.2 - P.2)
 w4:Ag (P.2 * (Q.1 - P.1)) = P.2 * (Q.1 - P.1)
 w5:Ag (P.1 * (Q.2 - P.2) - P.2 * (Q.1 - P.1)) = H5 P Q
 w6:Ag (H5 P Q * H5 P Q) = H5 P Q * H5 P Q
 w7:Ag ((Q.1 - P.1) * (Q.1 - P.1)) = (Q.1 - P.1) * (Q.1 - P.1)
 w8:Ag ((Q.2 - P.2) * (Q.2 - P.2)) = (Q.2 - P.2) * (Q.2 - P.2)
 w9:Ag ((Q.1 - P.1) * (Q.1 - P.1) + (Q.2 - P.2) * (Q.2 - P.2)) = Lt P Q
 w10:Ag (P.1 * (Q.1 - P.1)) = P.1 * (Q.1 - P.1)
 w11:Ag (P.2 * (Q.2 - P.2)) = P.2 * (Q.2 - P.2)
 w12:Ag (P.1 * (Q.1 - P.1) + P.2 * (Q.2 - P.2)) = P.1 * (Q.1 - P.1) + P.2 * (Q.2 - P.2)
 w13:Ag (0 - (P.1 * (Q.1 - P.1) + P.2 * (Q.2 - P.2))) = 0 - (P.1 * (Q.1 - P.1) + P.2 * (Q.2 - P.2))
 w14:Ag (Q.1 * Q.1) = Q.1 * Q.1
 w15:Ag (Q.2 * Q.2) = Q.2 * Q.2
 w16:Ag (Q.1 * Q.1 + Q.2 * Q.2) = Jn Q
 w17:Ag (P.1 * P.1) = P.1 * P.1
 w18:Ag (P.2 * P.2) = P.2 * P.2
 w19:Ag (P.1 * P.1 + P.2 * P.2) = Jn P
 w20:Ag (P.1 * Q.2) = P.1 * Q.2
 w21:Ag (P.2 * Q.1) = P.2 * Q.1
 w22:Ag (P.1 * Q.2 - P.2 * Q.1) = H5 P Q
theorem Aav {P Q:HN} (f:Ms P) (e:Ms Q):Aeq P Q:=by
 have b:=Y6 f e
 have:=b.m1; have:=b.m2; have:=b.m3; have:=b.m4; have:=b.m5; have:=b.m6; have:=b.m7; have:=b.m8; have:=b.m9; have:=b.m10; have:=b.m11; have:=b.m12; have:=b.m13; have g:=b.m14
 have:=f.a1; have:=f.a2; have:=f.b1; have:=f.b2; have:=e.a1; have:=e.a2; have:=e.b1; have:=e.b2
 have l:Lt P Q = (Q.1 - P.1) * (Q.1 - P.1) + (Q.2 - P.2) * (Q.2 - P.2):=rfl
 have m:Jn Q = Q.1 * Q.1 + Q.2 * Q.2:=rfl
 have s:Jn P = P.1 * P.1 + P.2 * P.2:=rfl
 have h:H5 P Q = P.1 * Q.2 - P.2 * Q.1:=rfl
 constructor <;> (try rw [A8 (by omega) (by omega)]) <;> first | done | omega
theorem ZO {R:Type} {P Q:HN} (f:Int → Int → Af R):(if II P Q = true then f (H5 P Q * H5 P Q) (Lt P Q) else f (Jn Q) 1) = f (IL P Q).1 (IL P Q).2:=by
 unfold IL
 split <;> rfl
theorem RD {u v:FX} {p q:Int} (f:Uz u v p q):∃ r:Int × Int,Gf u v p q = some r ∧ 0 < r.2 ∧ r.2 ≤ 1000000000000 ∧ ∀ K,G5 K r = Mk (K * u.2.2 * u.2.2) (BH u v p q) (Cq u p q):=by
 have h:=f.c1
 have l:=f.c16
 have hp:=f.p0
 have hq:=f.q0
 have an:1 ≤ v.2.2:=by rw [f.e]; exact h
 have al:v.2.2 ≤ 16:=by rw [f.e]; exact l
 have hT:((Cq u p q:Nat):Int) = u.2.2 + max p q:=by unfold Cq; omega
 have bf:Cq u p q ≤ 20:=by omega
 have ac:=WK f
 have ar:=fun M=>Qa ac M (Cq u p q)
 obtain ⟨b1,b2,b3,b4⟩:=(ar 0).1
 obtain ⟨g1,bu,l1,l2,l3,l4,l5,l6⟩:=MV b1 (by omega) b3 (by omega)
 have bi:1 ≤ u.2.2 * u.2.2 ∧ u.2.2 * u.2.2 ≤ 256:=⟨Int.mul_le_mul h h (by omega) (by omega),Int.mul_le_mul l l (by omega) (by omega)⟩
 have d1:(Il (Do (BH u v p q) (Cq u p q)).1 (Do (BH u v p q) (Cq u p q)).2).2 * u.2.2 ≤ 2200000000 * 16:=Int.mul_le_mul (by omega) l (by omega) (by omega)
 have d2:1 * 1 ≤ (Il (Do (BH u v p q) (Cq u p q)).1 (Do (BH u v p q) (Cq u p q)).2).2 * u.2.2:=Int.mul_le_mul (by omega) h (by omega) (by omega)
 have d3:(Il (Do (BH u v p q) (Cq u p q)).1 (Do (BH u v p q) (Cq u p q)).2).2 * u.2.2 * u.2.2 ≤ 2200000000 * 16 * 16:=Int.mul_le_mul d1 l (by omega) (by omega)
 have d4:1 * 1 ≤ (Il (Do (BH u v p q) (Cq u p q)).1 (Do (BH u v p q) (Cq u p q)).2).2 * u.2.2 * u.2.2:=Int.mul_le_mul (by omega) h (by omega) (by omega)
 have a9:Gf u v p q = some (Il (Il (Do (BH u v p q) (Cq u p q)).1 (Do (BH u v p q) (Cq u p q)).2).1 ((Il (Do (BH u v p q) (Cq u p q)).1 (Do (BH u v p q) (Cq u p q)).2).2 * u.2.2 * u.2.2)):=by
  unfold Gf
  have z1:tD u.2.2 p 0 = 0:=by unfold tD; omega
  have z2:tD v.2.2 q 0 = 0:=by unfold tD; omega
  have a1:FO u 0 = some (DA u p 0):=by rw [(Y9 f.gu h l (t:=0) (by omega)).1]; unfold DA; rw [z1]
  have a2:FO v 0 = some (DA v q 0):=by rw [(Y9 f.gv an al (t:=0) (by omega)).1]; unfold DA; rw [z2]
  have h0:=ac 0
  have w0:=Aav h0 h0
  have:=h0.a1; have:=h0.a2; have:=h0.b1; have:=h0.b2
  have e1:Ag ((DA u p 0).1 - (DA v q 0).1) = (BH u v p q 0).1:=by
   have:(DA u p 0).1 - (DA v q 0).1 = (BH u v p q 0).1:=rfl
   rw [this,A8 (by omega) (by omega)]
  have e2:Ag ((DA u p 0).2 - (DA v q 0).2) = (BH u v p q 0).2:=by
   have:(DA u p 0).2 - (DA v q 0).2 = (BH u v p q 0).2:=rfl
   rw [this,A8 (by omega) (by omega)]
  rw [a1,Aa,a2,Aa,e1,e2,w0.w14,w0.w15,w0.w16]
  have ax:=ED (fun m (s:Int × Int × Int × Int) k=>C2 u p q v m s.1 s.2.1 s.2.2.1 s.2.2.2 (k + 1)) (Cq u p q) (fun k=>((BH u v p q k).1,(BH u v p q k).2,(Do (BH u v p q) k).1,(Do (BH u v p q) k).2)) (some (Il (Il (Do (BH u v p q) (Cq u p q)).1 (Do (BH u v p q) (Cq u p q)).2).1 ((Il (Do (BH u v p q) (Cq u p q)).1 (Do (BH u v p q) (Cq u p q)).2).2 * u.2.2 * u.2.2))) (by omega) (j:=0) (by omega) (fun m k _ hk=>?_) (fun m=>?_)
  ·exact ax
  ·dsimp only
   have hP:=ac k
   have hQ:=ac (k + 1)
   have w:=Aav hP hQ
   have:=hQ.a1; have:=hQ.a2; have:=hQ.b1; have:=hQ.b2
   have ak:Fx p q = max p q:=by unfold Fx; split <;> omega
   have c1:Ag ((DA u p ((k:Int) + 1)).1 - (DA v q ((k:Int) + 1)).1) = (BH u v p q (k + 1)).1:=by
    have:(DA u p ((k:Int) + 1)).1 - (DA v q ((k:Int) + 1)).1 = (BH u v p q (k + 1)).1:=rfl
    rw [this,A8 (by omega) (by omega)]
   have c2:Ag ((DA u p ((k:Int) + 1)).2 - (DA v q ((k:Int) + 1)).2) = (BH u v p q (k + 1)).2:=by
    have:(DA u p ((k:Int) + 1)).2 - (DA v q ((k:Int) + 1)).2 = (BH u v p q (k + 1)).2:=rfl
    rw [this,A8 (by omega) (by omega)]
   obtain ⟨⟨i1,i2,i3,i4⟩,_⟩:=Qa ac 0 k
   obtain ⟨s1,s2,s3,s4⟩:=X9 hP hQ
   rw [C2,ak,A8 (x:=u.2.2 + _) (by omega) (by omega),if_pos (by rw [C7]; omega),Np f.gu h l hp (by omega),Aa,Np f.gv an al hq (by omega),Aa,c1,c2]
   simp only [Bk,Gk,w.w1,w.w2,w.w3,w.w4,w.w5,w.w6,w.w7,w.w8,w.w9,w.w10,w.w11,w.w12,w.w13,w.w14,w.w15,w.w16]
   have a7:∀ a b:Int,0 ≤ a → a ≤ 193953851139686400 → 0 < b → b ≤ 2200000000 → (Option.bind (Fo a b (Do (BH u v p q) k).1 (Do (BH u v p q) k).2) fun aj=>if aj = true then C2 u p q v m (BH u v p q (k + 1)).1 (BH u v p q (k + 1)).2 a b (Ag ((k:Int) + 1 + 1)) else C2 u p q v m (BH u v p q (k + 1)).1 (BH u v p q (k + 1)).2 (Do (BH u v p q) k).1 (Do (BH u v p q) k).2 (Ag ((k:Int) + 1 + 1))) = C2 u p q v m (BH u v p q (k + 1)).1 (BH u v p q (k + 1)).2 (OS (Do (BH u v p q) k) (a,b)).1 (OS (Do (BH u v p q) k) (a,b)).2 (((k + 1:Nat):Int) + 1):=by
    intro a b h1 h2 h3 h4
    rw [RC _ _ _ _ h1 (by omega) (by omega) (by omega) i1 (by omega) (by omega) (by omega),Aa,A8 (by omega) (by omega)]
    unfold OS
    split <;> rfl
   have hl:=a7 (IL (BH u v p q k) (BH u v p q (k + 1))).1 (IL (BH u v p q k) (BH u v p q (k + 1))).2 s1 s2 s3 s4
   rw [Do]
   refine Eq.trans ?_ hl
   rw [← ZO (P:=BH u v p q k) (Q:=BH u v p q (k + 1)) (f:=fun a b=>Option.bind (Fo a b (Do (BH u v p q) k).1 (Do (BH u v p q) k).2) fun aj=>if aj = true then C2 u p q v m (BH u v p q (k + 1)).1 (BH u v p q (k + 1)).2 a b (Ag ((k:Int) + 1 + 1)) else C2 u p q v m (BH u v p q (k + 1)).1 (BH u v p q (k + 1)).2 (Do (BH u v p q) k).1 (Do (BH u v p q) k).2 (Ag ((k:Int) + 1 + 1)))]
   unfold II
   change _ = if (decide _ && decide (_ < Lt _ _)) = true then _ else _
   by_cases h1:(BH u v p q k).1 * ((BH u v p q (k + 1)).1 - (BH u v p q k).1) + (BH u v p q k).2 * ((BH u v p q (k + 1)).2 - (BH u v p q k).2) < 0
   ·rw [if_pos (decide_eq_true h1),decide_eq_true h1,Bool.true_and]
   ·rw [if_neg (by simpa using h1),decide_eq_false h1]
    rfl
  ·dsimp only
   have ak:Fx p q = max p q:=by unfold Fx; split <;> omega
   rw [C2,ak,A8 (x:=u.2.2 + _) (by omega) (by omega),if_neg (by rw [C7]; omega),LA _ _ b1 (by omega) b3 (by omega),Aa,A8 (x:=(Il (Do (BH u v p q) (Cq u p q)).1 (Do (BH u v p q) (Cq u p q)).2).2 * u.2.2) (by omega) (by omega),A8 (by omega) (by omega),LA _ _ l3 (by omega) (by omega) (by omega),Aa]
 refine ⟨_,a9,?_,?_,fun K=>?_⟩
 ·obtain ⟨g,_,_,_,_,_,k5,_⟩:=MV (a:=(Il (Do (BH u v p q) (Cq u p q)).1 (Do (BH u v p q) (Cq u p q)).2).1) (b:=(Il (Do (BH u v p q) (Cq u p q)).1 (Do (BH u v p q) (Cq u p q)).2).2 * u.2.2 * u.2.2) l3 (by omega) (by omega) (by omega)
  exact k5
 ·obtain ⟨g,_,_,_,_,_,k5,k6⟩:=MV (a:=(Il (Do (BH u v p q) (Cq u p q)).1 (Do (BH u v p q) (Cq u p q)).2).1) (b:=(Il (Do (BH u v p q) (Cq u p q)).1 (Do (BH u v p q) (Cq u p q)).2).2 * u.2.2 * u.2.2) l3 (by omega) (by omega) (by omega)
  omega
 ·rw [Ux l3 (by omega) (by omega) (by omega),← (ar (K * u.2.2 * u.2.2)).2]
  have:G5 (K * u.2.2 * u.2.2) (Do (BH u v p q) (Cq u p q)) = G5 (K * u.2.2 * u.2.2) (Il (Do (BH u v p q) (Cq u p q)).1 (Do (BH u v p q) (Cq u p q)).2):=(Ux b1 (by omega) b3 (by omega)).symm
  rw [this]
  unfold G5
  rw [decide_eq_decide]
  dsimp only
  generalize (Il (Do (BH u v p q) (Cq u p q)).1 (Do (BH u v p q) (Cq u p q)).2).2 = B
  rw [show K * (B * u.2.2 * u.2.2) = K * u.2.2 * u.2.2 * B by grind]
theorem X3 {M:Int} {D:Nat → HN} {T:Nat} (h:1 ≤ T):Mk M D T = KB M D T:=by
 obtain ⟨k,rfl⟩:∃ k,T = k + 1:=⟨T - 1,by omega⟩
 exact Adn k
theorem Nr {u v:FX} {p q e:Int} (f:Uz u v p q) (hl:0 ≤ e ∧ e ≤ 80):Gg u v p q e = some (KS u v p q e):=by
 obtain ⟨r,h1,h2,l,h⟩:=RD f
 have g:=Mx (x:=e) (A:=80) (by omega) (by omega)
 have m:=Int.mul_le_mul g.2 l (by omega) (by omega)
 have ac:0 ≤ e * e * r.2:=Int.mul_nonneg g.1 (by omega)
 unfold Gg KS
 rw [h1,Aa,A8 (x:=e * e) (by omega) (by omega),A8 (by omega) (by omega)]
 have:=h (e * e)
 unfold G5 at this
 have s:=f.c1
 have hp:=f.p0
 rw [this,X3 (by unfold Cq; omega)]
theorem ZN {R:Type} {P Q:HN} (f:Int → Int → Af R):(if II P Q = true then f (H5 P Q * H5 P Q) (Lt P Q) else f (min (Jn P) (Jn Q)) 1) = f (LU P Q).1 (LU P Q).2:=by
 unfold LU
 split <;> rfl
theorem Xq {P Q:HN} (g:Ms P) (e:Ms Q):Kk P.1 P.2 Q.1 Q.2 = some (LU P Q):=by
 have w:=Aav g e
 unfold Kk
 simp only [Bk,w.w1,w.w2,w.w7,w.w8,w.w9,w.w10,w.w11,w.w12,w.w13,w.w14,w.w15,w.w16,w.w17,w.w18,w.w19,w.w20,w.w21,w.w22,w.w6,JZ,Aa]
 have:=ZN (P:=P) (Q:=Q) (f:=fun a b=>some (a,b))
 refine Eq.trans ?_ this
 unfold II
 change _ = if (decide _ && decide (_ < Lt _ _)) = true then _ else _
 by_cases h1:P.1 * (Q.1 - P.1) + P.2 * (Q.2 - P.2) < 0
 ·rw [if_pos (by rw [C7]; omega),decide_eq_true h1,Bool.true_and]
 ·rw [if_neg (by rw [C7]; omega),decide_eq_false h1]
  rfl
theorem Wa {u v:FX} {p q:Int} (f:Uz u v p q):∃ r:Int × Int,Iw u v p q = some r ∧ 0 ≤ r.1 ∧ r.1 ≤ 193953851139686400 ∧ 0 < r.2 ∧ r.2 ≤ 1000000000000 ∧ ∀ K,G5 K r = KB (K * u.2.2 * u.2.2) (BH u v p q) (Cq u p q):=by
 have ab:=f.c1
 have ad:=f.c16
 have hp:=f.p0
 have hq:=f.q0
 have ai:1 ≤ v.2.2:=by rw [f.e]; exact ab
 have ah:v.2.2 ≤ 16:=by rw [f.e]; exact ad
 have hT:((Cq u p q:Nat):Int) = u.2.2 + max p q:=by unfold Cq; omega
 have a8:Cq u p q ≤ 20:=by omega
 have ae:=WK f
 obtain ⟨T,ax⟩:∃ T,Cq u p q = T + 1:=⟨Cq u p q - 1,by omega⟩
 have ak:∀ M,XY (HB (BH u v p q) (Cq u p q)) ∧ G5 M (HB (BH u v p q) (Cq u p q)) = KB M (BH u v p q) (Cq u p q):=fun M=>by rw [ax]; exact PZ ae M T
 obtain ⟨b1,b2,b3,b4⟩:=(ak 0).1
 have d1:(HB (BH u v p q) (Cq u p q)).2 * u.2.2 ≤ 2200000000 * 16:=Int.mul_le_mul b4 ad (by omega) (by omega)
 have d2:1 * 1 ≤ (HB (BH u v p q) (Cq u p q)).2 * u.2.2:=Int.mul_le_mul (by omega) ab (by omega) (by omega)
 have d3:(HB (BH u v p q) (Cq u p q)).2 * u.2.2 * u.2.2 ≤ 2200000000 * 16 * 16:=Int.mul_le_mul d1 ad (by omega) (by omega)
 have d4:1 * 1 ≤ (HB (BH u v p q) (Cq u p q)).2 * u.2.2 * u.2.2:=Int.mul_le_mul (by omega) ab (by omega) (by omega)
 have a3:Iw u v p q = some (Il (HB (BH u v p q) (Cq u p q)).1 ((HB (BH u v p q) (Cq u p q)).2 * u.2.2 * u.2.2)):=by
  unfold Iw
  have ao:=ED (fun m (s:Int × Int) k=>EU p q u v m s.1 s.2 k) (Cq u p q) (fun k=>((HB (BH u v p q) k).1,(HB (BH u v p q) k).2)) (some (Il (HB (BH u v p q) (Cq u p q)).1 ((HB (BH u v p q) (Cq u p q)).2 * u.2.2 * u.2.2))) (by omega) (j:=0) (by omega) (fun m k _ hk=>?_) (fun m=>?_)
  ·exact ao
  ·dsimp only
   have h:=ae k
   have l:=ae (k + 1)
   have:=h.a1; have:=h.a2; have:=h.b1; have:=h.b2
   have:=l.a1; have:=l.a2; have:=l.b1; have:=l.b2
   have e1:Ag ((DA u p (k:Int)).1 - (DA v q (k:Int)).1) = (BH u v p q k).1:=by
    have:(DA u p (k:Int)).1 - (DA v q (k:Int)).1 = (BH u v p q k).1:=rfl
    rw [this,A8 (by omega) (by omega)]
   have e2:Ag ((DA u p (k:Int)).2 - (DA v q (k:Int)).2) = (BH u v p q k).2:=by
    have:(DA u p (k:Int)).2 - (DA v q (k:Int)).2 = (BH u v p q k).2:=rfl
    rw [this,A8 (by omega) (by omega)]
   have c1:Ag ((DA u p ((k + 1:Nat):Int)).1 - (DA v q ((k + 1:Nat):Int)).1) = (BH u v p q (k + 1)).1:=by
    have:(DA u p ((k + 1:Nat):Int)).1 - (DA v q ((k + 1:Nat):Int)).1 = (BH u v p q (k + 1)).1:=rfl
    rw [this,A8 (by omega) (by omega)]
   have c2:Ag ((DA u p ((k + 1:Nat):Int)).2 - (DA v q ((k + 1:Nat):Int)).2) = (BH u v p q (k + 1)).2:=by
    have:(DA u p ((k + 1:Nat):Int)).2 - (DA v q ((k + 1:Nat):Int)).2 = (BH u v p q (k + 1)).2:=rfl
    rw [this,A8 (by omega) (by omega)]
   obtain ⟨s1,s2,s3,s4⟩:=TP h l
   rw [EU,QN,Aa,A8 (x:=u.2.2 + _) (by omega) (by omega),if_pos (by rw [C7]; omega)]
   unfold Gk Bk
   dsimp only
   rw [Ou f.gu ab ad hp (by omega),Aa,Ou f.gv ai ah hq (by omega),Aa,AE (k:=k) (by omega),Ou f.gu ab ad hp (by omega),Aa,Ou f.gv ai ah hq (by omega),Aa,e1,e2,c1,c2,Xq h l,Aa,HB]
   by_cases hn:(HB (BH u v p q) k).1 < 0
   ·rw [if_pos (decide_eq_true hn),if_pos rfl,if_pos hn]
   ·have az:∃ j,k = j + 1:=by
     cases k with
     | zero=>exact absurd (show (-1:Int) < 0 by decide) hn
     | succ j=>exact ⟨j,rfl⟩
    obtain ⟨j,rfl⟩:=az
    obtain ⟨⟨i1,i2,i3,i4⟩,_⟩:=PZ ae 0 j
    rw [if_neg (by simpa using hn),Xt _ _ _ _ s1 (by omega) s3 (by omega) i1 (by omega) i3 (by omega),Aa,if_neg hn]
    unfold OS
    split <;> rfl
  ·dsimp only
   rw [EU,QN,Aa,A8 (x:=u.2.2 + _) (by omega) (by omega),if_neg (by rw [C7]; omega),A8 (x:=(HB (BH u v p q) (Cq u p q)).2 * u.2.2) (by omega) (by omega),A8 (by omega) (by omega),RS _ _ b1 (by omega) (by omega) (by omega),Aa]
 obtain ⟨g,_,_,_,k3,k4,k5,k6⟩:=MV (a:=(HB (BH u v p q) (Cq u p q)).1) (b:=(HB (BH u v p q) (Cq u p q)).2 * u.2.2 * u.2.2) b1 (by omega) (by omega) (by omega)
 refine ⟨_,a3,k3,by omega,k5,by omega,fun K=>?_⟩
 rw [Ux b1 (by omega) (by omega) (by omega),← (ak (K * u.2.2 * u.2.2)).2]
 unfold G5
 rw [decide_eq_decide]
 dsimp only
 generalize (HB (BH u v p q) (Cq u p q)).2 = B
 rw [show K * (B * u.2.2 * u.2.2) = K * u.2.2 * u.2.2 * B by grind]
theorem RQ {u v:FX} {p q e:Int} (f:Uz u v p q) (hl:0 ≤ e ∧ e ≤ 80):IZ u v p q e = some (!KS u v p q e):=by
 obtain ⟨r,h1,g,h3,h,h5,l⟩:=Wa f
 have hL:=Mx (x:=e) (A:=80) (by omega) (by omega)
 unfold IZ KS
 have hd:=Int.ediv_nonneg g (Int.le_of_lt h)
 have s:r.1 / r.2 ≤ r.1:=Int.ediv_le_self _ g
 have m:¬ r.2 = 0:=by omega
 rw [h1,Aa,if_neg m,A8 (x:=e * e) (by omega) (by omega),Int.tdiv_eq_ediv_of_nonneg g,A8 (by omega) (by omega),← l (e * e)]
 unfold G5
 congr 1
 rw [Bool.eq_iff_iff]
 simp only [Bool.not_eq_true',C7,decide_eq_false_iff_not]
 rw [Int.le_ediv_iff_mul_le h]
 omega
def OW (ft:Nat → Nat → Int → Int → Bool) (ds:List Int) (p:Int):Bool:=(List.range ds.length).all fun i=>ft i ds.length (ds.getD i 0) p
def LE (ft:Nat → Nat → Int → Int → Bool):Nat → List Int → Bool
 | 0,_=>true
 | r + 1,ds=>(List.range 5).any fun (p:Nat)=>OW ft ds (p:Int) && LE ft r (ds ++ [(p:Int)])
def LD (ft:Nat → Nat → Int → Int → Bool):Nat → List Int → Nat → Bool
 | 0,_,s=>s == 0
 | r + 1,ds,s=>(List.range (min s 4 + 1)).any fun (p:Nat)=>OW ft ds (p:Int) && LD ft r (ds ++ [(p:Int)]) (s - p)
theorem R9 (e:Nat → Nat → Int → Int → Bool):∀ (r:Nat) (ds:List Int),LE e r ds = true ↔ ∃ s,s ≤ 4 * r ∧ LD e r ds s = true
 | 0,ds=>by simp [LE,LD]
 | r + 1,ds=>by
  rw [LE,List.any_eq_true]
  constructor
  ·rintro ⟨p,f,h⟩
   rw [Cg,R9 e r] at h
   obtain ⟨h1,s,h2,v⟩:=h
   have g:=List.mem_range.1 f
   refine ⟨s + p,by omega,?_⟩
   rw [LD,List.any_eq_true]
   refine ⟨p,List.mem_range.2 (by omega),?_⟩
   rw [Cg,Nat.add_sub_cancel]
   exact ⟨h1,v⟩
  ·rintro ⟨s,hs,h⟩
   rw [LD,List.any_eq_true] at h
   obtain ⟨p,f,h⟩:=h
   rw [Cg] at h
   have g:=List.mem_range.1 f
   refine ⟨p,List.mem_range.2 (by omega),?_⟩
   rw [Cg,R9 e r]
   refine ⟨h.1,?_⟩
   by_cases l:s - p ≤ 4 * r
   ·exact ⟨s - p,l,h.2⟩
   ·exfalso
    have u:∀ (r:Nat) (ds:List Int) (s:Nat),LD e r ds s = true → s ≤ 4 * r:=by
     intro r
     induction r with
     | zero=>intro ds s h; simpa [LD] using h
     | succ r m =>
      intro ds s h
      rw [LD,List.any_eq_true] at h
      obtain ⟨p,f,h⟩:=h
      rw [Cg] at h
      have g:=List.mem_range.1 f
      have:=m _ _ h.2
      omega
    exact l (u r _ _ h.2)
theorem Zo {R:Type} (f:Nat → Int → Af R) (n:Nat) (p:Nat → Bool) (e:Nat → Af R) (g:Af R) (hn:n < 4611686018427387904)
  (hs:∀ m k,k < n → f (m + 1) (k:Int) = if p k = true then e k else f m ((k + 1:Nat):Int)) (he:∀ m,f (m + 1) (n:Int) = g) {j:Nat} (l:j ≤ n):f FU (j:Int) = match (List.range' j (n - j)).find? p with
   | some k=>e k
   | none=>g:=by
 have aa:∀ d k m,n - k = d → k ≤ n → d < m → f m (k:Int) = match (List.range' k d).find? p with
   | some k=>e k
   | none=>g:=by
  intro d
  induction d with
  | zero =>
   intro k m hd hk s
   have:k = n:=by omega
   subst this
   cases m with
   | zero=>omega
   | succ m=>rw [he]; rfl
  | succ d u =>
   intro k m hd hk s
   cases m with
   | zero=>omega
   | succ m =>
    rw [hs m k (by omega),List.range'_succ,List.find?_cons]
    by_cases h:p k = true
    ·rw [if_pos h,h]
    ·have v:p k = false:=by simpa using h
     rw [if_neg h,v]
     exact u (k + 1) m (by omega) (by omega) (by omega)
 exact aa (n - j) j FU rfl l (DH (by omega))
theorem JA {ι S R:Type} (f:ι → Nat → S → Int → Af R) (n:Nat) (g:Nat → S → Prop) (rest:ι → S → Af R) (hn:n < 4611686018427387904) {b:Nat}
  (hs:∀ k s,b ≤ k → k < n → g k s → ∃ e,g (k + 1) e ∧ ∀ j m,f j (m + 1) s (k:Int) = f j m e ((k + 1:Nat):Int)) (he:∀ s,g n s → ∀ j m,f j (m + 1) s (n:Int) = rest j s) (hb:b ≤ n) {s:S} (h0:g b s) :
  ∃ e,g n e ∧ ∀ j,f j FU s (b:Int) = rest j e:=by
 have ae:∀ d k s,n - k = d → b ≤ k → k ≤ n → g k s → ∃ e,g n e ∧ ∀ j m,d < m → f j m s (k:Int) = rest j e:=by
  intro d
  induction d with
  | zero =>
   intro k s hd u hk h
   have:k = n:=by omega
   subst this
   refine ⟨s,h,fun j m v=>?_⟩
   cases m with
   | zero=>omega
   | succ m=>exact he s h j m
  | succ d ih =>
   intro k s hd u hk h
   obtain ⟨e,h1,l⟩:=hs k s u (by omega) h
   obtain ⟨s2,h3,h4⟩:=ih (k + 1) e (by omega) (by omega) (by omega) h1
   refine ⟨s2,h3,fun j m v=>?_⟩
   cases m with
   | zero=>omega
   | succ m=>rw [l]; exact h4 j m (by omega)
 obtain ⟨e,h1,l⟩:=ae (n - b) b s rfl (Nat.le_refl _) hb h0
 exact ⟨e,h1,fun j=>l j FU (DH (by omega))⟩
theorem XM {S R:Type} (f:Nat → S → Int → Af R) (n:Nat) (e:S → Prop) (a:Nat → Bool) (l v:R → Prop) (hn:n < 4611686018427387904)
  (hs:∀ k s,k < n → e s → (a k = true ∧ ∃ r,l r ∧ ∀ m,f (m + 1) s (k:Int) = some r) ∨ (a k = false ∧ ∃ h,e h ∧ ∀ m,f (m + 1) s (k:Int) = f m h ((k + 1:Nat):Int)))
  (he:∀ s,e s → ∃ r,v r ∧ ∀ m,f (m + 1) s (n:Int) = some r) {s:S} (h0:e s):∃ r,f FU s 0 = some r ∧ (((List.range n).any a = true ∧ l r) ∨ ((List.range n).any a = false ∧ v r)):=by
 have ae:∀ d k m s,n - k = d → k ≤ n → d < m → e s → ∃ r,f m s (k:Int) = some r ∧ (((List.range' k d).any a = true ∧ l r) ∨ ((List.range' k d).any a = false ∧ v r)):=by
  intro d
  induction d with
  | zero =>
   intro k m s hd hk hm u
   have:k = n:=by omega
   subst this
   cases m with
   | zero=>omega
   | succ m =>
    obtain ⟨r,h1,g⟩:=he s u
    exact ⟨r,g m,.inr ⟨rfl,h1⟩⟩
  | succ d ih =>
   intro k m s hd hk hm u
   cases m with
   | zero=>omega
   | succ m =>
    rw [List.range'_succ,List.any_cons]
    rcases hs k s (by omega) u with ⟨h1,r,g,h3⟩ | ⟨h1,h,g,h3⟩
    ·exact ⟨r,h3 m,.inl ⟨by rw [h1]; rfl,g⟩⟩
    ·rw [h3,h1,Bool.false_or]
     exact ih (k + 1) m h (by omega) (by omega) (by omega) g
 have:=ae n 0 FU s rfl (by omega) (DH hn) h0
 rwa [← List.range_eq_range'] at this
structure RepF (t:BU) (least:Int):Prop where
 tr:XX t
 c16:t.2.2.1 ≤ 16
 n6:t.1.length ≤ 6
 l0:0 ≤ least ∧ least ≤ 80
theorem RepF.del {t:BU} {h:Int} (f:RepF t h) {i k:Nat} (m:i < t.1.length) (l:k < t.1.length) {p q:Int} (g:0 ≤ p ∧ p ≤ 4) (e:0 ≤ q ∧ q ≤ 4):Uz (Hi t i) (Hi t k) p q :=
 ⟨JY f.tr m,JY f.tr l,f.tr.can.n1,f.c16,rfl,g,e⟩
def TS (t:BU) (least:Int) (i k:Nat):Bool:=KS (Hi t i) (Hi t k) 0 0 least
theorem Rq {n i:Nat} (h:i < n):(List.replicate n (0:Int))[i]? = some 0:=by simp [h]
theorem Xy {t:BU} {e:Int} (f:RepF t e):Hr t (List.replicate t.1.length 0) e = some (J5 (TS t e) t.1.length t.1.length):=by
 have u:=f.n6
 unfold Hr
 rw [Oa f.tr,Aa]
 refine Ny (D7 (G3 t) (List.replicate t.1.length 0) e) (fun h i=>D6 (G3 t) (i:Int) (List.replicate t.1.length 0) e h) _ _ (by omega) (fun m s i g=>?_) (fun h i m s k g l v=>?_) (fun h i m s g=>?_) (fun m s=>?_)
 ·rw [D7,if_pos (by rw [DY]; simp; omega),AE (by omega)]
 ·rw [D6,if_pos (by rw [DY]; simp; omega)]
  unfold Bk TS
  dsimp only
  rw [AY,Is t g,Aa,AY,Is t l,Aa,AY,Rq g,Aa,AY,Rq l,Aa,Nr (f.del g l (by omega) (by omega)) f.l0,Aa,Br (by simp; omega),Aa,AE (by omega)]
  cases KS (Hi t i) (Hi t k) 0 0 e <;> rfl
 ·rw [D6,if_neg (by rw [DY]; simp),AE (by omega)]
 ·rw [D7,if_neg (by rw [DY]; simp)]
theorem RR {t:BU} {e:Int} (f:RepF t e):Ix t (List.replicate t.1.length 0) e = some (J5 (TS t e) t.1.length t.1.length):=by
 have u:=f.n6
 unfold Ix
 rw [LS f.tr,Aa]
 refine Ny (EW (G3 t) (List.replicate t.1.length 0) e) (fun h i=>EV (G3 t) (List.replicate t.1.length 0) (i:Int) (Hi t i) e h) _ _ (by omega) (fun m s i g=>?_) (fun h i m s k g l v=>?_) (fun h i m s g=>?_) (fun m s=>?_)
 ·rw [EW,if_pos (by rw [DY]; simp; omega),AY,Is t g,Aa,AE (by omega)]
 ·rw [EV,if_pos (by rw [DY]; simp; omega)]
  unfold Bk TS
  dsimp only
  rw [AY,Is t l,Aa,AY,Rq g,Aa,AY,Rq l,Aa,RQ (f.del g l (by omega) (by omega)) f.l0,Aa,Bool.not_not,Br (by simp; omega),Aa,AE (by omega)]
  cases KS (Hi t i) (Hi t k) 0 0 e <;> rfl
 ·rw [EV,if_neg (by rw [DY]; simp),AE (by omega)]
 ·rw [EW,if_neg (by rw [DY]; simp)]
def OR (t:BU) (least:Int):Bool:=((J5 (TS t least) t.1.length t.1.length).length:Int) == 0
theorem Nq {t:BU} {e:Int} (f:RepF t e):Ge t e = some (OR t e):=by
 have g:=f.n6
 unfold Ge OR
 rw [N8 (by omega),Aa,Xy f,Aa]
def Ot (t:BU) (i k:Nat):BU:=(t.1,t.2.1,t.2.2.1,(t.2.2.2.set i (IK t.2.2.2 k)).set k (IK t.2.2.2 i))
theorem Aa5 {t:BU} {s:Int} (f:RepF t s) {i k:Nat} (v:i < t.1.length) (u:k < t.1.length):RepF (Ot t i k) s:=by
 have m:=f.tr.mat
 refine ⟨⟨f.tr.can,by unfold Ot; simpa using m,fun j l=>?_⟩,f.c16,f.n6,f.l0⟩
 have h1:=f.tr.inR i v
 have h2:=f.tr.inR k u
 have h3:=f.tr.inR j l
 unfold Ot
 unfold Ot at l
 dsimp only at l ⊢
 have e:IK ((t.2.2.2.set i (IK t.2.2.2 k)).set k (IK t.2.2.2 i)) j = if k = j then IK t.2.2.2 i else if i = j then IK t.2.2.2 k else IK t.2.2.2 j:=by
  conv=>lhs; unfold IK
  rw [List.getElem?_set,List.length_set,List.getElem?_set,m]
  by_cases g:k = j
  ·rw [if_pos g,if_pos u,if_pos g]; rfl
  ·rw [if_neg g,if_neg g]
   by_cases h:i = j
   ·rw [if_pos h,if_pos v,if_pos h]; rfl
   ·rw [if_neg h,if_neg h]; rfl
 rw [e]
 split
 ·exact h1
 ·split
  ·exact h2
  ·exact h3
theorem Tq {t:BU} {e:Int} (f:RepF t e) {i k:Nat} (s:i < t.1.length) (m:k < t.1.length):Ic t (i:Int) (k:Int) = some (Ot t i k):=by
 have g:=f.tr.mat
 have h:=f.n6
 have l:=f.tr.can.le
 unfold Ic
 rw [KP (by omega) (by omega) (by omega),Aa]
 unfold Bk Ot
 dsimp only
 rw [AY,JB (by omega),Aa,AY,JB (by omega),Aa,Aa,JX,Jo (by simp; omega),Aa,JX]
theorem Xr {t:BU} {e:Int} (f:RepF t e) {i k:Nat} (s:i < t.1.length) (m:k < t.1.length):Km t (i:Int) (k:Int) = some (Ot t i k):=by
 have g:=f.tr.mat
 have h:=f.n6
 have l:=f.tr.can.le
 unfold Km
 rw [OL (by omega) (by omega) (by omega),Aa]
 unfold Ot
 dsimp only
 rw [AY,JB (by omega),Aa,AY,JB (by omega),Aa,Aa,JX,Jo (by simp; omega),Aa,JX]
def SS (t:BU) (least:Int) (i:Nat):Af Nat:=(List.range' (i + 1) (t.1.length - (i + 1))).find? fun k=>OR (Ot t i k) least
def VZ (t:BU) (least:Int):Af Nat:=(List.range t.1.length).find? fun i=>(SS t least i).isSome
theorem Tr {t:BU} {e:Int} (f:RepF t e):∃ r,Id t e = some r ∧ r.2.2 = (VZ t e).isSome:=by
 have l:=f.n6
 unfold Id
 rw [Tn (Dm t e) t.1.length (fun i=>(SS t e i).isSome) (fun i=>some ((i:Int),((SS t e i).getD 0:Int),true)) (some (0,0,false)) (by omega) (fun m i g=>?_) (fun m=>?_)]
 ·unfold VZ
  cases (List.range t.1.length).find? fun i=>(SS t e i).isSome with
  | none=>exact ⟨_,rfl,rfl⟩
  | some i=>exact ⟨_,rfl,rfl⟩
 ·rw [Dm,if_pos (by simp; omega),AE (by omega)]
  rw [Zo (Ee t (i:Int) e (Dm t e m)) t.1.length (fun k=>OR (Ot t i k) e) (fun k=>some ((i:Int),(k:Int),true)) (Dm t e m ((i + 1:Nat):Int)) (by omega) (fun m k h=>?_) (fun m=>?_) (j:=i + 1) (by omega)]
  ·unfold SS
   cases (List.range' (i + 1) (t.1.length - (i + 1))).find? fun k=>OR (Ot t i k) e <;> rfl
  ·rw [Ee,if_pos (by simp; omega),Tq f g h,Aa,Nq (Aa5 f g h),Aa,AE (by omega)]
  ·rw [Ee,if_neg (by simp),AE (by omega)]
 ·rw [Dm,if_neg (by simp)]
theorem Xp {t:BU} {g:Int} (f:RepF t g):∃ r,Kj t g = some r ∧ decide (0 ≤ r.1) = (VZ t g).isSome:=by
 have s:=f.n6
 unfold Kj
 rw [N8 (by omega),Aa]
 rw [Tn (Ek t (List.replicate t.1.length 0) g) t.1.length (fun i=>(SS t g i).isSome) (fun i=>some ((i:Int),((SS t g i).getD 0:Int))) (some (-1,-1)) (by omega) (fun m i h=>?_) (fun m=>?_)]
 ·unfold VZ
  cases (List.range t.1.length).find? fun i=>(SS t g i).isSome with
  | none=>exact ⟨_,rfl,rfl⟩
  | some i=>exact ⟨_,rfl,by simp⟩
 ·rw [Ek,if_pos (by simp; omega),AE (by omega)]
  rw [Zo (FB t (i:Int) (List.replicate t.1.length 0) g (Ek t (List.replicate t.1.length 0) g m)) t.1.length (fun k=>OR (Ot t i k) g) (fun k=>some ((i:Int),(k:Int))) (Ek t (List.replicate t.1.length 0) g m ((i + 1:Nat):Int)) (by omega) (fun m k l=>?_) (fun m=>?_) (j:=i + 1) (by omega)]
  ·unfold SS
   cases (List.range' (i + 1) (t.1.length - (i + 1))).find? fun k=>OR (Ot t i k) g <;> rfl
  ·have e:=RR (Aa5 f h l)
   rw [show (Ot t i k).1.length = t.1.length by rfl] at e
   rw [FB,if_pos (by simp; omega),Xr f h l,Aa,e,Aa,AE (by omega)]
   rfl
  ·rw [FB,if_neg (by simp),AE (by omega)]
 ·rw [Ek,if_neg (by simp)]
def Hp (t:BU) (least:Int) (i k:Nat) (q p:Int):Bool:=!KS (Hi t i) (Hi t k) q p least
def HL (i k q p:Nat):Nat:=i * 150 + k * 25 + q * 5 + p * 1
def XQ (ds:List Int):Prop:=∀ i,i < ds.length → ∃ q:Nat,q < 5 ∧ ds[i]? = some (q:Int)
theorem WJ {ds:List Int} (h:XQ ds) {p:Nat} (l:p < 5):XQ (ds ++ [(p:Int)]):=by
 intro i g
 rw [CM,List.length_singleton] at g
 by_cases e:i < ds.length
 ·obtain ⟨q,h1,f⟩:=h i e
  exact ⟨q,h1,by rw [List.getElem?_append_left e]; exact f⟩
 ·have:i = ds.length:=by omega
  subst this
  exact ⟨p,l,by simp⟩
theorem Abe {ds:List Int} {i q:Nat} (h:ds[i]? = some (q:Int)):ds.getD i 0 = (q:Int):=by rw [List.getD_eq_getElem?_getD,h]; rfl
structure Ql (t:BU) (least:Int) (l:List Int):Prop where
 len:l.length = 900
 val:∀ i k q p:Nat,i < t.1.length → k < t.1.length → q < 5 → p < 5 → l[HL i k q p]? = some 0 ∨ l[HL i k q p]? = some (if Hp t least i k (q:Int) (p:Int) = true then 1 else 2)
theorem YL {t:BU} {g:Int} (f:RepF t g) {l:List Int} (h:Ql t g l) {i k q p:Nat} (hi:i < t.1.length) (hk:k < t.1.length) (hq:q < 5) (hp:p < 5) :
  ∃ l',Ql t g l' ∧ G7 (G3 t,g,l) (i:Int) (k:Int) (q:Int) (p:Int) = some (Hp t g i k (q:Int) (p:Int),(G3 t,g,l')):=by
 have h6:=f.n6
 have v:(decide (0 ≤ (i:Int)) && decide ((i:Int) < 6)) = true:=by simp; omega
 have u:(decide (0 ≤ (k:Int)) && decide ((k:Int) < 6)) = true:=by simp; omega
 have c3:(decide (0 ≤ (q:Int)) && decide ((q:Int) < 5)) = true:=by simp; omega
 have s:(decide (0 ≤ (p:Int)) && decide ((p:Int) < 5)) = true:=by simp; omega
 have m:HL i k q p < 900:=by unfold HL; omega
 unfold G7 Bk Gk
 dsimp only
 rw [if_pos v,if_pos u,if_pos c3,if_pos s]
 simp only [Int.toNat_natCast]
 rw [show i * 150 + k * 25 + q * 5 + p * 1 = HL i k q p by rfl]
 rcases h.val i k q p hi hk hq hp with h0 | h0
 ·rw [h0,Aa,if_pos (by simp),AY,Is t hi,Aa,AY,Is t hk,Aa,RQ (f.del hi hk (by omega) (by omega)) f.l0,Aa]
  refine ⟨l.set (HL i k q p) (if Hp t g i k (q:Int) (p:Int) = true then 1 else 2),⟨by rw [List.length_set]; exact h.len,fun i' k' q' p' am aj al ao=>?_⟩,?_⟩
  ·by_cases e:HL i k q p = HL i' k' q' p'
   ·have:i = i' ∧ k = k' ∧ q = q' ∧ p = p':=by unfold HL at e; omega
    obtain ⟨rfl,rfl,rfl,rfl⟩:=this
    right
    rw [List.getElem?_set_self (by rw [h.len]; exact m)]
   ·rw [List.getElem?_set_ne e]
    exact h.val i' k' q' p' am aj al ao
  ·have e:Hp t g i k (q:Int) (p:Int) = !KS (Hi t i) (Hi t k) (q:Int) (p:Int) g:=rfl
   rw [e]
   unfold NM
   rw [h.len,if_pos m]
   cases KS (Hi t i) (Hi t k) (q:Int) (p:Int) g with
   | false =>
    simp only [Bool.not_false,if_true,Aa]
    rw [if_pos v,if_pos u,if_pos c3,if_pos s,List.getElem?_set_self (by rw [h.len]; exact m),Aa]
    rfl
   | true =>
    simp only [Bool.not_true,Bool.false_eq_true,if_false,Aa]
    rw [if_pos m,Aa,if_pos v,if_pos u,if_pos c3,if_pos s,List.getElem?_set_self (by rw [h.len]; exact m),Aa]
    rfl
 ·refine ⟨l,h,?_⟩
  rw [h0,Aa]
  have ai:((if Hp t g i k (q:Int) (p:Int) = true then (1:Int) else 2) == 0) = false:=by split <;> rfl
  rw [ai,if_neg (by simp),if_pos v,if_pos u,if_pos c3,if_pos s,Aa]
  cases Hp t g i k (q:Int) (p:Int) <;> rfl
theorem M7 (a:Nat → Bool) (k:Nat):(List.range (k + 1)).all a = ((List.range k).all a && a k):=by rw [List.range_succ,List.all_append]; simp
abbrev T2:=(List FX) × Int × (List Int)
theorem Aal {t:BU} {e:Int} (f:RepF t e) {l:List Int} (h:Ql t e l) {ds:List Int} (hd:XQ ds) (hl:ds.length < t.1.length) {p:Nat} (hp:p < 5) (s:Int) (hs:0 ≤ s ∧ s ≤ 1000) :
  ∃ g,Ql t e g ∧ ∀ (v:T2 → Af ((List Int) × T2)) (aa:T2 → (List Int) → Int → Af ((List Int) × T2)),CN ds (p:Int) v aa s FU (G3 t,e,l) true 0 =
   if OW (Hp t e) ds (p:Int) = true then Option.bind (aa (G3 t,e,g) (ds ++ [(p:Int)]) (s - p)) fun u=>(if (decide (0 < (List.length u.1:Int))) = true then some (u.1,u.2) else v u.2) else v (G3 t,e,g):=by
 have h6:=f.n6
 refine Exists.elim (JA (fun (j:(T2 → Af ((List Int) × T2)) × (T2 → (List Int) → Int → Af ((List Int) × T2))) m (z:T2 × Bool) k=>CN ds (p:Int) j.1 j.2 s m z.1 z.2 k) ds.length
  (fun k z=>∃ g,Ql t e g ∧ z.1 = (G3 t,e,g) ∧ z.2 = (List.range k).all fun i=>Hp t e i ds.length (ds.getD i 0) (p:Int))
  (fun j z=>if (!z.2) = true then j.1 z.1 else Option.bind (j.2 z.1 (ds ++ [(p:Int)]) (s - p)) fun u=>(if (decide (0 < (List.length u.1:Int))) = true then some (u.1,u.2) else j.1 u.2)) (by omega)
  (fun k z _ hk hi=>?_) (fun z hi j m=>?_) (b:=0) (by omega) (s:=((G3 t,e,l),true)) ⟨l,h,rfl,rfl⟩) ?_
 ·obtain ⟨x,b⟩:=z
  obtain ⟨l1,g1,g2,g3⟩:=hi
  dsimp only at g2 g3
  subst g2
  obtain ⟨q,hq,ac⟩:=hd k hk
  cases hb:b with
  | false =>
   refine ⟨((G3 t,e,l1),false),⟨l1,g1,rfl,?_⟩,fun j m=>?_⟩
   ·rw [M7,← g3,hb]; rfl
   ·dsimp only
    rw [CN,if_pos (by simp; omega)]
    unfold Gk
    dsimp only
    rw [AY,ac,Aa,if_neg (by simp),AE (by omega)]
  | true =>
   obtain ⟨l2,g4,g5⟩:=YL f g1 (i:=k) (k:=ds.length) (q:=q) (p:=p) (by omega) hl hq hp
   refine ⟨((G3 t,e,l2),Hp t e k ds.length (q:Int) (p:Int)),⟨l2,g4,rfl,?_⟩,fun j m=>?_⟩
   ·rw [M7,← g3,hb,Bool.true_and,Abe ac]
   ·dsimp only
    rw [CN,if_pos (by simp; omega)]
    unfold Gk
    dsimp only
    rw [AY,ac,Aa,if_pos rfl,g5,Aa,AE (by omega)]
 ·obtain ⟨x,b⟩:=z
  dsimp only
  rw [CN,if_neg (by simp),SW _ (by omega),Aa,Br (by simp; omega),Aa,A8 (by omega) (by omega)]
 ·rintro ⟨x',b'⟩ ⟨⟨g,h1,h2,h3⟩,h4⟩
  dsimp only at h2 h3
  subst h2
  refine ⟨g,h1,fun v aa=>?_⟩
  have:=h4 (v,aa)
  dsimp only at this
  refine Eq.trans this ?_
  rw [h3]
  unfold OW
  cases (List.range ds.length).all fun i=>Hp t e i ds.length (ds.getD i 0) (p:Int) <;> rfl
theorem YM {t:BU} {g:Int} (f:RepF t g):∀ (r:Nat) (ds:List Int) (s:Nat) (m:Nat) (l:List Int),ds.length + r = t.1.length → XQ ds → s ≤ 100 → r < m → Ql t g l →
  ∃ out h,Ql t g h ∧ Db m (G3 t,g,l) ds (s:Int) = some (out,(G3 t,g,h)) ∧ decide (0 < out.length) = LD (Hp t g) r ds s:=by
 have h6:=f.n6
 have h1:=f.tr.can.l1
 intro r
 induction r with
 | zero =>
  intro ds s m l hl hd hs hm hk
  cases m with
  | zero=>omega
  | succ m =>
   rw [Db]
   unfold FSx
   rw [if_pos (by rw [DY,beq_iff_eq]; omega),LD]
   by_cases e:s = 0
   ·subst e
    exact ⟨ds,l,hk,by rfl,by simp; omega⟩
   ·exact ⟨[],l,hk,by rw [if_pos (by simp; omega)],by simp [e]⟩
 | succ r ih =>
  intro ds s m l hl hd hs hm hk
  cases m with
  | zero=>omega
  | succ m =>
   rw [Db]
   unfold FSx
   rw [if_neg (by rw [DY,beq_iff_eq]; omega)]
   refine Exists.elim (XM (CP (s:Int) ds (Db m)) (min s 4 + 1) (fun z=>∃ h,Ql t g h ∧ z = (G3 t,g,h)) (fun (p:Nat)=>OW (Hp t g) ds (p:Int) && LD (Hp t g) r (ds ++ [(p:Int)]) (s - p))
    (fun u=>∃ h,Ql t g h ∧ u.2 = (G3 t,g,h) ∧ 0 < u.1.length) (fun u=>∃ h,Ql t g h ∧ u = ([],(G3 t,g,h))) (by omega) (fun p z hp hz=>?_) (fun z hz=>?_) (s:=(G3 t,g,l)) ⟨l,hk,rfl⟩) ?_
   ·obtain ⟨l1,g1,rfl⟩:=hz
    obtain ⟨l2,g2,g3⟩:=Aal f g1 hd (by omega) (p:=p) (by omega) (s:Int) (by omega)
    have ab:min (s:Int) 4 = ((min s 4:Nat):Int):=by omega
    by_cases v:OW (Hp t g) ds (p:Int) = true
    ·obtain ⟨out,l3,g4,g5,g6⟩:=ih (ds ++ [(p:Int)]) (s - p) m l2 (by simp; omega) (WJ hd (by omega)) (by omega) (by omega) g2
     rw [show ((s - p:Nat):Int) = (s:Int) - (p:Int) by omega] at g5
     cases he:LD (Hp t g) r (ds ++ [(p:Int)]) (s - p) with
     | true =>
      rw [he,C7] at g6
      refine .inl ⟨by rw [v]; rfl,(out,(G3 t,g,l3)),⟨l3,g4,rfl,g6⟩,fun q=>?_⟩
      rw [CP,JZ,Aa,ab,if_pos (by simp; omega)]
      unfold Bk
      dsimp only
      rw [g3,if_pos v,g5,Aa,if_pos (by simpa using g6)]
     | false =>
      rw [he,decide_eq_false_iff_not] at g6
      refine .inr ⟨by rw [v]; rfl,(G3 t,g,l3),⟨l3,g4,rfl⟩,fun q=>?_⟩
      rw [CP,JZ,Aa,ab,if_pos (by simp; omega)]
      unfold Bk
      dsimp only
      rw [g3,if_pos v,g5,Aa,if_neg (by simpa using g6),AE (by omega)]
    ·refine .inr ⟨by simp [v],(G3 t,g,l2),⟨l2,g2,rfl⟩,fun q=>?_⟩
     rw [CP,JZ,Aa,ab,if_pos (by simp; omega)]
     unfold Bk
     dsimp only
     rw [g3,if_neg v,AE (by omega)]
   ·obtain ⟨l1,g1,rfl⟩:=hz
    have ab:min (s:Int) 4 = ((min s 4:Nat):Int):=by omega
    refine ⟨([],(G3 t,g,l1)),⟨l1,g1,rfl⟩,fun q=>?_⟩
    rw [CP,JZ,Aa,ab,if_neg (by rw [C7]; omega)]
   ·rintro u ⟨h2,h3⟩
    rw [LD]
    rcases h3 with ⟨h4,h,h5,ai,h7⟩ | ⟨h4,h,h5,ai⟩
    ·exact ⟨u.1,h,h5,by rw [h2,← ai],by rw [h4]; simpa using h7⟩
    ·subst ai
     exact ⟨[],h,h5,h2,by rw [h4]; rfl⟩
theorem Vq {t:BU} {e:Int} (f:RepF t e):∃ r,Jr t e = some r ∧ decide (0 < r.1.length) = LE (Hp t e) t.1.length []:=by
 have h6:=f.n6
 unfold Jr
 rw [LS f.tr,Aa]
 have ak:Ql t e (List.replicate 900 0):=⟨List.length_replicate,fun i k q p hi hk hq hp=>.inl (by rw [List.getElem?_replicate,if_pos (by unfold HL; omega)])⟩
 refine Exists.elim (XM (Ea t) (4 * t.1.length + 1) (fun z=>∃ l',Ql t e l' ∧ z = (G3 t,e,l')) (fun s=>LD (Hp t e) t.1.length [] s)
  (fun h=>0 < h.1.length) (fun h=>h.1 = []) (by omega) (fun s z hs v=>?_) (fun z v=>?_) (s:=(G3 t,e,List.replicate 900 0)) ⟨_,ak,rfl⟩) ?_
 ·obtain ⟨l1,g1,rfl⟩:=v
  obtain ⟨out,l3,g4,g5,g⟩:=YM f t.1.length [] s FU l1 (by simp) (fun i hi=>by simp at hi) (by omega) (DH (by omega)) g1
  cases he:LD (Hp t e) t.1.length [] s with
  | true =>
   rw [he,C7] at g
   refine .inl ⟨rfl,(out,(s:Int)),g,fun q=>?_⟩
   rw [Ea,A8 (by omega) (by omega),if_pos (by simp; omega)]
   unfold HP
   rw [g5,Aa,if_pos (by simpa using g)]
  | false =>
   rw [he,decide_eq_false_iff_not] at g
   refine .inr ⟨rfl,(G3 t,e,l3),⟨l3,g4,rfl⟩,fun q=>?_⟩
   rw [Ea,A8 (by omega) (by omega),if_pos (by simp; omega)]
   unfold HP
   rw [g5,Aa,if_neg (by simpa using g),AE (by omega)]
 ·obtain ⟨l1,g1,rfl⟩:=v
  refine ⟨([],0),rfl,fun q=>?_⟩
  rw [Ea,A8 (by omega) (by omega),if_neg (by simp; omega)]
 ·rintro h ⟨h2,h3⟩
  refine ⟨h,h2,?_⟩
  rcases h3 with ⟨m,u⟩ | ⟨m,u⟩
  ·have:LE (Hp t e) t.1.length [] = true:=by
    rw [R9]
    obtain ⟨s,h7,l⟩:=List.any_eq_true.1 m
    exact ⟨s,by have:=List.mem_range.1 h7; omega,l⟩
   rw [this]
   simpa using u
  ·have:LE (Hp t e) t.1.length [] = false:=by
    rw [← Bool.not_eq_true,R9]
    rintro ⟨s,h7,l⟩
    have:=List.any_eq_false.1 m s (List.mem_range.2 (by omega))
    exact this l
   rw [this,u]
   rfl
structure T5 (t:BU) (least:Int) (l:List Bool) (c:Nat):Prop where
 len:l.length = 900
 val:∀ i k q p:Nat,i < k → k < t.1.length → q < 5 → p < 5 → HL i k q p < c → l[HL i k q p]? = some (!Hp t least i k (q:Int) (p:Int))
abbrev OA:=(List Bool) × Int × (List Int) × Int
theorem Add {t:BU} {e:Int} (f:RepF t e) {l:List Bool} (h:T5 t e l 900) {ds:List Int} (hd:XQ ds) (hl:ds.length < t.1.length) {p:Nat} (hp:p < 5) (s:Int) (hs:0 ≤ s ∧ s ≤ 1000)
  (y:OA) (hy:y.1 = l) (g:OA → Af OA) (u:OA → (List Int) → Int → Af OA):CH ds (p:Int) u s g FU y true 0 =
   if OW (Hp t e) ds (p:Int) = true then Option.bind (u y (ds ++ [(p:Int)]) (s + p)) g else g y:=by
 have h6:=f.n6
 refine ED (fun m (b:Bool) k=>CH ds (p:Int) u s g m y b k) ds.length (fun k=>(List.range k).all fun i=>Hp t e i ds.length (ds.getD i 0) (p:Int)) _ (by omega) (j:=0) (by omega) (fun m k _ v=>?_) (fun m=>?_)
 ·obtain ⟨q,hq,aa⟩:=hd k v
  rw [CH,if_pos (by simp; omega)]
  unfold Gk
  dsimp only
  rw [AY,aa,Aa,M7,AE (by omega)]
  cases (List.range k).all fun i=>Hp t e i ds.length (ds.getD i 0) (p:Int) with
  | false=>rfl
  | true =>
   have c1:(decide (0 ≤ (k:Int)) && decide ((k:Int) < 6)) = true:=by simp; omega
   have c2:(decide (0 ≤ (ds.length:Int)) && decide ((ds.length:Int) < 6)) = true:=by simp; omega
   have c3:(decide (0 ≤ (q:Int)) && decide ((q:Int) < 5)) = true:=by simp; omega
   have c4:(decide (0 ≤ (p:Int)) && decide ((p:Int) < 5)) = true:=by simp; omega
   rw [if_pos rfl,if_pos c1,if_pos c2,if_pos c3,if_pos c4]
   simp only [Int.toNat_natCast]
   rw [show k * 150 + ds.length * 25 + q * 5 + p * 1 = HL k ds.length q p by rfl,hy,h.val k ds.length q p v hl hq hp (by unfold HL; omega),Aa,Bool.not_not,Bool.true_and,Abe aa]
 ·rw [CH,if_neg (by simp),Nd _ (by omega),Aa,Br (by simp; omega),Aa,A8 (by omega) (by omega)]
  rfl
theorem Zw {t:BU} {ab:Int} (f:RepF t ab) {l:List Bool} (hc:T5 t ab l 900):∀ (r:Nat) (ds:List Int) (s:Nat) (m:Nat) (g:List Int) (h:Int),ds.length + r = t.1.length → XQ ds → s ≤ 4 * ds.length → r < m →
  ∃ best' sm',Cl m (l,(t.1.length:Int),g,h) ds (s:Int) = some (l,(t.1.length:Int),best',sm') ∧ (!best'.isEmpty) = ((!g.isEmpty) || LE (Hp t ab) r ds):=by
 have h6:=f.n6
 have h1:=f.tr.can.l1
 intro r
 induction r with
 | zero =>
  intro ds s m g h hl hd hs hm
  cases m with
  | zero=>omega
  | succ m =>
   rw [Cl]
   unfold EL Gk
   dsimp only
   have aj:ds.isEmpty = false:=by rw [List.isEmpty_eq_false_iff]; intro e; rw [e] at hl; simp at hl; omega
   have am:(if ((ds.length:Int) == (t.1.length:Int)) = true then Option.bind (Ft ds) fun ad=>(if (List.isEmpty ad) = true then none else some (l,(t.1.length:Int),ad,(s:Int))) else Ct ds (Cl m) (s:Int) FU (l,(t.1.length:Int),g,h) 0) = some (l,(t.1.length:Int),ds,(s:Int)):=by
    rw [if_pos (by rw [beq_iff_eq]; omega),Nd _ (by omega),Aa,aj,if_neg (by simp)]
   rw [LE,Bool.or_true]
   cases u:g.isEmpty with
   | true =>
    rw [if_neg (by simp),if_neg (by simp),am]
    exact ⟨ds,_,rfl,by rw [aj]; rfl⟩
   | false =>
    rw [if_pos (by simp)]
    by_cases ac:h ≤ (s:Int)
    ·rw [if_pos (decide_eq_true ac)]
     exact ⟨g,h,rfl,by rw [u]; rfl⟩
    ·rw [if_neg (by simpa using ac),am]
     exact ⟨ds,_,rfl,by rw [aj]; rfl⟩
 | succ r ih =>
  intro ds s m g h hl hd hs hm
  cases m with
  | zero=>omega
  | succ m =>
   rw [Cl]
   unfold EL Gk
   dsimp only
   have go:∃ best' sm',(if ((ds.length:Int) == (t.1.length:Int)) = true then Option.bind (Ft ds) fun ad=>(if (List.isEmpty ad) = true then none else some (l,(t.1.length:Int),ad,(s:Int))) else Ct ds (Cl m) (s:Int) FU (l,(t.1.length:Int),g,h) 0) = some (l,(t.1.length:Int),best',sm') ∧ (!best'.isEmpty) = ((!g.isEmpty) || LE (Hp t ab) (r + 1) ds):=by
    rw [if_neg (by rw [beq_iff_eq]; omega)]
    refine Exists.elim (JA (fun (_:Unit) m' (z:OA) k=>Ct ds (Cl m) (s:Int) m' z k) 5 (fun k z=>∃ v s',z = (l,(t.1.length:Int),v,s') ∧ (!v.isEmpty) = ((!g.isEmpty) || (List.range k).any fun (p:Nat)=>OW (Hp t ab) ds (p:Int) && LE (Hp t ab) r (ds ++ [(p:Int)])))
     (fun _ z=>some z) (by omega) (fun p z _ hp hz=>?_) (fun z hz j m'=>?_) (b:=0) (by omega) (s:=(l,(t.1.length:Int),g,h)) ⟨g,h,rfl,by simp⟩) ?_
    ·obtain ⟨v,s',rfl,u⟩:=hz
     have ao:=Add f hc hd (by omega) (p:=p) hp (s:Int) (by omega) (l,(t.1.length:Int),v,s') rfl
     by_cases hf:OW (Hp t ab) ds (p:Int) = true
     ·obtain ⟨b2,s2,g1,g2⟩:=ih (ds ++ [(p:Int)]) (s + p) m v s' (by simp; omega) (WJ hd hp) (by simp; omega) (by omega)
      refine ⟨(l,(t.1.length:Int),b2,s2),⟨b2,s2,rfl,?_⟩,fun _ m'=>?_⟩
      ·rw [g2,u,List.range_succ,List.any_append,List.any_cons,List.any_nil,Bool.or_false,hf,Bool.true_and,Bool.or_assoc]
      ·rw [Ct,if_pos (by simp; omega)]
       unfold Bk
       dsimp only
       rw [ao,if_pos hf,show (s:Int) + (p:Int) = ((s + p:Nat):Int) by omega,g1,Aa,AE (by omega)]
     ·refine ⟨(l,(t.1.length:Int),v,s'),⟨v,s',rfl,?_⟩,fun _ m'=>?_⟩
      ·have ax:OW (Hp t ab) ds (p:Int) = false:=by simpa using hf
       rw [u,List.range_succ,List.any_append,List.any_cons,List.any_nil,Bool.or_false,ax,Bool.false_and,Bool.or_false]
      ·rw [Ct,if_pos (by simp; omega)]
       unfold Bk
       dsimp only
       rw [ao,if_neg hf,AE (by omega)]
    ·rw [Ct,if_neg (by decide)]
    ·rintro z ⟨⟨v,s',rfl,u⟩,hz⟩
     exact ⟨v,s',hz (),u⟩
   cases u:g.isEmpty with
   | true =>
    rw [if_neg (by simp),if_neg (by simp)]
    rw [u] at go
    exact go
   | false =>
    rw [if_pos (by simp)]
    by_cases ac:h ≤ (s:Int)
    ·rw [if_pos (decide_eq_true ac)]
     exact ⟨g,h,rfl,by rw [u]; rfl⟩
    ·rw [if_neg (by simpa using ac)]
     rw [u] at go
     exact go
theorem Tx {t:BU} {m:Int} {l:List Bool} {c c':Nat} (h:T5 t m l c) (s:∀ i k q p:Nat,i < k → k < t.1.length → q < 5 → p < 5 → HL i k q p < c' → HL i k q p < c):T5 t m l c' :=
 ⟨h.len,fun i k q p h1 f g e u=>h.val i k q p h1 f g e (s i k q p h1 f g e u)⟩
def O4 (t:BU) (l:List Bool):OA:=(l,(t.1.length:Int),[],0)
theorem Ss {t:BU} {h:Int} (f:RepF t h):∃ r,HF t h = some r ∧ (!r.1.isEmpty) = LE (Hp t h) t.1.length []:=by
 have h6:=f.n6
 unfold HF
 rw [Oa f.tr,Aa,DY]
 have h0:T5 t h (List.replicate 900 false) (HL 0 1 0 0):=⟨List.length_replicate,fun i k q p h1 h2 h3 h4 h5=>by unfold HL at h5; omega⟩
 refine Exists.elim (JA (fun (_:Unit) m (z:OA) i=>DO (G3 t) h m z i) t.1.length (fun i z=>∃ l,z = O4 t l ∧ T5 t h l (HL i (i + 1) 0 0)) (fun _ z=>Option.bind (GU z [] 0) fun al=>some (al.2.2.1,al.2.2.2)) (by omega) (fun i z _ hi g=>?_) (fun z g j m=>?_) (b:=0) (by omega) (s:=O4 t (List.replicate 900 false)) ⟨_,rfl,h0⟩) ?_
 ·obtain ⟨l,rfl,hl⟩:=g
  refine Exists.elim (JA (fun (u:OA → Int → Af Ae7) m (z:OA) k=>DN (G3 t) (i:Int) h u m z k) t.1.length (fun k z=>∃ l,z = O4 t l ∧ T5 t h l (HL i k 0 0)) (fun u z=>u z ((i + 1:Nat):Int)) (by omega) (fun k z a1 hk g=>?_) (fun z g j m=>?_) (b:=i + 1) (by omega) (s:=O4 t l) ⟨_,rfl,hl⟩) ?_
  ·obtain ⟨l,rfl,hl⟩:=g
   refine Exists.elim (JA (fun (u:OA → Int → Af Ae7) m (z:OA) p=>DM (G3 t) (i:Int) (k:Int) h u m z p) 5 (fun p z=>∃ l,z = O4 t l ∧ T5 t h l (HL i k p 0)) (fun u z=>u z ((k + 1:Nat):Int)) (by omega) (fun p z _ hp g=>?_) (fun z g j m=>?_) (b:=0) (by omega) (s:=O4 t l) ⟨_,rfl,hl⟩) ?_
   ·obtain ⟨l,rfl,hl⟩:=g
    refine Exists.elim (JA (fun (u:OA → Int → Af Ae7) m (z:OA) q=>DL (G3 t) (i:Int) (k:Int) (p:Int) h u m z q) 5 (fun q z=>∃ l,z = O4 t l ∧ T5 t h l (HL i k p q)) (fun u z=>u z ((p + 1:Nat):Int)) (by omega) (fun q z _ hq g=>?_) (fun z g j m=>?_) (b:=0) (by omega) (s:=O4 t l) ⟨_,rfl,hl⟩) ?_
    ·obtain ⟨l,rfl,hl⟩:=g
     have c1:(decide (0 ≤ (i:Int)) && decide ((i:Int) < 6)) = true:=by simp; omega
     have c2:(decide (0 ≤ (k:Int)) && decide ((k:Int) < 6)) = true:=by simp; omega
     have c3:(decide (0 ≤ (p:Int)) && decide ((p:Int) < 5)) = true:=by simp; omega
     have c4:(decide (0 ≤ (q:Int)) && decide ((q:Int) < 5)) = true:=by simp; omega
     have am:HL i k p q < 900:=by unfold HL; omega
     refine ⟨O4 t (l.set (HL i k p q) (!Hp t h i k (p:Int) (q:Int))),⟨_,rfl,by rw [List.length_set]; exact hl.len,fun i' k' p' q' h1 h2 h3 h4 h5=>?_⟩,fun u m=>?_⟩
     ·by_cases e:HL i k p q = HL i' k' p' q'
      ·have:i = i' ∧ k = k' ∧ p = p' ∧ q = q':=by unfold HL at e; omega
       obtain ⟨rfl,rfl,rfl,rfl⟩:=this
       rw [List.getElem?_set_self (by rw [hl.len]; exact am)]
      ·rw [List.getElem?_set_ne e]
       exact hl.val i' k' p' q' h1 h2 h3 h4 (by unfold HL at h5 e ⊢; omega)
     ·have e:(!Hp t h i k (p:Int) (q:Int)) = KS (Hi t i) (Hi t k) (p:Int) (q:Int) h:=by unfold Hp; rw [Bool.not_not]
      rw [DL,if_pos (by simp; omega)]
      unfold Bk
      dsimp only
      rw [AY,Is t hi,Aa,AY,Is t hk,Aa,if_pos c1,if_pos c2,if_pos c3,Nr (f.del hi hk (by omega) (by omega)) f.l0,Aa,if_pos c4]
      simp only [Int.toNat_natCast]
      rw [show i * 150 + k * 25 + p * 5 + q * 1 = HL i k p q by rfl]
      unfold NM O4
      dsimp only
      rw [hl.len,if_pos am,Aa,AE (by omega),e]
    ·obtain ⟨l,rfl,hl⟩:=g
     rw [DL,if_neg (by decide),AE (by omega)]
    ·rintro z ⟨⟨v,rfl,ag⟩,g⟩
     refine ⟨O4 t v,⟨v,rfl,Tx ag (fun i' k' p' q' h1 h2 h3 h4 h5=>by unfold HL at h5 ⊢; omega)⟩,fun u m=>?_⟩
     rw [DM,if_pos (by simp; omega)]
     exact g _
   ·rw [DM,if_neg (by decide),AE (by omega)]
   ·rintro z ⟨⟨v,rfl,ag⟩,g⟩
    refine ⟨O4 t v,⟨v,rfl,Tx ag (fun i' k' p' q' h1 h2 h3 h4 h5=>by unfold HL at h5 ⊢; omega)⟩,fun u m=>?_⟩
    rw [DN,if_pos (by rw [DY]; simp; omega)]
    exact g _
  ·rw [DN,if_neg (by rw [DY]; simp),AE (by omega)]
  ·rintro z ⟨⟨v,rfl,ag⟩,g⟩
   refine ⟨O4 t v,⟨v,rfl,Tx ag (fun i' k' p' q' h1 h2 h3 h4 h5=>by unfold HL at h5 ⊢; omega)⟩,fun _ m=>?_⟩
   rw [DO,if_pos (by rw [DY]; simp; omega),AE (by omega)]
   exact g _
 ·rw [DO,if_neg (by rw [DY]; simp)]
 ·rintro z ⟨⟨v,rfl,ag⟩,g⟩
  obtain ⟨b',s',g1,g2⟩:=Zw f (Tx ag (c':=900) (fun i' k' p' q' h1 h2 h3 h4 h5=>by unfold HL; omega)) t.1.length [] 0 FU [] 0 (by simp) (fun i hi=>by simp at hi) (by simp) (DH (by omega))
  refine ⟨(b',s'),Eq.trans (g ()) ?_,g2⟩
  unfold GU O4
  have au:Cl FU (v,(t.1.length:Int),[],0) [] 0 = some (v,(t.1.length:Int),b',s'):=g1
  rw [au,Aa]

def Me (t:BU) (least:Int):Int × Bool :=
 if (Ln t && (decide (t.2.2.1 ≤ 16) && (decide (t.1.length ≤ 6) && BK least 0 80))) = true then ((if OR t least = true then 0 else if (VZ t least).isSome = true then 1 else if LE (Hp t least) t.1.length [] = true then 2 else 3),true) else (0,false)
theorem Adh (n:Nat):decide ((n:Int) ≤ 6) = decide (n ≤ 6):=by rw [decide_eq_decide]; omega
theorem Tu {t:BU} (h:SmT t) (e:Int):Ih t e = some (Me t e):=by
 have:=h.h1; have:=h.h2; have:=h.h3
 unfold Ih J6 Bk Me
 dsimp only
 rw [Lo (by omega) (by omega) (by omega),Aa,QT,Aa,Adh]
 cases ho:Ln t with
 | false=>rfl
 | true =>
  by_cases g:t.2.2.1 ≤ 16
  ·rw [decide_eq_true g]
   by_cases l:t.1.length ≤ 6
   ·rw [decide_eq_true l]
    cases hl:BK e 0 80 with
    | false=>rfl
    | true =>
     have f:RepF t e:=⟨NU ho,g,l,D9.1 hl⟩
     obtain ⟨r1,s,u⟩:=Tr f
     obtain ⟨r2,v,m⟩:=Ss f
     simp only [if_true,Bool.not_true,Bool.false_eq_true,if_false,Aa,Bool.and_true]
     rw [Nq f,Aa,s,Aa,u,v,Aa,m]
     cases OR t e <;> cases (VZ t e).isSome <;> cases LE (Hp t e) t.1.length [] <;> rfl
   ·rw [decide_eq_false l]; rfl
  ·rw [decide_eq_false g]; rfl
theorem SX {t:BU} (h:SmT t) (e:Int):Ia t e = some (Me t e):=by
 have:=h.h1; have:=h.h2; have:=h.h3
 unfold Ia L5 Bk Me
 dsimp only
 rw [OM (by omega) (by omega) (by omega),Aa,Ov,Aa,Adh]
 cases ho:Ln t with
 | false=>rfl
 | true =>
  by_cases g:t.2.2.1 ≤ 16
  ·rw [decide_eq_true g]
   by_cases l:t.1.length ≤ 6
   ·rw [decide_eq_true l]
    cases hl:BK e 0 80 with
    | false=>rfl
    | true =>
     have f:RepF t e:=⟨NU ho,g,l,D9.1 hl⟩
     obtain ⟨r1,u,v⟩:=Xp f
     obtain ⟨r2,e3,m⟩:=Vq f
     have s:decide (0 < (r2.1.length:Int)) = decide (0 < r2.1.length):=by rw [decide_eq_decide]; omega
     simp only [if_true,Bool.not_true,Bool.false_eq_true,if_false,Aa,Bool.and_true]
     rw [N8 (by omega),Aa,RR f,Aa,u,Aa,v,e3,Aa,s,m]
     unfold OR
     cases ((J5 (TS t e) t.1.length t.1.length).length:Int) == 0 <;> cases (VZ t e).isSome <;> cases LE (Hp t e) t.1.length [] <;> rfl
   ·rw [decide_eq_false l]; rfl
  ·rw [decide_eq_false g]; rfl
theorem Aai (t:BU) (e:Int):0 ≤ (Me t e).1 ∧ (Me t e).1 ≤ 3:=by
 unfold Me
 split
 ·dsimp only
  split
  ·decide
  ·split
   ·decide
   ·split <;> decide
 ·decide
theorem Aci {k u:Nat} (h:u < 10 ^ (k + 1)):(Lib.decDigits u).length ≤ k + 1:=(Vi k u h).2.2.2.1
theorem TL {t:Int} (f:0 ≤ t) (h1:t < 10):Ky [Mv (Ag (48 + t))] = [UInt8.ofNat (48 + t.toNat)]:=by
 have e:Mv (48 + t) = 48 + t:=by
  unfold Mv
  show (48 + t) % 256 = _
  omega
 rw [A8 (by omega) (by omega),e]
 unfold Ky
 rw [List.map_cons,List.map_nil,show (48 + t).toNat = 48 + t.toNat by omega]
theorem Ad2:∀ (d m:Nat) (n:Int),0 ≤ n → n.toNat < 10 ^ (d + 1) → d ≤ 18 → d < m → n ≤ 9223372036854775807 → FN m n = some (Lib.decDigits n.toNat):=by
 intro d
 induction d with
 | zero =>
  intro m n e f hd l v
  cases m with
  | zero=>omega
  | succ m =>
   have g:n.toNat < 10:=by simpa using f
   rw [FN,if_pos (by simp; omega),TL e (by omega),QZ g]
 | succ d s =>
  intro m n e f hd l v
  cases m with
  | zero=>omega
  | succ m =>
   by_cases g:n < 10
   ·rw [FN,if_pos (by simp; omega),TL e g,QZ (by omega)]
   ·rw [FN,if_neg (by simp; omega)]
    unfold Bk
    dsimp only
    have hq:(n / 10).toNat = n.toNat / 10:=by omega
    have hr:(n % 10).toNat = n.toNat % 10:=by omega
    have h:n.toNat / 10 < 10 ^ (d + 1):=by rw [Nat.pow_succ] at f; omega
    have hl:=Aci (k:=d) h
    rw [Int.tdiv_eq_ediv_of_nonneg e,Int.tmod_eq_emod_of_nonneg e,A8 (x:=n / 10) (by omega) (by omega),s m (n / 10) (by omega) (by omega) (by omega) (by omega) (by omega),Aa,TL (by omega) (by omega),hq,hr]
    unfold Ck
    rw [if_pos (by simp; omega),Aa,XR (u:=n.toNat) (by omega)]
theorem JW {n:Int} (h:0 ≤ n) (e:n ≤ 9223372036854775807):Dd n = some (Lib.decDigits n.toNat):=by
 unfold Dd
 exact Ad2 18 FU n h (by omega) (by omega) (DH (by omega)) e
theorem Abk {x:G6} (h:Gc x = true) {c:Int} (h0:0 ≤ c) (h1:c ≤ 4611686018427387904):0 ≤ Rv x c ∧ Rv x c ≤ 720000:=by
 obtain ⟨l1,l2,hx⟩:=MU h
 have av:x.length ≤ 40:=by
  unfold Gc at h
  rw [Cg,LO] at h
  omega
 have ab:∀ (d k m:Nat) (a b:Int),x.length - k = d → k ≤ x.length → d < m → 0 ≤ a → a ≤ 4611686018427387904 → 0 ≤ b → b ≤ 18000 * k → ∃ t,Di x m a b (k:Int) = some t ∧ 0 ≤ t ∧ t ≤ 18000 * x.length:=by
  intro d
  induction d with
  | zero =>
   intro k m a b hd hk hm l a1 b0 b1
   cases m with
   | zero=>omega
   | succ m =>
    rw [Di,if_neg (by simp; omega)]
    exact ⟨_,rfl,by omega,by omega⟩
  | succ d ih =>
   intro k m a b hd hk hm l a1 b0 b1
   cases m with
   | zero=>omega
   | succ m =>
    have g:k < x.length:=by omega
    have s:=List.all_eq_true.1 hx x[k] (List.getElem_mem g)
    unfold Gz at s
    rw [Cg,LO,LO] at s
    have u:¬ x[k].2 = 0:=by omega
    have Cq:∀ q:Int,0 ≤ q → q ≤ 12 → Ag (Int.tdiv (Ag (60000 * q)) x[k].2) = 60000 * q / x[k].2 ∧ 0 ≤ 60000 * q / x[k].2 ∧ 60000 * q / x[k].2 ≤ 18000:=by
     intro q q0 q1
     have d1:0 ≤ 60000 * q / x[k].2:=Int.ediv_nonneg (by omega) (by omega)
     have d2:60000 * q / x[k].2 ≤ 18000:=by
      have:=Int.ediv_le_ediv (c:=x[k].2) (by omega) (show 60000 * q ≤ 18000 * x[k].2 by omega)
      rw [Int.mul_ediv_cancel _ u] at this
      exact this
     rw [A8 (x:=60000 * q) (by omega) (by omega),Int.tdiv_eq_ediv_of_nonneg (by omega),A8 (by omega) (by omega)]
     exact ⟨rfl,d1,d2⟩
    rw [Di,if_pos (by simp; omega),Jo g,Aa]
    simp only [Hw,if_neg u,Aa,AE (k:=k) (by omega)]
    split
    ·rename_i f
     have aa:a < x[k].1:=by simpa using f
     obtain ⟨e,e0,e1⟩:=Cq a l (by omega)
     rw [e,A8 (by omega) (by omega)]
     exact ⟨_,rfl,by omega,by omega⟩
    ·rename_i f
     have aa:¬ a < x[k].1:=by simpa using f
     obtain ⟨e,e0,e1⟩:=Cq x[k].1 (by omega) (by omega)
     rw [e,A8 (x:=a - x[k].1) (by omega) (by omega),A8 (x:=b + _) (by omega) (by omega)]
     exact ih (k + 1) m _ _ (by omega) (by omega) (by omega) (by omega) (by omega) (by omega) (by omega)
 obtain ⟨t,v,t0,t1⟩:=ab _ 0 FU c 0 rfl (by omega) (DH (by omega)) h0 h1 (by omega) (by simp)
 have:=OK x h c
 unfold FI at this
 rw [show ((0:Nat):Int) = 0 by rfl] at v
 rw [v] at this
 have e:=Option.some.inj this
 rw [← e]
 exact ⟨t0,by omega⟩
abbrev I7:=Int × Int × Int
def SQ (k:Nat) (x:I7):Bool:=(if k = 0 then decide (x.1 = -1) else BK x.1 0 ((k:Int) - 1)) && (BK x.2.1 0 7 && BK x.2.2 0 999)
def OE (l:List I7) (k:Nat):Bool:=match l[k]? with
 | some x=>SQ k x
 | none=>true
def Ho (l:List I7):Bool:=BK (l.length:Int) 1 60 && (List.range l.length).all (OE l)
theorem OI {l:List I7} (u:l.length < 4611686018427387904):HU l = some (Ho l):=by
 unfold HU Ho
 rw [O1 (FA l) l.length (OE l) (some (BK (l.length:Int) 1 60)) (some false) u (fun m k s=>?_) (fun m=>?_)]
 ·cases (List.range l.length).all (OE l) <;> simp
 ·obtain ⟨x,h⟩:∃ x,l[k]? = some x:=⟨_,Cp s⟩
  rw [FA,if_pos (by simp; omega),AY,h,Aa,AE (by omega)]
  unfold Bk OE
  rw [h]
  dsimp only
  rw [CU,Aa,CU,CU,Aa,Aa,A8 (by omega) (by omega)]
  unfold SQ
  by_cases g:k = 0
  ·subst g
   have:BK x.1 0 (((0:Nat):Int) - 1) = false:=by rw [← Bool.not_eq_true,D9]; omega
   rw [this]
   by_cases f:x.1 = -1 <;> by_cases h1:BK x.2.1 0 7 = true <;> by_cases e:BK x.2.2 0 999 = true <;> simp [f,h1,e]
  ·by_cases f:BK x.1 0 ((k:Int) - 1) = true <;> by_cases h1:BK x.2.1 0 7 = true <;> by_cases e:BK x.2.2 0 999 = true <;> simp [f,h1,e,g,show 0 < k by omega]
 ·rw [FA,if_neg (by simp),CU,Aa]
theorem LB {l:List I7} (hl:l.length < 4611686018427387904):FH l = some (Ho l):=by
 unfold FH Ho Bk
 dsimp only
 rw [CT,Aa]
 cases hi:BK (l.length:Int) 1 60 with
 | false=>simp
 | true =>
  have ae:=D9.1 hi
  obtain ⟨u,s⟩:∃ x,l[0]? = some x:=⟨_,Cp (by omega)⟩
  rw [if_neg (by simp),Sw,s,Aa,Bool.true_and]
  by_cases f:u.1 = -1
  ·rw [if_neg (by simpa using f),O1 (DS l) l.length (OE l) (some true) (some false) hl (fun m k hk=>?_) (fun m=>?_)]
   ·cases (List.range l.length).all (OE l) <;> simp
   ·obtain ⟨x,e⟩:∃ x,l[k]? = some x:=⟨_,Cp hk⟩
    rw [DS,if_pos (by simp; omega),AY,e,Aa,AE (by omega)]
    unfold Bk OE
    rw [e]
    dsimp only
    rw [CT,Aa,CT,CT,Aa,Aa,A8 (by omega) (by omega)]
    unfold SQ
    by_cases v:k = 0
    ·subst v
     rw [s] at e
     cases e
     by_cases h1:BK u.2.1 0 7 = true <;> by_cases g:BK u.2.2 0 999 = true <;> simp [f,h1,g]
    ·by_cases hq:BK x.1 0 ((k:Int) - 1) = true <;> by_cases h1:BK x.2.1 0 7 = true <;> by_cases g:BK x.2.2 0 999 = true <;> simp [hq,h1,g,v,show 0 < k by omega]
   ·rw [DS,if_neg (by simp)]
  ·rw [if_pos (by simpa using f)]
   have:(List.range l.length).all (OE l) = false:=by
    rw [← Bool.not_eq_true,List.all_eq_true]
    intro h
    have:=h 0 (List.mem_range.2 (by omega))
    unfold OE SQ at this
    rw [s] at this
    simp [f] at this
   rw [this]
def Ly (l:List I7) (v:I7):List I7 × Bool:=if Ho (l ++ [v]) = true then (l ++ [v],true) else ([],false)
theorem SY {l:List I7} (h:Ho l = true) (e:l.length ≤ 60) (v:I7):Ib l v = some (Ly l v):=by
 unfold Ib Bk Ly
 dsimp only
 rw [Br (by simp; omega),Aa,Br (by simp; omega),Aa,OI (by omega),Aa,h,if_neg (by simp),List.nil_append,OI (by simp; omega),Aa]
 cases Ho (l ++ [v]) <;> rfl
theorem Tv {l:List I7} (h:Ho l = true) (e:l.length ≤ 60) (v:I7):Ii l v = some (Ly l v):=by
 unfold Ii Bk Ly
 dsimp only
 rw [LB (by omega),Aa,h,if_neg (by simp),Br (by simp; omega),Aa,Br (by simp; omega),Aa,List.nil_append,LB (by simp; omega),Aa]
 cases Ho (l ++ [v]) <;> rfl
abbrev BM:=Int × Int × Int × Int
def FP (a b:BM):Prop:=a.2.2.1 < b.2.2.1 ∨ (a.2.2.1 = b.2.2.1 ∧ a.2.1 < b.2.1)
instance (a b:BM):Decidable (FP a b):=by unfold FP; exact inferInstance
def Ke (a b:BM):Prop:=¬ FP b a
theorem LP {a b c:BM} (h1:Ke a b) (e:Ke b c):Ke a c:=by unfold Ke FP at *; omega
theorem LQ {a b:BM} (h:FP a b):Ke a b:=by unfold Ke FP at *; omega
theorem Aaf (a:BM):Ke a a:=by unfold Ke FP at *; omega
def Lv (a:BM):Prop:=(0 ≤ a.2.1 ∧ a.2.1 ≤ 99999) ∧ 0 ≤ a.2.2.1 ∧ a.2.2.1 ≤ 99999
theorem Ra {a b:BM} (e:Lv a) (f:Lv b):∃ u,Dr a b = some u ∧ decide (u < 0) = decide (FP a b) ∧ decide (0 ≤ u) = !decide (FP a b):=by
 obtain ⟨⟨g,m⟩,l,a4⟩:=e
 obtain ⟨⟨b1,v⟩,s,b4⟩:=f
 unfold Dr
 by_cases h:a.2.2.1 = b.2.2.1
 ·rw [if_neg (by simp [h]),A8 (by omega) (by omega)]
  refine ⟨_,rfl,?_,?_⟩
  ·rw [decide_eq_decide]; unfold FP; omega
  ·rw [← decide_not,decide_eq_decide]; unfold FP; omega
 ·rw [if_pos (by simpa using h),A8 (by omega) (by omega)]
  refine ⟨_,rfl,?_,?_⟩
  ·rw [decide_eq_decide]; unfold FP; omega
  ·rw [← decide_not,decide_eq_decide]; unfold FP; omega
theorem R6 {i j:Nat} (h:i + j < 4611686018427387904):Ag (Bq .u64 (Bh (Ag ((i:Int) + (j:Int)))) 1) = (((i + j) / 2:Nat):Int):=by
 rw [A8 (x:=(i:Int) + j) (by omega) (by omega)]
 have f:Bh ((i:Int) + (j:Int)) = (i:Int) + j:=by
  unfold Bh
  show ((i:Int) + (j:Int)) % 18446744073709551616 = _
  omega
 rw [f]
 have e:Bq .u64 ((i:Int) + (j:Int)) 1 = (((i + j) / 2:Nat):Int):=by
  unfold Bq
  show Int.fdiv ((i:Int) + (j:Int)) 2 = _
  rw [Int.fdiv_eq_ediv_of_nonneg _ (by omega)]
  omega
 rw [e,A8 (by omega) (by omega)]
theorem Uu {R:Type} (f:Nat → Int → Int → Af R) (q:Nat → Bool) (K:Nat → Af R) (g h:Nat)
  (hs:∀ (m i j:Nat),i < j → j ≤ h → g ≤ i → f (m + 1) (i:Int) (j:Int) = if q ((i + j) / 2) = true then f m (((i + j) / 2 + 1:Nat):Int) (j:Int) else f m (i:Int) (((i + j) / 2:Nat):Int))
  (he:∀ (m i:Nat),f (m + 1) (i:Int) (i:Int) = K i) (ae:∀ c c',g ≤ c → c ≤ c' → c' < h → q c' = true → q c = true) :
  ∀ (d m i j:Nat),j - i ≤ d → d < m → g ≤ i → i ≤ j → j ≤ h → (∀ c,g ≤ c → c < i → q c = true) → (∀ c,j ≤ c → c < h → q c = false) →
   ∃ s,g ≤ s ∧ s ≤ h ∧ (∀ c,g ≤ c → c < s → q c = true) ∧ (∀ c,s ≤ c → c < h → q c = false) ∧ f m (i:Int) (j:Int) = K s:=by
 intro d
 induction d with
 | zero =>
  intro m i j hd hm u ai l h1 v
  have:i = j:=by omega
  subst this
  cases m with
  | zero=>omega
  | succ m=>exact ⟨i,u,l,h1,v,he m i⟩
 | succ d ih =>
  intro m i j hd hm u ai l h1 v
  cases m with
  | zero=>omega
  | succ m =>
   by_cases e:i = j
   ·subst e
    exact ⟨i,u,l,h1,v,he m i⟩
   ·rw [hs m i j (by omega) l u]
    cases hq:q ((i + j) / 2) with
    | true =>
     rw [if_pos rfl]
     exact ih m _ j (by omega) (by omega) (by omega) (by omega) l (fun c hc ad=>ae c ((i + j) / 2) hc (by omega) (by omega) hq) v
    | false =>
     rw [if_neg (by simp)]
     refine ih m i _ (by omega) (by omega) u (by omega) (by omega) h1 (fun c hc ad=>?_)
     cases aj:q c with
     | false=>rfl
     | true=>rw [ae ((i + j) / 2) c (by omega) hc ad aj] at hq; cases hq
theorem Jm {α:Type} {A B:List α} {x:α} {k:Nat} (h:k = A.length):AM (A ++ x :: B) (k:Int) = some x:=by
 rw [AY,h,List.getElem?_append_right (by omega)]
 simp
theorem MT {α:Type} {A B:List α} {x y:α} {k:Nat} (h:k = A.length):BG (A ++ x :: B) (k:Int) y = A ++ y :: B:=by
 rw [JX,h,List.set_append_right _ _ (by omega)]
 simp
theorem X6 (x1 x2 x3:Nat) (A M B:List BM):∀ (P Q P0 Q0:List BM) (m:Nat),P.length = Q.length → P0.length = Q0.length → x1 = A.length → x2 = A.length + P0.length + P.length + M.length → x3 = P0.length + P.length → x2 + x3 < 1000000 → P.length < m →
  Bw (x3:Int) (x2:Int) (x1:Int) m (A ++ P0 ++ P ++ M ++ Q0 ++ Q ++ B) (P0.length:Int) = some (A ++ P0 ++ Q ++ M ++ Q0 ++ P ++ B)
 | [],Q,P0,Q0,m,h1,h2,h3,h4,h5,h6,hm=>by
  have:Q = []:=List.length_eq_zero_iff.1 h1.symm
  subst this
  cases m with
  | zero=>simp at hm
  | succ m =>
   rw [Bw,if_neg (by simp at h5 ⊢; omega)]
 | p :: P,[],P0,Q0,m,h1,h2,h3,h4,h5,h6,hm=>by simp at h1
 | p :: P,q :: Q,P0,Q0,m,h1,h2,h3,h4,h5,h6,hm=>by
  simp only [List.length_cons] at h1 h4 h5 hm
  cases m with
  | zero=>omega
  | succ m =>
   rw [Bw,if_pos (by simp; omega)]
   unfold Bk
   dsimp only
   rw [AE (by omega),A8 (x:=(x2:Int) + _) (by omega) (by omega),A8 (x:=(x1:Int) + _) (by omega) (by omega)]
   rw [show (x2:Int) + (P0.length:Int) = ((x2 + P0.length:Nat):Int) by omega,show (x1:Int) + (P0.length:Int) = ((x1 + P0.length:Nat):Int) by omega]
   have h:A ++ P0 ++ p :: P ++ M ++ Q0 ++ q :: Q ++ B = (A ++ P0 ++ p :: P ++ M ++ Q0) ++ q :: (Q ++ B):=by simp
   have f:(A ++ P0 ++ p :: P ++ M ++ Q0) ++ q :: (Q ++ B) = (A ++ P0) ++ p :: (P ++ M ++ Q0 ++ q :: (Q ++ B)):=by simp
   have g:(A ++ P0) ++ q :: (P ++ M ++ Q0 ++ q :: (Q ++ B)) = (A ++ P0 ++ q :: P ++ M ++ Q0) ++ q :: (Q ++ B):=by simp
   rw [h,Jm (by simp; omega),Aa,f,Jm (by simp; omega),Aa,Aa,MT (by simp; omega),g,Jm (by simp; omega),Aa,MT (by simp; omega)]
   have e:=X6 x1 x2 x3 A M B P Q (P0 ++ [q]) (Q0 ++ [p]) m (by omega) (by simpa using h2) h3 (by simp; omega) (by simp; omega) h6 (by omega)
   simp only [List.append_assoc,List.cons_append,List.nil_append,CM,List.length_cons,List.length_nil] at e ⊢
   exact e
theorem NJ {A P M Q B:List BM} {x1 x2 x3:Nat} (h1:P.length = Q.length) (e:x1 = A.length) (h:x2 = A.length + P.length + M.length) (g:x3 = P.length) (f:x2 + x3 < 1000000) :
  B7 (A ++ P ++ M ++ Q ++ B) (x1:Int) (x2:Int) (x3:Int) = some (A ++ Q ++ M ++ P ++ B):=by
 unfold B7
 have:=X6 x1 x2 x3 A M B P Q [] [] FU h1 rfl e (by simp; omega) (by simp; omega) f (DH (by omega))
 simpa using this
theorem MD {α:Type} {l:List α} {k:Nat} (h:k ≤ l.length):∃ P R,l = P ++ R ∧ P.length = k:=⟨l.take k,l.drop k,(List.take_append_drop k l).symm,by simp; omega⟩
theorem ZU (x2:Nat) (hx:x2 < 100000):∀ (d m:Nat) (A U V B:List BM),U.length + V.length ≤ d → d < m → U ≠ [] → V ≠ [] → x2 = A.length + U.length → V.length < 100000 →
  B0 (x2:Int) m (A ++ U ++ V ++ B) (U.length:Int) (V.length:Int) = some (A ++ V ++ U ++ B):=by
 intro d
 induction d with
 | zero =>
  intro m A U V B hd hm g v h2 hv
  exact absurd (List.length_eq_zero_iff.1 (by omega)) g
 | succ d u =>
  intro m A U V B hd hm g v h2 hv
  have ag:=List.length_pos_iff.2 g
  have ah:=List.length_pos_iff.2 v
  cases m with
  | zero=>omega
  | succ m =>
   rw [B0]
   by_cases e:U.length = V.length
   ·rw [if_neg (by simp [e]),A8 (x:=(x2:Int) - _) (by omega) (by omega),show (x2:Int) - (U.length:Int) = (A.length:Int) by omega]
    have:=NJ (A:=A) (P:=U) (M:=[]) (Q:=V) (B:=B) (x1:=A.length) (x2:=x2) (x3:=U.length) e rfl (by simp; omega) rfl (by omega)
    simp only [List.append_nil] at this
    rw [this,Aa]
   ·rw [if_pos (by simp; omega)]
    by_cases aa:V.length < U.length
    ·obtain ⟨P,R,rfl,s⟩:=MD (l:=U) (k:=V.length) (by omega)
     simp only [CM] at *
     rw [if_pos (by simp; omega),A8 (x:=(x2:Int) - _) (by omega) (by omega),show (x2:Int) - ((P.length + R.length:Nat):Int) = (A.length:Int) by omega]
     have:=NJ (A:=A) (P:=P) (M:=R) (Q:=V) (B:=B) (x1:=A.length) (x2:=x2) (x3:=V.length) s rfl (by omega) (by omega) (by omega)
     rw [show A ++ (P ++ R) ++ V ++ B = A ++ P ++ R ++ V ++ B by simp,this,Aa,A8 (by omega) (by omega),show ((P.length + R.length:Nat):Int) - (V.length:Int) = (R.length:Int) by omega]
     have h:=u m (A ++ V) R P B (by omega) (by omega) (fun h=>by subst h; simp at aa; omega) (fun h=>by subst h; simp at s; omega) (by simp; omega) (by omega)
     rw [s] at h
     rw [h]
     simp
    ·obtain ⟨R,Q,rfl,hR⟩:=MD (l:=V) (k:=V.length - U.length) (by omega)
     simp only [CM] at *
     have f:U.length = Q.length:=by omega
     rw [if_neg (by simp; omega),A8 (x:=(x2:Int) - _) (by omega) (by omega),show (x2:Int) - (U.length:Int) = (A.length:Int) by omega,A8 (x:=(x2:Int) + _) (by omega) (by omega),A8 (by omega) (by omega),
      show (x2:Int) + ((R.length + Q.length:Nat):Int) - (U.length:Int) = ((x2 + R.length:Nat):Int) by omega]
     have:=NJ (A:=A) (P:=U) (M:=R) (Q:=Q) (B:=B) (x1:=A.length) (x2:=x2 + R.length) (x3:=U.length) f rfl (by omega) (by omega) (by omega)
     rw [show A ++ U ++ (R ++ Q) ++ B = A ++ U ++ R ++ Q ++ B by simp,this,Aa,A8 (by omega) (by omega),show ((R.length + Q.length:Nat):Int) - (U.length:Int) = (R.length:Int) by omega]
     have h:=u m A Q R (U ++ B) (by omega) (by omega) (fun h=>g (List.length_eq_zero_iff.1 (by rw [f,h]; rfl))) (fun h=>e (by rw [h]; simpa using f)) (by omega) (by omega)
     rw [← f] at h
     rw [show A ++ Q ++ R ++ U ++ B = A ++ Q ++ R ++ (U ++ B) by simp,h]
     simp
theorem YU {A U V B:List BM} {x1 x2 x3:Nat} (g:U ≠ []) (f:V ≠ []) (h1:x1 = A.length) (e:x2 = A.length + U.length) (h:x3 = A.length + U.length + V.length) (l:x3 < 100000) :
  BJ (A ++ U ++ V ++ B) (x1:Int) (x2:Int) (x3:Int) = some (A ++ V ++ U ++ B):=by
 unfold BJ
 rw [A8 (by omega) (by omega),A8 (by omega) (by omega),show (x2:Int) - (x1:Int) = (U.length:Int) by omega,show (x3:Int) - (x2:Int) = (V.length:Int) by omega]
 exact ZU x2 (by omega) (U.length + V.length) FU A U V B (Nat.le_refl _) (DH (by omega)) g f e (by omega)
def FW (l:List BM):Prop:=l.Pairwise Ke
theorem Pj {S1 S2:List BM} {x:BM} (h:FW (S1 ++ S2)) (m:∀ s ∈ S2,Ke x s) (h1:S1 = [] ∨ ∃ R y,S1 = R ++ [y] ∧ Ke y x):FW (S1 ++ x :: S2):=by
 unfold FW at *
 rw [List.pairwise_append] at h ⊢
 refine ⟨h.1,List.pairwise_cons.2 ⟨m,h.2.1⟩,fun a f b g=>?_⟩
 rcases List.mem_cons.1 g with rfl | g
 ·rcases h1 with rfl | ⟨R,y,rfl,l⟩
  ·cases f
  ·rcases AX.1 f with e | e
   ·exact LP ((List.pairwise_append.1 h.1).2.2 a e y (List.mem_singleton.2 rfl)) l
   ·rw [List.mem_singleton.1 e]; exact l
 ·exact h.2.2 a f b g
theorem Zu (nx:List BM → Int → Af (List BM)) (y6:Int) (A B:List BM) (x:BM) (hx:Lv x) (hA:A.length < 100000):∀ (k m:Nat) (S1 S2:List BM),S1.length = k → k < m → k < 100000 → (∀ s ∈ S1,Lv s) → (∀ s ∈ S2,FP x s) → FW (S1 ++ S2) →
  ∃ Z,Z.Perm (S1 ++ x :: S2) ∧ FW Z ∧ Bm nx y6 (A.length:Int) m (A ++ S1 ++ x :: S2 ++ B) ((A.length + S1.length:Nat):Int) = nx (A ++ Z ++ B) (Ag (y6 + 1)):=by
 intro k
 induction k with
 | zero =>
  intro m S1 S2 g hm hl v e f
  have:S1 = []:=List.length_eq_zero_iff.1 g
  subst this
  cases m with
  | zero=>omega
  | succ m =>
   refine ⟨x :: S2,List.Perm.refl _,Pj (S1:=[]) f (fun s h=>LQ (e s h)) (.inl rfl),?_⟩
   rw [Bm]
   unfold Bk
   dsimp only
   rw [if_neg (by simp),if_neg (by simp)]
   simp
 | succ k ih =>
  intro m S1 S2 g hm hl v e f
  obtain ⟨R,y,rfl⟩:∃ R y,S1 = R ++ [y]:=⟨S1.dropLast,S1.getLast (fun h=>by subst h; simp at g),(List.dropLast_concat_getLast _).symm⟩
  have hR:R.length = k:=by simpa using g
  have hy:=v y (by simp)
  obtain ⟨u,hu,ag,_⟩:=Ra hx hy
  cases m with
  | zero=>omega
  | succ m =>
   rw [Bm]
   unfold Bk
   dsimp only
   have e1:A ++ (R ++ [y]) ++ x :: S2 ++ B = (A ++ R ++ [y]) ++ x :: (S2 ++ B):=by simp
   have e2:(A ++ R ++ [y]) ++ x :: (S2 ++ B) = (A ++ R) ++ y :: (x :: (S2 ++ B)):=by simp
   have ej:Ag (((A.length + (R ++ [y]).length:Nat):Int) - 1) = ((A.length + R.length:Nat):Int):=by
    rw [A8 (by simp; omega) (by simp; omega)]; simp; omega
   rw [if_pos (by simp <;> omega),ej,e1,Jm (by simp <;> omega),Aa,e2,Jm (by simp),Aa,hu,Aa,ag]
   by_cases l:FP x y
   ·rw [decide_eq_true l,if_pos rfl,Aa]
    rw [← e2,Aa,Aa,MT (by simp <;> omega)]
    have e3:(A ++ R ++ [y]) ++ y :: (S2 ++ B) = (A ++ R) ++ y :: (y :: (S2 ++ B)):=by simp
    rw [e3,Jm (by simp),Aa,MT (by simp)]
    have ak:FW (R ++ y :: S2):=by simpa using f
    obtain ⟨Z,au,ar,aj⟩:=ih m R (y :: S2) hR (by omega) (by omega) (fun s h=>v s (by simp [h])) (fun s h=>by
     rcases List.mem_cons.1 h with rfl | h
     ·exact l
     ·exact e s h) ak
    refine ⟨Z,au.trans ?_,ar,?_⟩
    ·rw [List.append_assoc]
     exact List.Perm.append_left R (List.Perm.swap y x S2)
    ·rw [← aj]
     simp
   ·rw [decide_eq_false l,if_neg (by simp)]
    refine ⟨R ++ [y] ++ x :: S2,List.Perm.refl _,Pj f (fun s h=>LQ (e s h)) (.inr ⟨R,y,rfl,l⟩),?_⟩
    simp
theorem Vf (A B:List BM) (u:A.length < 50000):∀ (T S:List BM) (m:Nat),T.length < m → S ≠ [] → S.length + T.length < 50000 → (∀ s ∈ S ++ T,Lv s) → FW S →
  ∃ Z,Z.Perm (S ++ T) ∧ FW Z ∧ AW ((A.length + S.length + T.length:Nat):Int) (A.length:Int) m (A ++ S ++ T ++ B) ((A.length + S.length:Nat):Int) = some (A ++ Z ++ B)
 | [],S,m,hm,hS,hl,ho,hs=>by
  cases m with
  | zero=>simp at hm
  | succ m =>
   refine ⟨S,by simp,hs,?_⟩
   rw [AW,if_neg (by simp)]
   simp
 | x :: T,S,m,hm,hS,hl,ho,hs=>by
  simp only [List.length_cons] at hm hl ⊢
  cases m with
  | zero=>omega
  | succ m =>
   obtain ⟨Z,h1,g,l⟩:=Zu (AW ((A.length + S.length + (T.length + 1):Nat):Int) (A.length:Int) m) ((A.length + S.length:Nat):Int) A (T ++ B) x (ho x (by simp)) (by omega) S.length FU S [] rfl (DH (by omega)) (by omega) (fun s h=>ho s (by simp [h])) (fun s h=>by cases h) (by simpa using hs)
   rw [AW,if_pos (by simp; omega)]
   rw [show A ++ S ++ x :: T ++ B = A ++ S ++ [x] ++ (T ++ B) by simp,l,AE (by omega)]
   have e:Z.length = S.length + 1:=by have:=h1.length_eq; simpa using this
   obtain ⟨W,w1,v,f⟩:=Vf A B u T Z m (by omega) (fun h=>by subst h; simp at e) (by omega) (fun s h=>by
    rcases AX.1 h with h | h
    ·refine ho s ?_
     have:=h1.mem_iff.1 h
     simp only [AX,List.mem_cons,List.not_mem_nil,or_false] at this ⊢
     rcases this with h | h
     ·exact .inl h
     ·exact .inr (.inl h)
    ·exact ho s (by simp [h])) g
   refine ⟨W,w1.trans ?_,v,?_⟩
   ·have:=h1.append_right T
    simpa using this
   ·rw [e] at f
    rw [show A ++ Z ++ (T ++ B) = A ++ Z ++ T ++ B by simp,← f]
    congr 1 <;> omega
theorem Mf {A X B:List BM} {a b:Nat} (g:a = A.length) (e:b = A.length + X.length) (m:b < 50000) (h:∀ s ∈ X,Lv s) :
  ∃ Z,Z.Perm X ∧ FW Z ∧ Bj (A ++ X ++ B) (a:Int) (b:Int) = some (A ++ Z ++ B):=by
 unfold Bj
 rw [AE (by omega)]
 cases X with
 | nil =>
  refine ⟨[],List.Perm.refl _,List.Pairwise.nil,?_⟩
  rw [show FU = (FU - 1) + 1 from rfl,AW,if_neg (by simp at e ⊢; omega)]
 | cons x T =>
  simp only [List.length_cons] at e
  obtain ⟨Z,h1,f,l⟩:=Vf A B (by omega) T [x] FU (DH (by omega)) (by simp) (by simp; omega) h (List.pairwise_singleton _ _)
  refine ⟨Z,h1,f,?_⟩
  rw [← l]
  simp only [List.length_singleton]
  rw [g,e,show A.length + 1 + T.length = A.length + (T.length + 1) by omega]
  simp
theorem YP (x:BM) (B:List BM) (i:Nat) (s:i < 100000):∀ (Y A:List BM) (m:Nat),Y.length < m → i = A.length + Y.length + 1 →
  Bz (i:Int) m (A ++ x :: Y ++ B) (A.length:Int) = some (A ++ Y ++ x :: B)
 | [],A,m,hm,h=>by
  cases m with
  | zero=>simp at hm
  | succ m =>
   rw [Bz,A8 (x:=(i:Int) - 1) (by omega) (by omega),if_neg (by simp at h ⊢; omega)]
   simp
 | y :: Y,A,m,hm,h=>by
  simp only [List.length_cons] at hm h
  cases m with
  | zero=>omega
  | succ m =>
   rw [Bz,A8 (x:=(i:Int) - 1) (by omega) (by omega),if_pos (by simp; omega)]
   unfold Bk
   dsimp only
   have f:A ++ x :: y :: Y ++ B = (A ++ [x]) ++ y :: (Y ++ B):=by simp
   have g:(A ++ [x]) ++ y :: (Y ++ B) = A ++ x :: (y :: (Y ++ B)):=by simp
   have l:A ++ y :: (y :: (Y ++ B)) = (A ++ [y]) ++ y :: (Y ++ B):=by simp
   rw [AE (by omega),f,Jm (by simp),Aa,g,Jm rfl,Aa,Aa,MT rfl,l,Jm (by simp),Aa,MT (by simp)]
   have e:=YP x B i s Y (A ++ [y]) m (by omega) (by simp; omega)
   simp only [CM,List.length_cons,List.length_nil] at e
   rw [show (A ++ [y]) ++ x :: (Y ++ B) = A ++ [y] ++ x :: Y ++ B by simp,e]
   simp
theorem Aco (y:BM) (B:List BM) (i:Nat) (hi:i < 50000) (A:List BM) (hA:i = A.length):∀ (k m:Nat) (X B:List BM),X.length = k → k < m → k < 50000 →
  Bx (i:Int) m (A ++ X ++ y :: B) ((A.length + X.length:Nat):Int) = some (A ++ y :: X ++ B):=by
 intro k
 induction k with
 | zero =>
  intro m X B e f hl
  have:X = []:=List.length_eq_zero_iff.1 e
  subst this
  cases m with
  | zero=>omega
  | succ m =>
   rw [Bx,if_neg (by simp; omega)]
   simp
 | succ k s =>
  intro m X B e f hl
  obtain ⟨R,z,rfl⟩:∃ R z,X = R ++ [z]:=⟨X.dropLast,X.getLast (fun h=>by subst h; simp at e),(List.dropLast_concat_getLast _).symm⟩
  have hR:R.length = k:=by simpa using e
  cases m with
  | zero=>omega
  | succ m =>
   rw [Bx,if_pos (by simp; omega)]
   unfold Bk
   dsimp only
   have l:Ag (((A.length + (R ++ [z]).length:Nat):Int) - 1) = ((A.length + R.length:Nat):Int):=by
    rw [A8 (by simp; omega) (by simp; omega)]; simp; omega
   have u:A ++ (R ++ [z]) ++ y :: B = (A ++ R) ++ z :: (y :: B):=by simp
   have v:(A ++ R) ++ z :: (y :: B) = (A ++ R ++ [z]) ++ y :: B:=by simp
   have g:(A ++ R ++ [z]) ++ z :: B = (A ++ R) ++ z :: (z :: B):=by simp
   rw [l,u,Jm (by simp),Aa,v,Jm (by simp <;> omega),Aa,Aa,MT (by simp <;> omega),g,Jm (by simp),Aa,MT (by simp)]
   have h:=s m R (z :: B) hR (by omega) (by omega)
   rw [h]
   simp
theorem Acn {l:List BM} (h:FW l) {i j:Nat} (g:i ≤ j) (f:j < l.length):Ke (l[i]'(by omega)) l[j]:=by
 by_cases e:i = j
 ·subst e; exact Aaf _
 ·exact (List.pairwise_iff_getElem.1 h) i j (by omega) f (by omega)
theorem Ad1 {A Y B:List BM} {k:Nat} (h1:A.length ≤ k) (e:k < A.length + Y.length):AM (A ++ Y ++ B) (k:Int) = some (Y[k - A.length]'(by omega)):=by
 rw [AY,List.append_assoc,List.getElem?_append_right h1,List.getElem?_append_left (by omega),Cp]
def CL (Y:List BM) (k:Nat):BM:=(Y[k]?).getD (0,0,0,0)
theorem FQ {Y:List BM} {k:Nat} (h:k < Y.length):CL Y k = Y[k]:=by unfold CL; rw [Cp h]; rfl
theorem Ti {A Y B:List BM} {k:Nat} (h1:A.length ≤ k) (e:k < A.length + Y.length):AM (A ++ Y ++ B) (k:Int) = some (CL Y (k - A.length)):=by rw [Ad1 h1 e,FQ]
theorem IW {Y:List BM} {k:Nat} (h:k < Y.length):CL Y k ∈ Y:=by rw [FQ h]; exact List.getElem_mem h
theorem Mj {Y:List BM} (g:FW Y) {i j:Nat} (f:i ≤ j) (e:j < Y.length):Ke (CL Y i) (CL Y j):=by rw [FQ (by omega),FQ e]; exact Acn g f e
theorem Mc {Y:List BM} {y:BM} (h:y ∈ Y):∃ k,k < Y.length ∧ y = CL Y k:=by
 obtain ⟨k,e,rfl⟩:=List.getElem_of_mem h
 exact ⟨k,e,(FQ e).symm⟩
theorem PY {P R:List BM} {k:Nat} (h:k < P.length):CL (P ++ R) k = CL P k:=by unfold CL; rw [List.getElem?_append_left h]
theorem O9 {P R:List BM} {k:Nat}:CL (P ++ R) (P.length + k) = CL R k:=by unfold CL; rw [List.getElem?_append_right (by omega)]; congr 2; omega
theorem TV {S:List BM} {x:BM} (h:∀ s ∈ S,Ke s x):S = [] ∨ ∃ R y,S = R ++ [y] ∧ Ke y x:=by
 by_cases e:S = []
 ·exact .inl e
 ·exact .inr ⟨S.dropLast,S.getLast e,(List.dropLast_concat_getLast e).symm,h _ (List.getLast_mem e)⟩
theorem Abm {A Y B:List BM} {x:BM} (hl:A.length + Y.length < 40000) (hx:Lv x) (ho:∀ y ∈ Y,Lv y) (g:FW Y) :
  ∃ Z,Z.Perm (x :: Y) ∧ FW Z ∧ AJ (A ++ x :: Y ++ B) (A.length:Int) FU ((A.length + 1:Nat):Int) ((A.length + 1 + Y.length:Nat):Int) = some (A ++ Z ++ B):=by
 obtain ⟨s,h1,f,h3,h4,h5⟩:=Uu (AJ (A ++ x :: Y ++ B) (A.length:Int)) (fun h=>decide (FP (CL Y (h - (A.length + 1))) x)) (fun i=>AJ (A ++ x :: Y ++ B) (A.length:Int) 1 (i:Int) (i:Int)) (A.length + 1) (A.length + 1 + Y.length)
  (fun m i j ay hj hi=>by
   have hh:(i + j) / 2 < A.length + 1 + Y.length:=by omega
   have az:A.length + 1 ≤ (i + j) / 2:=by omega
   have hm:=IW (Y:=Y) (k:=(i + j) / 2 - (A.length + 1)) (by omega)
   obtain ⟨u,hu,ae,_⟩:=Ra (ho _ hm) hx
   have eg:AM (A ++ x :: Y ++ B) (((i + j) / 2:Nat):Int) = some (CL Y ((i + j) / 2 - (A.length + 1))):=by
    have:=Ti (A:=A ++ [x]) (Y:=Y) (B:=B) (k:=(i + j) / 2) (by simp; omega) (by simp; omega)
    simpa using this
   have ex:AM (A ++ x :: Y ++ B) (A.length:Int) = some x:=by
    have:=Jm (A:=A) (B:=Y ++ B) (x:=x) (k:=A.length) rfl
    simpa using this
   rw [AJ,if_pos (by simp; omega),R6 (by omega),eg,Aa,ex,Aa,hu,Aa,ae,AE (by omega)])
  (fun m i=>by
   rw [AJ,if_neg (by simp),AJ,if_neg (by simp)])
  (fun c c' hc aq ax hq=>by
   have:=Mj g (i:=c - (A.length + 1)) (j:=c' - (A.length + 1)) (by omega) (by omega)
   simp only [C7] at hq ⊢
   unfold Ke FP at *
   omega) Y.length FU (A.length + 1) (A.length + 1 + Y.length) (by omega) (DH (by omega)) (by omega) (by omega) (by omega) (fun c h1 f=>by omega) (fun c h1 f=>by omega)
 obtain ⟨P,R,rfl,hP⟩:=MD (l:=Y) (k:=s - (A.length + 1)) (by omega)
 have ak:∀ y ∈ P,FP y x:=fun y e=>by
  obtain ⟨k,v,rfl⟩:=Mc e
  have:=h3 (A.length + 1 + k) (by omega) (by omega)
  simp only [C7,show A.length + 1 + k - (A.length + 1) = k by omega,PY v] at this
  exact this
 have an:∀ y ∈ R,Ke x y:=fun y e=>by
  obtain ⟨k,v,rfl⟩:=Mc e
  have:=h4 (A.length + 1 + (P.length + k)) (by omega) (by simp; omega)
  simp only [decide_eq_false_iff_not,show A.length + 1 + (P.length + k) - (A.length + 1) = P.length + k by omega,O9] at this
  exact this
 refine ⟨P ++ x :: R,List.perm_middle,Pj g an (TV fun y e=>LQ (ak y e)),?_⟩
 rw [h5,AJ,if_neg (by simp)]
 have:=YP x (R ++ B) s (by simp at f hl; omega) P A FU (DH (by simp at hl; omega)) (by omega)
 rw [show A ++ x :: (P ++ R) ++ B = A ++ x :: P ++ (R ++ B) by simp,this]
 simp
theorem ZK {A X B:List BM} {y:BM} (g:A.length + X.length < 40000) (hy:Lv y) (ho:∀ x ∈ X,Lv x) (v:FW X) :
  ∃ Z,Z.Perm (X ++ [y]) ∧ FW Z ∧ AH (A ++ X ++ y :: B) ((A.length + X.length:Nat):Int) FU (A.length:Int) ((A.length + X.length:Nat):Int) = some (A ++ Z ++ B):=by
 obtain ⟨s,h1,f,h3,h4,h5⟩:=Uu (AH (A ++ X ++ y :: B) ((A.length + X.length:Nat):Int)) (fun h=>!decide (FP y (CL X (h - A.length)))) (fun i=>AH (A ++ X ++ y :: B) ((A.length + X.length:Nat):Int) 1 (i:Int) (i:Int)) A.length (A.length + X.length)
  (fun m i j ax hj hi=>by
   have hm:=IW (Y:=X) (k:=(i + j) / 2 - A.length) (by omega)
   obtain ⟨u,hu,ag,_⟩:=Ra hy (ho _ hm)
   have eg:=Ti (A:=A) (Y:=X) (B:=y :: B) (k:=(i + j) / 2) (by omega) (by omega)
   have ey:=Jm (A:=A ++ X) (B:=B) (x:=y) (k:=A.length + X.length) (by simp)
   rw [AH,if_pos (by simp; omega),R6 (by omega),ey,Aa,eg,Aa,hu,Aa,ag,AE (by omega)])
  (fun m i=>by
   rw [AH,if_neg (by simp),AH,if_neg (by simp)])
  (fun c c' hc aq aw hq=>by
   have:=Mj v (i:=c - A.length) (j:=c' - A.length) (by omega) (by omega)
   simp only [Bool.not_eq_true',decide_eq_false_iff_not] at hq ⊢
   unfold Ke FP at *
   omega) X.length FU A.length (A.length + X.length) (by omega) (DH (by omega)) (by omega) (by omega) (by omega) (fun c h1 f=>by omega) (fun c h1 f=>by omega)
 obtain ⟨P,R,rfl,hP⟩:=MD (l:=X) (k:=s - A.length) (by omega)
 have al:∀ x ∈ P,Ke x y:=fun x e=>by
  obtain ⟨k,hk,rfl⟩:=Mc e
  have:=h3 (A.length + k) (by omega) (by omega)
  simp only [Bool.not_eq_true',decide_eq_false_iff_not,show A.length + k - A.length = k by omega,PY hk] at this
  exact this
 have an:∀ x ∈ R,FP y x:=fun x e=>by
  obtain ⟨k,hk,rfl⟩:=Mc e
  have:=h4 (A.length + (P.length + k)) (by omega) (by simp; omega)
  simp only [Bool.not_eq_false',C7,show A.length + (P.length + k) - A.length = P.length + k by omega,O9] at this
  exact this
 refine ⟨P ++ y :: R,?_,Pj v (fun x e=>LQ (an x e)) (TV al),?_⟩
 ·have:(y :: R).Perm (R ++ [y]):=(List.perm_append_singleton y R).symm
  have:=this.append_left P
  simpa using this
 ·rw [h5,AH,if_neg (by simp)]
  have:=Aco y B s (by simp at f g; omega) (A ++ P) (by simp; omega) R.length FU R B rfl (DH (by simp at g; omega)) (by simp at g; omega)
  simp only [CM] at this ⊢
  rw [show A ++ (P ++ R) ++ y :: B = A ++ P ++ R ++ y :: B by simp,show A.length + (P.length + R.length) = A.length + P.length + R.length by omega,this]
  simp
theorem Abp {L R:List BM} (e:FW L) (f:FW R) (h:∀ x ∈ L,∀ y ∈ R,Ke x y):FW (L ++ R):=List.pairwise_append.2 ⟨e,f,h⟩
theorem M4 {L R:List BM} (h:FW (L ++ R)):FW L:=(List.pairwise_append.1 h).1
theorem LK {L R:List BM} (h:FW (L ++ R)):FW R:=(List.pairwise_append.1 h).2.1
theorem UQ {L R:List BM} (h:FW (L ++ R)):∀ x ∈ L,∀ y ∈ R,Ke x y:=(List.pairwise_append.1 h).2.2
theorem Acg {R:Type} {p q:Bool} {a b:Af R}:(if p = true then (if q = true then a else b) else (if false = true then a else b)) = if (p && q) = true then a else b:=by cases p <;> cases q <;> rfl
theorem ZJ:∀ (d m:Nat) (A X Y B:List BM),X.length + Y.length ≤ d → d < m → X ≠ [] → Y ≠ [] → FW X → FW Y → (∀ x ∈ X ++ Y,Lv x) → A.length + X.length + Y.length < 10000 →
  ∃ Z,Z.Perm (X ++ Y) ∧ FW Z ∧ AN m (A ++ X ++ Y ++ B) (A.length:Int) ((A.length + X.length:Nat):Int) ((A.length + X.length + Y.length:Nat):Int) = some (A ++ Z ++ B):=by
 intro d
 induction d with
 | zero =>
  intro m A X Y B hd hm hX hY _ _ _ _
  exact absurd (List.length_eq_zero_iff.1 (by omega)) hX
 | succ d ih =>
  intro m A X Y B hd hm hX hY sX sY ho hl
  have b5:=List.length_pos_iff.2 hX
  have b1:=List.length_pos_iff.2 hY
  cases m with
  | zero=>omega
  | succ m =>
   show ∃ Z,Z.Perm (X ++ Y) ∧ FW Z ∧ BV (AN m) (A ++ X ++ Y ++ B) (A.length:Int) ((A.length + X.length:Nat):Int) ((A.length + X.length + Y.length:Nat):Int) = some (A ++ Z ++ B)
   unfold BV
   rw [A8 (x:=((A.length + X.length:Nat):Int) - _) (by omega) (by omega),A8 (x:=((A.length + X.length + Y.length:Nat):Int) - _) (by omega) (by omega)]
   by_cases e1:X.length = 1
   ·obtain ⟨x,rfl⟩:=List.length_eq_one_iff.1 e1
    obtain ⟨Z,z1,z2,z3⟩:=Abm (A:=A) (Y:=Y) (B:=B) (x:=x) (by omega) (ho x (by simp)) (fun y g=>ho y (by simp [g])) sY
    rw [if_pos (by simp; omega)]
    refine ⟨Z,by simpa using z1,z2,?_⟩
    rw [← z3]
    simp
   ·rw [if_neg (by simp; omega)]
    by_cases e2:Y.length = 1
    ·obtain ⟨y,rfl⟩:=List.length_eq_one_iff.1 e2
     obtain ⟨Z,z1,z2,z3⟩:=ZK (A:=A) (X:=X) (B:=B) (y:=y) (by omega) (ho y (by simp)) (fun x f=>ho x (by simp [f])) sX
     rw [if_pos (by simp; omega)]
     refine ⟨Z,z1,z2,?_⟩
     rw [← z3]
     simp
    ·rw [if_neg (by simp; omega)]
     obtain ⟨e,bu⟩:∃ e,e = (A.length + (A.length + X.length + Y.length)) / 2:=⟨_,rfl⟩
     have hh:Ag (Bq .u64 (Bh (Ag ((A.length:Int) + ((A.length + X.length + Y.length:Nat):Int)))) 1) = (e:Int):=by rw [bu]; exact R6 (by omega)
     unfold Gk
     dsimp only
     rw [hh,A8 (x:=(e:Int) + _) (by omega) (by omega),A8 (x:=(e:Int) + _ - _) (by omega) (by omega)]
     -- where the search starts
     have a0:∀ lo v:Nat,A.length ≤ lo → lo ≤ v → v ≤ A.length + X.length → A.length + X.length ≤ e + (A.length + X.length) - v → e + (A.length + X.length) - lo ≤ A.length + X.length + Y.length →
       (lo = A.length ∨ e + (A.length + X.length) - lo = A.length + X.length + Y.length) → (v = A.length + X.length ∨ e + (A.length + X.length) - v = A.length + X.length) →
       ∃ Z,Z.Perm (X ++ Y) ∧ FW Z ∧ AG (A ++ X ++ Y ++ B) (A.length:Int) ((A.length + X.length + Y.length:Nat):Int) ((A.length + X.length:Nat):Int) (AN m) FU (lo:Int) (v:Int) = some (A ++ Z ++ B):=by
      intro lo v cb bc b0 b6 b9 bj bg
      obtain ⟨s,h1,h2,h3,h4,h5⟩:=Uu (AG (A ++ X ++ Y ++ B) (A.length:Int) ((A.length + X.length + Y.length:Nat):Int) ((A.length + X.length:Nat):Int) (AN m))
       (fun c=>!decide (FP (CL Y (e - 1 - c)) (CL X (c - A.length)))) (fun i=>AG (A ++ X ++ Y ++ B) (A.length:Int) ((A.length + X.length + Y.length:Nat):Int) ((A.length + X.length:Nat):Int) (AN m) 1 (i:Int) (i:Int)) lo v
       (fun m' i j b7 hj b2=>by
        have b4:A.length ≤ (i + j) / 2:=by omega
        have ce:(i + j) / 2 < v:=by omega
        have bd:=IW (Y:=X) (k:=(i + j) / 2 - A.length) (by omega)
        have a6:=IW (Y:=Y) (k:=e - 1 - (i + j) / 2) (by omega)
        obtain ⟨u,hu,bf,_⟩:=Ra (ho _ (Bi _ a6)) (ho _ (At _ bd))
        have eX:=Ti (A:=A) (Y:=X) (B:=Y ++ B) (k:=(i + j) / 2) (by omega) (by omega)
        have eY:=Ti (A:=A ++ X) (Y:=Y) (B:=B) (k:=e + (A.length + X.length) - 1 - (i + j) / 2) (by simp; omega) (by simp; omega)
        rw [CM,show e + (A.length + X.length) - 1 - (i + j) / 2 - (A.length + X.length) = e - 1 - (i + j) / 2 by omega] at eY
        rw [show A ++ X ++ (Y ++ B) = A ++ X ++ Y ++ B by simp] at eX
        rw [AG,if_pos (by simp; omega),hh,R6 (by omega),A8 (x:=(e:Int) + _) (by omega) (by omega),A8 (x:=(e:Int) + _ - 1) (by omega) (by omega),A8 (x:=(e:Int) + _ - 1 - _) (by omega) (by omega),
         show (e:Int) + ((A.length + X.length:Nat):Int) - 1 - (((i + j) / 2:Nat):Int) = ((e + (A.length + X.length) - 1 - (i + j) / 2:Nat):Int) by omega,eY,Aa,eX,Aa,hu,Aa,bf,AE (by omega)])
       (fun m' i=>by
        rw [AG,if_neg (by simp),AG,if_neg (by simp)])
       (fun c c' hc bz ca hq=>by
        have ap:=Mj sX (i:=c - A.length) (j:=c' - A.length) (by omega) (by omega)
        have ao:=Mj sY (i:=e - 1 - c') (j:=e - 1 - c) (by omega) (by omega)
        simp only [Bool.not_eq_true',decide_eq_false_iff_not] at hq ⊢
        unfold Ke FP at *
        omega) X.length FU lo v (by omega) (DH (by omega)) (by omega) bc (by omega) (fun c h1 h2=>by omega) (fun c h1 h2=>by omega)
      rw [h5]
      obtain ⟨X1,U,rfl,bt⟩:=MD (l:=X) (k:=s - A.length) (by omega)
      obtain ⟨V,Y2,rfl,hV⟩:=MD (l:=Y) (k:=e - s) (by omega)
      simp only [CM] at *
      -- what stands left goes ahead of what stands right
      have c1:∀ x ∈ X1,∀ y ∈ Y2,Ke x y:=fun x f y g=>by
       obtain ⟨i,bb,rfl⟩:=Mc f
       obtain ⟨j,bn,rfl⟩:=Mc g
       have a9:lo < s:=by
        rcases bj with h | h
        ·omega
        ·rcases Nat.lt_or_ge lo s with h' | h'
         ·exact h'
         ·exfalso
          have:s = lo:=by omega
          omega
       have hq:=h3 (s - 1) (by omega) (by omega)
       simp only [Bool.not_eq_true',decide_eq_false_iff_not] at hq
       rw [show e - 1 - (s - 1) = V.length + 0 by omega,O9,PY (by omega)] at hq
       have ap:=Mj (M4 sX) (i:=i) (j:=s - 1 - A.length) (by omega) (by omega)
       have ao:=Mj (LK sY) (i:=0) (j:=j) (by omega) (by omega)
       exact LP ap (LP hq ao)
      have c2:∀ x ∈ V,∀ y ∈ U,Ke x y:=fun x f y g=>by
       obtain ⟨i,bb,rfl⟩:=Mc f
       obtain ⟨j,bn,rfl⟩:=Mc g
       have a9:s < v:=by
        rcases bg with h | h
        ·omega
        ·rcases Nat.lt_or_ge s v with h' | h'
         ·exact h'
         ·exfalso
          have:s = v:=by omega
          omega
       have hq:=h4 s (by omega) (by omega)
       simp only [Bool.not_eq_false',C7] at hq
       rw [PY (by omega),show s - A.length = X1.length + 0 by omega,O9] at hq
       have ap:=Mj (LK sX) (i:=0) (j:=j) (by omega) (by omega)
       have ao:=Mj (M4 sY) (i:=i) (j:=e - 1 - s) (by omega) (by omega)
       exact LP ao (LP (LQ hq) ap)
      have bv:∀ x ∈ X1 ++ V,∀ y ∈ U ++ Y2,Ke x y:=fun x f y g=>by
       rcases AX.1 f with f | f <;> rcases AX.1 g with g | g
       ·exact UQ sX x f y g
       ·exact c1 x f y g
       ·exact c2 x f y g
       ·exact UQ sY x f y g
      rw [AG,if_neg (by simp)]
      unfold Bk
      dsimp only
      rw [hh,A8 (x:=(e:Int) + _) (by omega) (by omega),A8 (x:=(e:Int) + _ - _) (by omega) (by omega),show (e:Int) + ((A.length + (X1.length + U.length):Nat):Int) - (s:Int) = ((A.length + X1.length + V.length + U.length:Nat):Int) by omega]
      simp only [Acg]
      have cg:e = A.length + X1.length + V.length:=by omega
      have bs:∀ (K:List BM → Af (List BM)),(if (decide ((s:Int) < ((A.length + (X1.length + U.length):Nat):Int)) && decide (((A.length + (X1.length + U.length):Nat):Int) < ((A.length + X1.length + V.length + U.length:Nat):Int))) = true then
        Option.bind (BJ (A ++ (X1 ++ U) ++ (V ++ Y2) ++ B) (s:Int) ((A.length + (X1.length + U.length):Nat):Int) ((A.length + X1.length + V.length + U.length:Nat):Int)) K else K (A ++ (X1 ++ U) ++ (V ++ Y2) ++ B)) = K (A ++ (X1 ++ V) ++ (U ++ Y2) ++ B):=by
       intro K
       by_cases hU:U = []
       ·subst hU
        rw [if_neg (by simp; omega)]
        simp
       ·by_cases ai:V = []
        ·subst ai
         rw [if_neg (by simp; omega)]
         simp
        ·have u0:=List.length_pos_iff.2 hU
         have v0:=List.length_pos_iff.2 ai
         have:=YU (A:=A ++ X1) (U:=U) (V:=V) (B:=Y2 ++ B) (x1:=s) (x2:=A.length + (X1.length + U.length)) (x3:=A.length + X1.length + V.length + U.length) hU ai (by simp; omega) (by simp; omega) (by simp; omega) (by omega)
         rw [if_pos (by simp; omega),show A ++ (X1 ++ U) ++ (V ++ Y2) ++ B = A ++ X1 ++ U ++ V ++ (Y2 ++ B) by simp,this,Aa]
         simp
      have br:∃ Z1:List BM,Z1.Perm (X1 ++ V) ∧ FW Z1 ∧ ∀ (K:List BM → Af (List BM)),(if (decide ((A.length:Int) < (s:Int)) && decide ((s:Int) < (e:Int))) = true then
        Option.bind (AN m (A ++ (X1 ++ V) ++ (U ++ Y2) ++ B) (A.length:Int) (s:Int) (e:Int)) K else K (A ++ (X1 ++ V) ++ (U ++ Y2) ++ B)) = K (A ++ Z1 ++ (U ++ Y2) ++ B):=by
       by_cases av:X1 = []
       ·subst av
        exact ⟨[] ++ V,List.Perm.refl _,M4 sY,fun K=>by rw [if_neg (by simp at bt ⊢; omega)]⟩
       ·by_cases ai:V = []
        ·subst ai
         exact ⟨X1 ++ [],List.Perm.refl _,by simpa using M4 sX,fun K=>by rw [if_neg (by simp at hV ⊢; omega)]⟩
        ·have x0:=List.length_pos_iff.2 av
         have v0:=List.length_pos_iff.2 ai
         obtain ⟨Z1,z1,z2,z3⟩:=ih m A X1 V (U ++ Y2 ++ B) (by omega) (by omega) av ai (M4 sX) (M4 sY) (fun x f=>ho x (by
          rcases AX.1 f with h | h
          ·simp [h]
          ·simp [h])) (by omega)
         refine ⟨Z1,z1,z2,fun K=>?_⟩
         rw [show A.length + X1.length = s by omega,show s + V.length = e by omega] at z3
         rw [if_pos (by simp; omega),show A ++ (X1 ++ V) ++ (U ++ Y2) ++ B = A ++ X1 ++ V ++ (U ++ Y2 ++ B) by simp,z3,Aa]
         simp
      obtain ⟨Z1,z1,z2,z3⟩:=br
      have zl:Z1.length = X1.length + V.length:=by have:=z1.length_eq; simpa using this
      have be:∃ Z2:List BM,Z2.Perm (U ++ Y2) ∧ FW Z2 ∧ (if (decide ((e:Int) < ((A.length + X1.length + V.length + U.length:Nat):Int)) && decide (((A.length + X1.length + V.length + U.length:Nat):Int) < ((A.length + (X1.length + U.length) + (V.length + Y2.length):Nat):Int))) = true then
        Option.bind (AN m (A ++ Z1 ++ (U ++ Y2) ++ B) (e:Int) ((A.length + X1.length + V.length + U.length:Nat):Int) ((A.length + (X1.length + U.length) + (V.length + Y2.length):Nat):Int)) (fun u=>some u) else some (A ++ Z1 ++ (U ++ Y2) ++ B)) = some (A ++ Z1 ++ Z2 ++ B):=by
       by_cases hU:U = []
       ·subst hU
        exact ⟨[] ++ Y2,List.Perm.refl _,LK sY,by rw [if_neg (by simp; omega)]⟩
       ·by_cases ax:Y2 = []
        ·subst ax
         exact ⟨U ++ [],List.Perm.refl _,by simpa using LK sX,by rw [if_neg (by simp; omega)]⟩
        ·have u0:=List.length_pos_iff.2 hU
         have y0:=List.length_pos_iff.2 ax
         obtain ⟨Z2,w1,w2,w3⟩:=ih m (A ++ Z1) U Y2 B (by omega) (by omega) hU ax (LK sX) (LK sY) (fun x f=>ho x (by
          rcases AX.1 f with h | h
          ·simp [h]
          ·simp [h])) (by simp; omega)
         refine ⟨Z2,w1,w2,?_⟩
         simp only [CM] at w3
         rw [show A.length + Z1.length = e by omega,show e + U.length = A.length + X1.length + V.length + U.length by omega,show A.length + X1.length + V.length + U.length + Y2.length = A.length + (X1.length + U.length) + (V.length + Y2.length) by omega] at w3
         rw [if_pos (by simp; omega),show A ++ Z1 ++ (U ++ Y2) ++ B = A ++ Z1 ++ U ++ Y2 ++ B by simp,w3,Aa]
      obtain ⟨Z2,w1,w2,w3⟩:=be
      refine ⟨Z1 ++ Z2,?_,Abp z2 w2 (fun x f y g=>bv x (z1.mem_iff.1 f) y (w1.mem_iff.1 g)),?_⟩
      ·have h1:=z1.append w1
       have h2:(X1 ++ V ++ (U ++ Y2)).Perm (X1 ++ U ++ (V ++ Y2)):=by
        have h3:=((List.perm_append_comm (l₁:=V) (l₂:=U)).append_left X1).append_right Y2
        simpa using h3
       exact h1.trans h2
      ·rw [bs,z3,w3]
       simp
     by_cases b8:e < A.length + X.length
     ·rw [if_pos (by simp; omega),show (e:Int) + ((A.length + X.length:Nat):Int) - ((A.length + X.length + Y.length:Nat):Int) = ((e + (A.length + X.length) - (A.length + X.length + Y.length):Nat):Int) by omega]
      exact a0 _ _ (by omega) (by omega) (by omega) (by omega) (by omega) (by omega) (by omega)
     ·rw [if_neg (by simp; omega)]
      exact a0 _ _ (by omega) (by omega) (by omega) (by omega) (by omega) (by omega) (by omega)
theorem Xm {X Y:List BM} (m:X ≠ []) (s:Y ≠ []) (h:FW X) (g:FW Y) (u:∀ x ∈ X ++ Y,Lv x) (v:X.length + Y.length < 10000) :
  ∃ Z,Z.Perm (X ++ Y) ∧ FW Z ∧ Cb (X ++ Y) 0 (X.length:Int) ((X.length + Y.length:Nat):Int) = some Z:=by
 obtain ⟨Z,l,e,f⟩:=ZJ (X.length + Y.length) FU [] X Y [] (Nat.le_refl _) (DH (by omega)) m s h g u (by simpa using v)
 exact ⟨Z,l,e,by simpa [Cb] using f⟩
theorem YG {l:List BM} (hl:l.length ≤ 40) (ho:∀ x ∈ l,Lv x):∃ Z,Z.Perm l ∧ FW Z ∧ B6 l = some Z:=by
 have f1 (g:Nat):g + 1 = g.succ:=rfl
 unfold B6 C8
 by_cases a5:l.length < 20
 ·obtain ⟨Z,z1,v,u⟩:=Mf (A:=[]) (X:=l) (B:=[]) (a:=0) (b:=l.length) rfl (by simp) (by omega) ho
  simp only [List.nil_append,List.append_nil] at u
  refine ⟨Z,z1,v,?_⟩
  have e2:AD (l.length:Int) FU Z 20 = some Z:=by
   have:∀ g,AD (l.length:Int) (g + 1) Z 20 = some Z:=fun g=>by
    rw [AD,if_neg (by simp; omega)]
   exact this (FU - 1)
  have e1:AL (l.length:Int) FU l 0 20 = some Z:=by
   have:∀ g,AL (l.length:Int) (g + 1) l 0 20 = some Z:=fun g=>by
    rw [AL,if_neg (by simp; omega),show (0:Int) = ((0:Nat):Int) from rfl,u,Aa,e2]
   exact this (FU - 1)
  rw [e1,Aa]
 ·obtain ⟨X,Y,rfl,hX⟩:=MD (l:=l) (k:=20) (by omega)
  simp only [CM] at hl a5
  obtain ⟨Z1,z1,v,u⟩:=Mf (A:=[]) (X:=X) (B:=Y) (a:=0) (b:=20) rfl (by simp [hX]) (by omega) (fun s h=>ho s (by simp [h]))
  have zl:Z1.length = 20:=by rw [z1.length_eq,hX]
  obtain ⟨Z2,w1,w2,w3⟩:=Mf (A:=Z1) (X:=Y) (B:=[]) (a:=20) (b:=20 + Y.length) (by omega) (by omega) (by omega) (fun s h=>ho s (by simp [h]))
  have wl:Z2.length = Y.length:=w1.length_eq
  simp only [List.nil_append,List.append_nil] at u w3
  have ae:(Z1 ++ Z2).Perm (X ++ Y):=z1.append w1
  have a4:∀ x ∈ Z1 ++ Z2,Lv x:=fun x hx=>ho x (ae.mem_iff.1 hx)
  have hn:(((X ++ Y).length:Nat):Int) = ((20 + Y.length:Nat):Int):=by simp [hX]
  have ap:Ag ((0:Int) + 20) = ((20:Nat):Int):=by decide
  have aq:Ag (2 * 20) = ((40:Nat):Int):=by decide
  have ao:Ag ((20:Int) * 2) = ((40:Nat):Int):=by decide
  -- the merge
  have aw:∃ Z,Z.Perm (X ++ Y) ∧ FW Z ∧ AD ((20 + Y.length:Nat):Int) FU (Z1 ++ Z2) 20 = some Z:=by
   by_cases hY:Y = []
   ·subst hY
    have:Z2 = []:=List.Perm.eq_nil w1
    subst this
    refine ⟨Z1 ++ [],ae,by simpa using v,?_⟩
    have:∀ g,AD ((20 + 0:Nat):Int) (g + 1) (Z1 ++ []) 20 = some (Z1 ++ []):=fun g=>by
     rw [AD,if_neg (by simp)]
    exact this (FU - 1)
   ·have y0:=List.length_pos_iff.2 hY
    obtain ⟨Z,v1,v2,f⟩:=Xm (X:=Z1) (Y:=Z2) (fun h=>by subst h; simp at zl) (fun h=>by subst h; simp at wl; exact hY (List.length_eq_zero_iff.1 wl.symm)) v w2 a4 (by omega)
    rw [zl,wl] at f
    refine ⟨Z,v1.trans ae,v2,?_⟩
    have l3:∀ (m:List BM → Int → Af (List BM)),Bn ((20 + Y.length:Nat):Int) 20 m FU (Z1 ++ Z2) 0 ((40:Nat):Int) = m Z ((40:Nat):Int):=by
     intro m
     have:∀ g,Bn ((20 + Y.length:Nat):Int) 20 m (g + 2) (Z1 ++ Z2) 0 ((40:Nat):Int) = m Z ((40:Nat):Int):=fun g=>by
      rw [Bn]
      unfold Bk
      dsimp only
      by_cases an:Y.length = 20
      ·have e:((40:Nat):Int) = ((20 + Y.length:Nat):Int):=by omega
       have a9:Ag (((20 + Y.length:Nat):Int) + 20) = ((60:Nat):Int):=by rw [an]; decide
       rw [if_pos (by simp; omega),ap,e,f,Aa,Bn]
       unfold Bk
       dsimp only
       rw [aq,if_neg (by rw [A8 (by omega) (by omega)]; simp; omega),a9,if_neg (by simp; omega),ao,e]
      ·rw [if_neg (by simp; omega),ap,if_pos (by simp; omega),f,Aa,ao]
     exact this (FU - 2)
    have:∀ g,AD ((20 + Y.length:Nat):Int) (g + 2) (Z1 ++ Z2) 20 = some Z:=fun g=>by
     rw [AD,if_pos (by simp; omega),aq,l3,AD,if_neg (by simp; omega)]
    exact this (FU - 2)
  obtain ⟨Z,v1,v2,f⟩:=aw
  refine ⟨Z,v1,v2,?_⟩
  have l1:AL ((20 + Y.length:Nat):Int) FU (X ++ Y) 0 20 = some Z:=by
   have:∀ g,AL ((20 + Y.length:Nat):Int) (g + 3) (X ++ Y) 0 20 = some Z:=fun g=>by
    have a1:Ag ((20:Int) + 20) = ((40:Nat):Int):=by decide
    have a2:Ag (((40:Nat):Int) + 20) = ((60:Nat):Int):=by decide
    have av:Bj (X ++ Y) 0 20 = some (Z1 ++ Y):=u
    rw [AL,if_pos (by simp; omega),av,Aa,a1,AL]
    by_cases an:Y.length = 20
    ·have e:((40:Nat):Int) = ((20 + Y.length:Nat):Int):=by omega
     have aj:Bj (Z1 ++ Y) 20 ((40:Nat):Int) = some (Z1 ++ Z2):=by rw [e]; exact w3
     obtain ⟨Z3,y1,_,y3⟩:=Mf (A:=Z1 ++ Z2) (X:=[]) (B:=[]) (a:=40) (b:=20 + Y.length) (by simp; omega) (by simp; omega) (by omega) (fun s h=>by cases h)
     have:Z3 = []:=List.Perm.eq_nil y1
     subst this
     simp only [List.append_nil] at y3
     rw [if_pos (by simp; omega),aj,Aa,a2,AL,if_neg (by simp; omega),y3,Aa,f]
    ·have aj:Bj (Z1 ++ Y) 20 ((20 + Y.length:Nat):Int) = some (Z1 ++ Z2):=w3
     rw [if_neg (by simp; omega),aj,Aa,f]
   exact this (FU - 3)
  rw [hn,l1,Aa]
def IH (x:BM):Bool:=BK x.1 1 12 && (BK x.2.1 1 9 && (BK x.2.2.1 0 999 && BK x.2.2.2 (x.2.2.1 + 1) 1000))
theorem MY {x:BM}:IH x = true ↔ (1 ≤ x.1 ∧ x.1 ≤ 12) ∧ (1 ≤ x.2.1 ∧ x.2.1 ≤ 9) ∧ (0 ≤ x.2.2.1 ∧ x.2.2.1 ≤ 999) ∧ x.2.2.1 + 1 ≤ x.2.2.2 ∧ x.2.2.2 ≤ 1000:=by
 unfold IH
 simp only [Cg,D9]
theorem WA (x:BM):JQ x = some (IH x):=by
 unfold JQ Bk
 dsimp only
 rw [CT,Aa,CT,Aa]
 cases h1:BK x.1 1 12 with
 | false=>simp [IH,h1]
 | true =>
  cases f:BK x.2.1 1 9 with
  | false=>simp [IH,h1,f]
  | true =>
   rw [if_pos rfl,if_pos rfl]
   have e:IH x = (decide (0 ≤ x.2.2.1) && (decide (x.2.2.1 < x.2.2.2) && decide (x.2.2.2 ≤ 1000))):=by
    unfold IH BK at *
    rw [h1,f,Bool.eq_iff_iff]
    simp
    omega
   rw [e]
   by_cases g:0 ≤ x.2.2.1 <;> by_cases h:x.2.2.1 < x.2.2.2 <;> simp [g,h]
theorem Sd (a b:BM):HQ a b = some (decide (FP a b)):=by
 unfold HQ Bk FP
 dsimp only
 by_cases h1:a.2.2.1 < b.2.2.1
 ·simp [h1]
 ·by_cases e:a.2.2.1 = b.2.2.1 <;> simp [h1,e]
def Of (x y:BM):Bool:=!((decide (y.2.1 = x.2.1) || decide (y.1 = x.1)) && decide (x.2.2.1 < y.2.2.2))
def Kf (l:List BM) (k:Nat):Bool:=decide (k = 0) || decide (FP (CL l (k - 1)) (CL l k))
def WP (l:List BM) (k:Nat):Bool:=IH (CL l k) && (Kf l k && (l.take k).all (Of (CL l k)))
def Fv (l:List BM):Bool:=(List.range l.length).all (WP l) && decide (l.length ≤ 40)
theorem RW {l:List BM} (hl:l.length < 4611686018427387904) (ho:∀ x ∈ l,Lv x):Jg l = some (Fv l):=by
 unfold Jg Fv
 rw [O1 (Du l) l.length (WP l) (some (decide (l.length ≤ 40))) (some false) hl (fun m k h=>?_) (fun m=>?_)]
 ·cases (List.range l.length).all (WP l) <;> simp
 ·have v:l[k]? = some (CL l k):=by rw [Cp h,FQ h]
  have ac:=ho _ (IW h)
  rw [Du,if_pos (by simp; omega),AY,v,Aa]
  unfold Bk Ju Jf WP
  dsimp only
  rw [CU,Aa,Aa,CU,Aa,Aa,CU,Aa,A8 (x:=(CL l k).2.2.1 + 1) (by have:=ac.2; omega) (by have:=ac.2; omega),CU,Aa]
  by_cases s:IH (CL l k) = true
  ·have e:=s
   unfold IH at e
   simp only [Cg] at e
   rw [e.1,if_neg (by simp),e.2.1,if_neg (by simp),e.2.2.1,if_neg (by simp),e.2.2.2,if_neg (by simp),s,Bool.true_and]
   have ag:(Option.bind (sl l 0 (k:Int)) fun ah=>EH ah (CL l k) (Du l m) (k:Int) FU 0) = if (l.take k).all (Of (CL l k)) = true then Du l m ((k + 1:Nat):Int) else some false:=by
    rw [LM l (by omega),Aa]
    rw [O2 (EH (l.take k) (CL l k) (Du l m) (k:Int)) (l.take k) (Of (CL l k)) (Du l m ((k + 1:Nat):Int)) (some false) (by simp; omega) (fun m' j x hj v=>?_) (fun m'=>?_)]
    ·rw [EH,if_pos (by simp at hj ⊢; omega),AY,v,Aa,AE (by simp at hj; omega)]
     unfold Bk Of
     dsimp only
     by_cases f:x.2.1 = (CL l k).2.1
     ·rw [if_pos (by simpa using f)]
      by_cases u:(CL l k).2.2.1 < x.2.2.2 <;> simp [f,u]
     ·rw [if_neg (by simpa using f)]
      by_cases g:x.1 = (CL l k).1
      ·rw [if_pos (by simpa using g)]
       by_cases u:(CL l k).2.2.1 < x.2.2.2 <;> simp [f,g,u]
      ·rw [if_neg (by simpa using g)]
       simp [f,g]
    ·rw [EH,if_neg (by simp),AE (by omega)]
   rw [ag]
   by_cases h0:k = 0
   ·subst h0
    rw [if_neg (by simp)]
    simp [Kf]
   ·have al:l[k - 1]? = some (CL l (k - 1)):=by rw [Cp (by omega),FQ (by omega)]
    rw [if_pos (by simp; omega),A8 (by omega) (by omega),show (k:Int) - 1 = ((k - 1:Nat):Int) by omega,AY,al,Aa,Sd,Aa]
    unfold Kf
    by_cases hb:FP (CL l (k - 1)) (CL l k)
    ·rw [decide_eq_true hb,Bool.or_true,Bool.true_and,if_neg (by simp)]
    ·rw [decide_eq_false hb,decide_eq_false h0]
     simp
  ·have e:IH (CL l k) = false:=by simpa using s
   rw [e,Bool.false_and,if_neg (c:=false = true) (by simp)]
   unfold IH at e
   cases b1:BK (CL l k).1 1 12 with
   | false=>simp
   | true =>
    cases b2:BK (CL l k).2.1 1 9 with
    | false=>simp
    | true =>
     cases b3:BK (CL l k).2.2.1 0 999 with
     | false=>simp
     | true =>
      rw [b1,b2,b3] at e
      simp only [Bool.true_and] at e
      rw [e]
      simp
 ·rw [Du,if_neg (by simp),show decide ((l.length:Int) ≤ 40) = decide (l.length ≤ 40) by rw [decide_eq_decide]; omega]
theorem Hh {l:List BM}:Fv l = true ↔ l.length ≤ 40 ∧ (∀ x ∈ l,IH x = true) ∧ l.Pairwise FP ∧ ∀ k,k < l.length → (l.take k).all (Of (CL l k)) = true:=by
 unfold Fv WP
 simp only [Cg,List.all_eq_true,List.mem_range,C7]
 constructor
 ·rintro ⟨h1,h⟩
  refine ⟨h,fun x hx=>?_,?_,fun k e=>?_⟩
  ·obtain ⟨k,e,rfl⟩:=Mc hx
   exact (h1 k e).1
  ·have s:∀ k,k + 1 < l.length → FP (CL l k) (CL l (k + 1)):=fun k e=>by
    have:=(h1 (k + 1) e).2.1
    unfold Kf at this
    simpa using this
   have ac:∀ d i,i + d + 1 < l.length → FP (CL l i) (CL l (i + d + 1)):=by
    intro d
    induction d with
    | zero=>intro i f; exact s i f
    | succ d ih =>
     intro i f
     have u:=ih i (by omega)
     have m:=s (i + d + 1) (by omega)
     rw [show i + (d + 1) + 1 = i + d + 1 + 1 by omega]
     unfold FP at *
     omega
   rw [List.pairwise_iff_getElem]
   intro i j f v ae
   have:=ac (j - i - 1) i (by omega)
   rw [show i + (j - i - 1) + 1 = j by omega,FQ f,FQ v] at this
   exact this
  ·exact fun y g=>(h1 k e).2.2 y g
 ·rintro ⟨h1,h,u,m⟩
  refine ⟨fun k e=>⟨h _ (IW e),?_,fun y g=>m k e y g⟩,h1⟩
  unfold Kf
  by_cases h0:k = 0
  ·simp [h0]
  ·have:=(List.pairwise_iff_getElem.1 u) (k - 1) k (by omega) e (by omega)
   rw [← FQ (by omega:k - 1 < l.length),← FQ e] at this
   simp [this]
def Oe (x y:BM):Bool:=!((decide (x.2.1 = y.2.1) || decide (x.1 = y.1)) && decide (Fx x.2.2.1 y.2.2.1 < Fn x.2.2.2 y.2.2.2))
theorem T1 {x y:BM} (g:IH x = true) (f:IH y = true) (h:FP y x):Oe x y = Of x y:=by
 have l:=MY.1 g
 have m:=MY.1 f
 have e:decide (Fx x.2.2.1 y.2.2.1 < Fn x.2.2.2 y.2.2.2) = decide (x.2.2.1 < y.2.2.2):=by
  rw [decide_eq_decide]
  unfold Fx Fn
  unfold FP at h
  split <;> split <;> omega
 unfold Oe Of
 rw [e,show decide (x.2.1 = y.2.1) = decide (y.2.1 = x.2.1) by rw [decide_eq_decide]; exact eq_comm,show decide (x.1 = y.1) = decide (y.1 = x.1) by rw [decide_eq_decide]; exact eq_comm]
theorem Aa1 {l:List BM} (h:∀ k,k < l.length → Kf l k = true):l.Pairwise FP:=by
 have f:∀ k,k + 1 < l.length → FP (CL l k) (CL l (k + 1)):=fun k u=>by
  have:=h (k + 1) u
  unfold Kf at this
  simpa using this
 have s:∀ d i,i + d + 1 < l.length → FP (CL l i) (CL l (i + d + 1)):=by
  intro d
  induction d with
  | zero=>intro i e; exact f i e
  | succ d m =>
   intro i e
   have h3:=m i (by omega)
   have v:=f (i + d + 1) (by omega)
   rw [show i + (d + 1) + 1 = i + d + 1 + 1 by omega]
   unfold FP at *
   omega
 rw [List.pairwise_iff_getElem]
 intro i j e g aa
 have:=s (j - i - 1) i (by omega)
 rw [show i + (j - i - 1) + 1 = j by omega,FQ e,FQ g] at this
 exact this
theorem XD {l:List BM} (h:l.Pairwise FP) {k:Nat} (e:k < l.length) {y:BM} (f:y ∈ l.take k):FP y (CL l k):=by
 obtain ⟨i,g,rfl⟩:=List.mem_take_iff_getElem.1 f
 rw [FQ e]
 exact (List.pairwise_iff_getElem.1 h) i k (by omega) e (by omega)
theorem O3 {l:List BM} (hl:l.length < 4611686018427387904) (ho:∀ x ∈ l,Lv x):FT l = some (Fv l):=by
 unfold FT
 by_cases ah:l.length ≤ 40
 ·rw [if_neg (by simp; omega)]
  rw [O2 (Eh l) l IH (CF l FU 0) (some false) hl (fun m k x hx e=>?_) (fun m=>?_)]
  ·cases ha:l.all IH with
   | false =>
    rw [if_neg (by simp)]
    have:Fv l = false:=by
     rw [← Bool.not_eq_true]
     intro h
     rw [List.all_eq_true.2 (Hh.1 h).2.1] at ha
     cases ha
    rw [this]
   | true =>
    have s:=List.all_eq_true.1 ha
    rw [if_pos rfl]
    rw [O1 (CF l) l.length (fun k=>Kf l k && (l.take k).all (Oe (CL l k))) (some true) (some false) hl (fun m k e=>?_) (fun m=>?_)]
    ·have:(List.range l.length).all (fun k=>Kf l k && (l.take k).all (Oe (CL l k))) = Fv l:=by
      rw [Bool.eq_iff_iff,Hh]
      simp only [List.all_eq_true,List.mem_range,Cg]
      constructor
      ·intro h
       have v:=Aa1 fun k e=>(h k e).1
       refine ⟨ah,s,v,fun k e y f=>?_⟩
       rw [← T1 (s _ (IW e)) (s y (List.mem_of_mem_take f)) (XD v e f)]
       exact (h k e).2 y f
      ·rintro ⟨_,_,v,h⟩ k e
       refine ⟨?_,fun y f=>?_⟩
       ·unfold Kf
        by_cases h0:k = 0
        ·simp [h0]
        ·have:=(List.pairwise_iff_getElem.1 v) (k - 1) k (by omega) e (by omega)
         rw [← FQ (by omega:k - 1 < l.length),← FQ e] at this
         simp [this]
       ·rw [T1 (s _ (IW e)) (s y (List.mem_of_mem_take f)) (XD v e f)]
        exact h k e y f
     rw [this]
     cases Fv l <;> rfl
    ·have hx:l[k]? = some (CL l k):=by rw [Cp e,FQ e]
     rw [CF,if_pos (by simp; omega),AY,hx,Aa]
     unfold Bk
     dsimp only
     have an:(Option.bind (sl l 0 (k:Int)) fun al=>D3 al (CL l k) (CF l m) (k:Int) FU 0) = if (l.take k).all (Oe (CL l k)) = true then CF l m ((k + 1:Nat):Int) else some false:=by
      rw [LM l (by omega),Aa]
      rw [O2 (D3 (l.take k) (CL l k) (CF l m) (k:Int)) (l.take k) (Oe (CL l k)) (CF l m ((k + 1:Nat):Int)) (some false) (by simp; omega) (fun m' j x hj hx=>?_) (fun m'=>?_)]
      ·rw [D3,if_pos (by simp at hj ⊢; omega),AY,hx,Aa,AE (by simp at hj; omega)]
       unfold Bk Oe
       dsimp only
       by_cases g:(CL l k).2.1 = x.2.1
       ·rw [if_pos (by simpa using g)]
        by_cases a3:Fx (CL l k).2.2.1 x.2.2.1 < Fn (CL l k).2.2.2 x.2.2.2 <;> simp [g,a3]
       ·rw [if_neg (by simpa using g)]
        by_cases a2:(CL l k).1 = x.1
        ·rw [if_pos (by simpa using a2)]
         by_cases a3:Fx (CL l k).2.2.1 x.2.2.1 < Fn (CL l k).2.2.2 x.2.2.2 <;> simp [g,a2,a3]
        ·rw [if_neg (by simpa using a2)]
         simp [g,a2]
      ·rw [D3,if_neg (by simp),AE (by omega)]
     rw [an]
     by_cases h0:k = 0
     ·subst h0
      rw [if_neg (by simp)]
      simp [Kf]
     ·have aq:l[k - 1]? = some (CL l (k - 1)):=by rw [Cp (by omega),FQ (by omega)]
      obtain ⟨u,hu,_,am⟩:=Ra (ho _ (IW (Y:=l) (k:=k - 1) (by omega))) (ho _ (IW e))
      rw [if_pos (by simp; omega),A8 (by omega) (by omega),show (k:Int) - 1 = ((k - 1:Nat):Int) by omega,AY,aq,Aa,hu,Aa,am]
      unfold Kf
      by_cases hb:FP (CL l (k - 1)) (CL l k)
      ·rw [decide_eq_true hb,Bool.or_true,Bool.true_and,if_neg (by simp)]
      ·rw [decide_eq_false hb,decide_eq_false h0]
       simp
    ·rw [CF,if_neg (by simp)]
  ·rw [Eh,if_pos (by simp; have:=(List.getElem?_eq_some_iff.1 e).1; omega),AY,e,Aa,WA,Aa,AE (by have:=(List.getElem?_eq_some_iff.1 e).1; omega)]
   cases IH x <;> simp
  ·rw [Eh,if_neg (by simp)]
 ·rw [if_pos (by simp; omega)]
  have:Fv l = false:=by
   rw [← Bool.not_eq_true]
   intro h
   exact ah (Hh.1 h).1
  rw [this]
theorem Ad5 {l:List BM} {x:BM} {K:List BM → Af (List BM × Bool)} (hl:l.length < 100000) (hs:FW l):∀ (k m:Nat),k ≤ l.length → k < m → (∀ s ∈ l.drop k,FP x s) →
  ∃ Z,Z.Perm (x :: l) ∧ FW Z ∧ FF l x K m (k:Int) = K Z:=by
 intro k
 have ac:∀ (k:Nat),k ≤ l.length → (∀ s ∈ l.drop k,FP x s) → (k = 0 ∨ ¬ FP x (CL l (k - 1))) → (Option.bind (sl l 0 (k:Int)) fun ae=>Option.bind (sl l (k:Int) (List.length l:Int)) fun al=>Option.bind (Ck [] ae) fun ao=>Option.bind (Ck ao [x]) fun ak=>Option.bind (Ck ak al) fun ai=>K ai) = K (l.take k ++ x :: l.drop k) ∧ FW (l.take k ++ x :: l.drop k) ∧ (l.take k ++ x :: l.drop k).Perm (x :: l):=by
  intro k e h1 h2
  refine ⟨?_,?_,?_⟩
  ·rw [LM l e,Aa,Ta l e,Aa,Br (by simp; omega),Aa,Br (by simp; omega),Aa,Br (by simp; omega),Aa]
   simp
  ·refine Pj (by rw [List.take_append_drop]; exact hs) (fun s h=>LQ (h1 s h)) ?_
   rcases h2 with h | h
   ·left; rw [h,List.take_zero]
   ·refine TV fun y hy=>?_
    obtain ⟨i,hi,rfl⟩:=List.mem_take_iff_getElem.1 hy
    have h3:=Mj hs (i:=i) (j:=k - 1) (by omega) (by omega)
    rw [FQ (by omega)] at h3
    exact LP h3 h
  ·have:(l.take k ++ x :: l.drop k).Perm (x :: (l.take k ++ l.drop k)):=List.perm_middle
   rwa [List.take_append_drop] at this
 induction k with
 | zero =>
  intro m e hm h1
  cases m with
  | zero=>omega
  | succ m =>
   obtain ⟨f1,v,u⟩:=ac 0 e h1 (.inl rfl)
   refine ⟨_,u,v,?_⟩
   rw [FF]
   unfold Bk
   dsimp only
   rw [if_neg (by simp),if_neg (by simp)]
   exact f1
 | succ k ih =>
  intro m e hm h1
  cases m with
  | zero=>omega
  | succ m =>
   have f:k < l.length:=by omega
   have hx:l[k]? = some (CL l k):=by rw [Cp f,FQ f]
   have ek:Ag (((k + 1:Nat):Int) - 1) = (k:Int):=by rw [A8 (by omega) (by omega)]; omega
   rw [FF]
   unfold Bk
   dsimp only
   rw [if_pos (by simp <;> omega),ek,AY,hx,Aa,Sd,Aa]
   by_cases g:FP x (CL l k)
   ·rw [if_pos (by simpa using g)]
    refine ih m (by omega) (by omega) (fun s h=>?_)
    rw [List.drop_eq_getElem_cons f] at h
    rcases List.mem_cons.1 h with rfl | h
    ·rw [← FQ f]; exact g
    ·exact h1 s h
   ·obtain ⟨f1,v,u⟩:=ac (k + 1) e h1 (.inr (by simpa using g))
    refine ⟨_,u,v,?_⟩
    rw [if_neg (by simpa using g)]
    exact f1
theorem Z6 {l:List BM} (hl:l.length < 50000) (ho:∀ x ∈ l,Lv x):∃ Z,Z.Perm l ∧ FW Z ∧ Je l = some (if Fv Z = true then (Z,true) else ([],false)):=by
 unfold Je
 have u:∀ (d k m:Nat) (S:List BM),l.length - k = d → k ≤ l.length → d < m → S.Perm (l.take k) → FW S → ∃ Z,Z.Perm l ∧ FW Z ∧ EG l m S (k:Int) = some (if Fv Z = true then (Z,true) else ([],false)):=by
  intro d
  induction d with
  | zero =>
   intro k m S hd hk v e f
   have:k = l.length:=by omega
   subst this
   rw [List.take_length] at e
   cases m with
   | zero=>omega
   | succ m =>
    refine ⟨S,e,f,?_⟩
    rw [EG,if_neg (by simp),RW (by have:=e.length_eq; omega) (fun x hx=>ho x (e.mem_iff.1 hx)),Aa]
    cases Fv S <;> rfl
  | succ d ih =>
   intro k m S hd hk v e f
   have g:k < l.length:=by omega
   have ao:S.length = k:=by rw [e.length_eq]; simp; omega
   cases m with
   | zero=>omega
   | succ m =>
    obtain ⟨Z,z1,z2,z3⟩:=Ad5 (l:=S) (x:=l[k]) (K:=fun al=>EG l m al (Ag ((k:Int) + 1))) (by omega) f S.length FU (Nat.le_refl _) (DH (by omega)) (fun s h=>by rw [List.drop_length] at h; cases h)
    rw [EG,if_pos (by simp; omega)]
    unfold Bk
    dsimp only
    rw [Jo g,Aa]
    obtain ⟨W,w1,w2,w3⟩:=ih (k + 1) m Z (by omega) (by omega) (by omega) (by
     rw [List.take_succ_eq_append_getElem g]
     exact z1.trans ((List.Perm.cons _ e).trans (List.perm_append_singleton _ _).symm)) z2
    refine ⟨W,w1,w2,?_⟩
    rw [z3,AE (by omega)]
    exact w3
 exact u l.length 0 FU [] rfl (by omega) (DH (by omega)) (by simp) List.Pairwise.nil
theorem Sl:∀ {Z W:List BM},Z.Perm W → Z.Pairwise FP → FW W → Z = W
 | [],W,h,_,_=>(List.Perm.nil_eq h)
 | a :: Z,[],h,_,_=>by have:=h.length_eq; simp at this
 | a :: Z,b :: W,h,h1,h2=>by
  have e:a = b:=by
   have g:a ∈ b :: W:=h.mem_iff.1 (List.mem_cons_self ..)
   have f:b ∈ a :: Z:=h.mem_iff.2 (List.mem_cons_self ..)
   rcases List.mem_cons.1 g with e | g
   ·exact e
   ·rcases List.mem_cons.1 f with e | f
    ·exact e.symm
    ·have l:=(List.pairwise_cons.1 h1).1 b f
     have m:=(List.pairwise_cons.1 h2).1 a g
     exact absurd l m
  subst e
  rw [Sl (List.Perm.cons_inv h) (List.pairwise_cons.1 h1).2 (List.pairwise_cons.1 h2).2]
theorem Aat {Z W:List BM} (h:Z.Perm W) (h1:FW Z) (g:FW W):(if Fv Z = true then (Z,true) else ([],false)) = (if Fv W = true then (W,true) else (([]:List BM),false)):=by
 by_cases e:Fv Z = true
 ·rw [Sl h (Hh.1 e).2.2.1 g]
 ·by_cases f:Fv W = true
  ·exact absurd (by rw [← Sl h.symm (Hh.1 f).2.2.1 h1]; exact f) e
  ·rw [if_neg e,if_neg f]
theorem Y5 {l:List BM} (hl:l.length ≤ 40) (f:∀ x ∈ l,Lv x):∃ Z,Z.Perm l ∧ B6 l = some Z ∧ FT Z = some (Fv Z) ∧ Je l = some (if Fv Z = true then (Z,true) else ([],false)):=by
 obtain ⟨Z,e,g,m⟩:=YG hl f
 obtain ⟨W,v,s,u⟩:=Z6 (by omega) f
 refine ⟨Z,e,m,O3 (by rw [e.length_eq]; omega) (fun x h=>f x (e.mem_iff.1 h)),?_⟩
 rw [u,Aat (v.trans e.symm) s g]
end Go.Proofs.YtellehgihceicaaGreatDoor
