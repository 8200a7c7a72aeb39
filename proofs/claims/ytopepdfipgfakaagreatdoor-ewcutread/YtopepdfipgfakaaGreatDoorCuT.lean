import Derived.Test.YtopepdfipgfakaaGreatDoorCuSh
import Derived.Test.YtopepdfipgfakaaGreatDoorEfL
import Derived.Test.YtopepdfipgfakaaGreatDoorAvE
import Derived.Lib.IndexAny
import Derived.Lib.IndexMore
import Derived.Lib.IndexBytes
import Derived.IntWalk
import Derived.KernelRfl
namespace Go.Av
set_option linter.unusedVariables false
theorem qBT {α:Type} [DecidableEq α] {a b:List α} {i:Nat} (ha:i < a.length) (hb:i < b.length) (d:α):decide (a.drop i=b.drop i)=bif a.getD i d != b.getD i d then false else decide (a.drop (i+1)=b.drop (i+1)):=by
 rw [qV (d:=d) ha,qV (d:=d) hb]
 generalize a.getD i d=x
 generalize b.getD i d=y
 by_cases h:x=y
 ·subst h; simp
 ·simp [h]
theorem qBU:∀ (c0:UInt8),∃ n,qxU n c0=qf (z214 c0):=fun c=>⟨0,by
 unfold qxU z214 qrL orI
 cases decide (c < (32:UInt8)) <;> cases (c==(127:UInt8)) <;> cases (c==(32:UInt8)) <;> cases (c==(9:UInt8)) <;> cases decide ((48:UInt8)≤c) <;> cases decide (c≤(57:UInt8)) <;> cases decide ((65:UInt8)≤c) <;> cases decide (c≤(90:UInt8)) <;> cases decide ((97:UInt8)≤c) <;> cases decide (c≤(122:UInt8)) <;> rfl⟩
theorem qBV:∀ (s0:List UInt8) (c1:UInt8),∃ n,qEu n s0 c1=qxV (z229 s0 c1):=fun _ _=>⟨0,rfl⟩
theorem qBW:∀ (s0:List UInt8) (c1:UInt8),∃ n,qEv n s0 c1=qxW (z192 s0 c1):=fun _ _=>⟨0,rfl⟩
theorem qBX:∀ (s0:List UInt8) (c1:UInt8),∃ n,qEw n s0 c1=qxX (z215 s0 c1):=fun _ _=>⟨0,rfl⟩
theorem qBY:∀ (c0:UInt8),∃ n,qxY n c0=qZ (z180 c0):=fun c=>⟨0,by
 unfold qxY z180 qDW orI
 cases decide (c < (33:UInt8)) <;> cases decide ((126:UInt8) < c) <;> cases z215 [33,42,43,45,47] c <;> cases z215 [43,47] c <;> cases z215 [40,41,60,62,64,44,59,58,92,34,47,91,93,63,61] c <;> cases z215 [42,39,37] c <;> rfl⟩
theorem qBZ:∀ (c0:UInt8) (kinds1:Int),∃ n,qEx n c0 kinds1=qxZ (z129 c0 kinds1):=fun _ _=>⟨0,rfl⟩
theorem dT {p:Prop} [Decidable p] (h:p):decide p=true:=decide_eq_true h
theorem dF {p:Prop} [Decidable p] (h:¬ p):decide p=false:=decide_eq_false h
theorem wr {x:Int} (h : -9223372036854775808≤x∧x≤9223372036854775807):IntKind.wrap .i64 x=x:=IntWalk.i64_in x h
theorem tn (i:Nat):Int.toNat (i:Int)=i:=Int.toNat_natCast i
theorem bneI {a b:Int} (h:a≠b):(a==b)=false:=by simp [h]
theorem qr {α:Type} {l:List α} (h:l.length≤1048576):lenOk l=true:=by unfold lenOk; rw [decide_eq_true_eq]; exact h
theorem qyA (p:UInt8→Bool) (t:List UInt8) (x:UInt8):dropR p (t++[x])=bif p x then dropR p t else t++[x]:=by
 unfold dropR
 rw [List.reverse_append,List.reverse_singleton,List.singleton_append,List.dropWhile_cons]
 cases p x <;> simp
theorem qak (p:UInt8→Bool):∀ s:List UInt8,(s.dropWhile p).length≤s.length
 | []=>by simp
 | c :: s=>by
  rw [List.dropWhile_cons]
  split
  ·have:=qak p s; simp only [List.length_cons]; omega
  ·exact Nat.le_refl _
theorem qyB (p:UInt8→Bool) (s:List UInt8):(dropR p s).length≤s.length:=by
 have:=qak p s.reverse
 unfold dropR
 simpa using this
theorem qCa (p:UInt8→Bool) (s:List UInt8):(qkN p s).length≤s.length:=Nat.le_trans (qak p _) (qyB p s)
theorem bneT {a b:Int} (h:a≠b):(a != b)=true:=by simp [bne,h]
theorem bneF {a b:Int} (h:a=b):(a != b)=false:=by simp [h]
theorem qyC (ret:Bool→Option AV) (k0:Option AV) (hk:k0=ret false) (s:List UInt8) (c:UInt8) (hl:s.length≤1048576):∀ (d i n:Nat),i+d=s.length→d < n →
 qdP ret k0 n s c (i:Nat)=ret ((s.drop i).contains c)
 | d,i,0,hi,hn=>by omega
 | 0,i,n+1,hi,hn=>by
  show qcf ret k0 (qdP ret k0 n) n _ _ _=_
  unfold qcf
  rw [dF (by omega),cond_false,List.drop_eq_nil_of_le (by omega),hk]
  rfl
 | d+1,i,n+1,hi,hn=>by
  show qcf ret k0 (qdP ret k0 n) n _ _ _=_
  unfold qcf
  have hlt:i < s.length:=by omega
  have ih:=qyC ret k0 hk s c hl d (i+1) n (by omega) (by omega)
  rw [qV (d:=(0:UInt8)) hlt,List.contains_cons]
  simp (disch:=omega) only [dT,cond_true,Bool.and_true,tn,qk]
  rw [ih,show (s.getD i 0==c)=(c==s.getD i 0) from Bool.beq_comm]
  cases (c==s.getD i 0) <;> rfl
theorem qCb (s:List UInt8) (c:UInt8) (hl:s.length≤1048576):∃ n,qlW n s c=qeH (z179 s c):=⟨s.length+1,by
 unfold qlW
 have:=qyC qeH (qdQ (s.length+1)) rfl s c hl s.length 0 (s.length+1) (by omega) (by omega)
 exact this⟩
theorem qCc:∀ (s0:List UInt8) (c1:UInt8),(qEJ s0 c1=true)→∃ n,qlW n s0 c1=qeH (z179 s0 c1):=fun s c h=>qCb s c (qh h)
theorem qGE:∀ (c0:UInt8) (kinds1:Int),∃ n,qMi n c0 kinds1=qEk (z82 c0 kinds1):=fun _ _=>⟨0,rfl⟩
theorem qbW (k0:Int→Option AV) (s:List UInt8) (k:Int) (hl:s.length≤1048576):∀ (d i n m:Nat),i+d=s.length→d < n→m+d≤1048576 →
 qkw k0 n s k (m:Nat) (i:Nat)=k0 ((m+(s.drop i).countP (fun c=>z129 c k):Nat):Int)
 | d,i,0,m,hi,hn,hm=>by omega
 | 0,i,n+1,m,hi,hn,hm=>by
  show qeI k0 (qkw k0 n) n _ _ _ _=_
  unfold qeI
  rw [dF (by omega),cond_false,List.drop_eq_nil_of_le (by omega)]
  rfl
 | d+1,i,n+1,m,hi,hn,hm=>by
  show qeI k0 (qkw k0 n) n _ _ _ _=_
  unfold qeI
  have hlt:i < s.length:=by omega
  have ih:=qbW k0 s k hl d (i+1) n m (by omega) (by omega) (by omega)
  have ih2:=qbW k0 s k hl d (i+1) n (m+1) (by omega) (by omega) (by omega)
  rw [qV (d:=(0:UInt8)) hlt,List.countP_cons]
  simp (disch:=omega) only [dT,cond_true,Bool.and_true,tn,qk]
  rw [show z82 (s.getD i 0) k=z129 (s.getD i 0) k from rfl]
  cases z129 (s.getD i 0) k with
  | true=>rw [cond_true,ih2]; congr 2; simp; omega
  | false=>rw [cond_false,ih]; congr 2
theorem qGF:∀ (s0:List UInt8) (kinds1:Int),(qtA s0 kinds1=true)→∃ n,qBK n s0 kinds1=qEl (z43 s0 kinds1):=fun s k h=>⟨s.length+1,by
 have hl:=qh h
 unfold qBK
 have:=qbW (qgY (s.length+1)) s k hl s.length 0 (s.length+1) 0 (by omega) (by omega) (by omega)
 refine Eq.trans this ?_
 rw [Nat.zero_add,List.drop_zero]
 rfl⟩
theorem qGG {P:UInt8→Prop} (h:∀ i:Fin 256,P (UInt8.ofNat i.val)) (c:UInt8):P c:=by
 have:=h ⟨c.toNat,c.toNat_lt⟩
 simpa using this
theorem qtj:∀ i:Fin 256,(bif decide ((65:UInt8)≤UInt8.ofNat i.val) then (bif decide (UInt8.ofNat i.val≤(90:UInt8)) then UInt8.ofNat i.val+32 else UInt8.ofNat i.val) else UInt8.ofNat i.val)=z126 (UInt8.ofNat i.val):=by decide +kernel
theorem qGH:∀ (c0:UInt8),∃ n,qFZ n c0=qqy (z81 c0):=fun c=>⟨0,by
 have h:=qGG (P:=fun c=>(bif decide ((65:UInt8)≤c) then (bif decide (c≤(90:UInt8)) then c+32 else c) else c)=z126 c) qtj c
 unfold qFZ z81
 rw [← h]
 cases decide ((65:UInt8)≤c) <;> cases decide (c≤(90:UInt8)) <;> rfl⟩
theorem qra (c:UInt8) (cur:List UInt8) (x:UInt8) (r:List UInt8):cutC c cur (x :: r)=bif x==c then cur :: cutC c [] r else cutC c (cur++[x]) r:=rfl
theorem qGI:∀ (c0:UInt8),∃ n,qGa n c0=qqz (z42 c0):=fun c=>⟨0,by
 unfold qGa z42 codeC z81
 cases (z126 c==98) <;> cases (z126 c==113) <;> rfl⟩
theorem qow (c:UInt8):∀ (s cur x:List UInt8),x∈cutC c cur s→x.length≤cur.length+s.length
 | [],cur,x,h=>by
  have:x∈[cur]:=h
  simp only [List.mem_singleton] at this
  subst this
  exact Nat.le_refl _
 | y :: r,cur,x,h=>by
  rw [qra] at h
  cases hy:(y==c) with
  | true =>
   rw [hy,cond_true] at h
   rcases List.mem_cons.1 h with rfl | h
   ·exact Nat.le_add_right _ _
   ·have:=qow c r [] x h
    simp only [List.length_nil,List.length_cons] at this ⊢
    omega
  | false =>
   rw [hy,cond_false] at h
   have:=qow c r _ x h
   simp only [List.length_append,List.length_cons,List.length_nil] at this ⊢
   omega
theorem five {α:Type} {L:List α} (h:L.length=5):∃ a n c t b,L=[a,n,c,t,b]:=by
 match L,h with
 | [a,n,c,t,b],_=>exact ⟨a,n,c,t,b,rfl⟩
theorem qyD (k:Nat) {L:List (List UInt8)} (h:L.length≠5):qmw k L=(qhO,3):=by
 unfold qmw
 split
 ·exact absurd rfl h
 ·rfl
theorem qtk (k:Nat) (a name c text b:List UInt8):qmw k [a,name,c,text,b]=bif decide (a=[61])&&decide (b=[61]) then (bif (codeL c==0)||(!(fullB name 64) || !(fullB text 4)) then (qhO,3) else bif decide (75 < k) then (qhO,12) else ((name,(codeL c,(text,()))),0)) else (qhO,3):=rfl
theorem qGJ:∀ (s0:List UInt8),(qmx s0=true)→∃ n,qGb n s0=qaT (z12 s0).1 (z12 s0).2:=fun s h=>⟨0,by
 have hl:=qh h
 have hmem:∀ x∈cutC 63 [] s,x.length≤1048576:=fun x hx=>by
  have:=qow 63 s [] x hx
  simp only [List.length_nil] at this
  omega
 unfold qGb z12 z11
 rw [show qDV s=true from h,show z41 s=cutC 63 [] s from rfl]
 generalize cutC 63 [] s=L at hmem ⊢
 have h75:decide ((75:Int) < ((s.length:Nat):Int))=decide (75 < s.length):=by rw [Bool.eq_iff_iff]; simp only [decide_eq_true_eq]; omega
 rw [h75]
 generalize hk:s.length=k
 by_cases h5:L.length=5
 ·obtain ⟨a,n,c,t,b,rfl⟩:=five h5
  have okn2:qtA n 64=true:=qr (hmem n (by simp))
  have okt2:qtA t 4=true:=qr (hmem t (by simp))
  have c0:(decide ((0:Int)≤0)&&decide ((0:Int) < ((List.length [a,n,c,t,b]:Nat):Int)))=true:=rfl
  have c1:(decide ((0:Int)≤1)&&decide ((1:Int) < ((List.length [a,n,c,t,b]:Nat):Int)))=true:=rfl
  have c2:(decide ((0:Int)≤2)&&decide ((2:Int) < ((List.length [a,n,c,t,b]:Nat):Int)))=true:=rfl
  have c3:(decide ((0:Int)≤3)&&decide ((3:Int) < ((List.length [a,n,c,t,b]:Nat):Int)))=true:=rfl
  have c4:(decide ((0:Int)≤4)&&decide ((4:Int) < ((List.length [a,n,c,t,b]:Nat):Int)))=true:=rfl
  have g0:List.getD [a,n,c,t,b] (Int.toNat 0) []=a:=rfl
  have g1:List.getD [a,n,c,t,b] (Int.toNat 1) []=n:=rfl
  have g2:List.getD [a,n,c,t,b] (Int.toNat 2) []=c:=rfl
  have g3:List.getD [a,n,c,t,b] (Int.toNat 3) []=t:=rfl
  have g4:List.getD [a,n,c,t,b] (Int.toNat 4) []=b:=rfl
  have e5:((((List.length [a,n,c,t,b]:Nat)):Int) != 5)=false:=rfl
  have full:∀ (x:List UInt8) (q:Int),fullB x q=(!((((x.length:Nat):Int))==0) && !(z43 x q != ((x.length:Nat):Int))):=fun x q=>by
   unfold fullB
   cases x with
   | nil=>rfl
   | cons y r =>
    rw [bneI (show (((y :: r).length:Nat):Int)≠0 by simp only [List.length_cons]; omega)]
    show (true&&List.all (y :: r) _)=(true&&_)
    rw [Bool.true_and,Bool.true_and,Bool.eq_iff_iff]
    show _↔(!((((y :: r).countP (fun c=>z129 c q):Nat):Int) != (((y :: r).length:Nat):Int)))=true
    rw [List.all_eq_true]
    constructor
    ·intro hh
     rw [bneF (by rw [List.countP_eq_length.2 hh])]
     rfl
    ·intro hh
     have:(y :: r).countP (fun c=>z129 c q)=(y :: r).length:=by
      rcases Decidable.em ((y :: r).countP (fun c=>z129 c q)=(y :: r).length) with e | e
      ·exact e
      ·rw [bneT (by omega)] at hh
       cases hh
     exact List.countP_eq_length.1 this
  show _=qaT (qmw k [a,n,c,t,b]).1 (qmw k [a,n,c,t,b]).2
  rw [qtk,full n 64,full t 4]
  simp only [e5,c0,c1,c2,c3,c4,g0,g1,g2,g3,g4,okn2,okt2,cond_true,cond_false,Bool.and_true]
  by_cases ha:a=[61]
  ·by_cases hb:b=[61]
   ·subst ha hb
    simp only [decide_true,Bool.and_true,cond_true,bne_self_eq_false,cond_false]
    match c with
    | []=>rfl
    | [x] =>
     show _=qaT _ _
     have q0:(((([x]:List UInt8).length:Nat):Int) != 1)=false:=rfl
     have q1:(decide ((0:Int)≤0)&&decide ((0:Int) < ((List.length [x]:Nat):Int)))=true:=rfl
     have q2:List.getD [x] (Int.toNat 0) 0=x:=rfl
     have q3:codeL [x]=codeC x:=rfl
     simp only [q0,q1,q2,q3,show z42 x=codeC x from rfl,cond_true,cond_false]
     cases (codeC x==0) <;> cases ((((n.length:Nat)):Int)==0) <;> cases (z43 n 64 != ((n.length:Nat):Int)) <;> cases ((((t.length:Nat)):Int)==0) <;> cases (z43 t 4 != ((t.length:Nat):Int)) <;> cases decide (75 < k) <;> rfl
    | x :: y :: r =>
     have q0:((((x :: y :: r).length:Nat):Int) != 1)=true:=bneT (by simp only [List.length_cons]; omega)
     rw [q0]
     rfl
   ·rw [decide_eq_false hb,Bool.and_false,show (b != [61])=true from bne_iff_ne.2 hb,cond_true]
    subst ha
    rfl
  ·rw [decide_eq_false ha,Bool.false_and,show (a != [61])=true from bne_iff_ne.2 ha,cond_true]
   rfl
 ·rw [bneT (by omega),qyD k h5]
  rfl⟩
theorem qCd {α:Type} (pre:List α) (x d:α):List.getD (pre++[x]) pre.length d=x:=by
 rw [List.getD_eq_getElem?_getD,List.getElem?_append_right (Nat.le_refl _),Nat.sub_self]
 rfl
theorem qGK {α:Type} (pre:List α) (x y:α):List.set (pre++[x]) pre.length y=pre++[y]:=by
 rw [List.set_append_right _ _ (Nat.le_refl _),Nat.sub_self]
 rfl
theorem qox (k0:List (List UInt8)→Option AV) (s:List UInt8) (hl:s.length≤1048576):∀ (d i n:Nat) (pre:List (List UInt8)) (cur:List UInt8),i+d=s.length→d < n→pre.length+d≤1048576→cur.length+d≤1048576 →
 qkv k0 n s (pre++[cur]) (i:Nat)=k0 (pre++cutC 63 cur (s.drop i))
 | d,i,0,pre,cur,hi,hn,hp,hc=>by omega
 | 0,i,n+1,pre,cur,hi,hn,hp,hc=>by
  show qeG k0 (qkv k0 n) n _ _ _=_
  unfold qeG
  rw [dF (by omega),cond_false,List.drop_eq_nil_of_le (by omega)]
  rfl
 | d+1,i,n+1,pre,cur,hi,hn,hp,hc=>by
  show qeG k0 (qkv k0 n) n _ _ _=_
  unfold qeG
  have hlt:i < s.length:=by omega
  have h1:=qox k0 s hl d (i+1) n (pre++[cur]) [] (by omega) (by omega) (by simp; omega) (by simp; omega)
  have h2:=qox k0 s hl d (i+1) n pre (cur++[List.getD s i 0]) (by omega) (by omega) (by omega) (by simp; omega)
  have hlen:(pre++[cur]).length=pre.length+1:=by simp
  have hw:IntKind.wrap .i64 (((pre.length+1:Nat):Int) - 1)=((pre.length:Nat):Int):=by rw [wr (by omega)]; omega
  have r1:decide (pre.length+1+([[]]:List (List UInt8)).length≤room)=true:=dT (by unfold room; simp; omega)
  have r2:decide (cur.length+([List.getD s i 0]:List UInt8).length≤room)=true:=dT (by unfold room; simp; omega)
  rw [qV (d:=(0:UInt8)) hlt,qra,hlen,hw]
  simp (disch:=omega) only [dT,cond_true,Bool.and_true,tn,qk,qCd,qGK,r1,r2,beq_self_eq_true]
  cases hx:(List.getD s i 0==63) with
  | true =>
   rw [cond_true,cond_true,h1,List.append_assoc]
   rfl
  | false=>rw [cond_false,cond_false,h2]
theorem qGL:∀ (s0:List UInt8),(qDV s0=true)→∃ n,qBJ n s0=qEj (z41 s0):=fun s h=>⟨s.length+1,by
 have hl:=qh h
 unfold qBJ
 exact qox (qgX (s.length+1)) s hl s.length 0 (s.length+1) [] [] (by omega) (by omega) (by simpa using hl) (by simpa using hl)⟩
theorem qkC (p:UInt8→Bool) (s:List UInt8):dropR p (s.dropWhile p)=qkN p s:=by
 unfold qkN
 induction s with
 | nil=>rfl
 | cons c s ih =>
  rw [List.dropWhile_cons]
  cases hc:p c with
  | true =>
   rw [if_pos rfl,ih]
   rcases List.eq_nil_or_concat (dropR p s) with h0 | ⟨t,x,h0⟩
   ·have:dropR p (c :: s)=[]:=by
     unfold dropR at h0 ⊢
     rw [List.reverse_cons,List.dropWhile_append]
     have h1:s.reverse.dropWhile p=[]:=by simpa using h0
     rw [h1]
     simp [hc]
    rw [h0,this]
   ·have:dropR p (c :: s)=c :: dropR p s:=by
     unfold dropR at h0 ⊢
     rw [List.reverse_cons,List.dropWhile_append]
     have h1:(s.reverse.dropWhile p).isEmpty=false:=by
      cases hh:s.reverse.dropWhile p with
      | nil=>rw [hh] at h0; simp at h0
      | cons a b=>rfl
     rw [h1]
     simp
    rw [this,List.dropWhile_cons,hc]
    rfl
  | false =>
   simp only [Bool.false_eq_true,if_false]
   have:dropR p (c :: s)=c :: dropR p s∨dropR p (c :: s)=[c]∧dropR p s=[]:=by
    unfold dropR
    rw [List.reverse_cons,List.dropWhile_append]
    cases hh:s.reverse.dropWhile p with
    | nil=>right; simp [hc]
    | cons a b=>left; simp
   rcases this with h | ⟨h,_⟩
   ·rw [h,List.dropWhile_cons,hc]; rfl
   ·rw [h,List.dropWhile_cons,hc]; rfl
theorem and15 (n:Int):bits .and .i64 n 15=n % 16:=by
 have h:(BitVec.ofInt 64 n &&& BitVec.ofInt 64 15).toNat=(n % 16).toNat:=by
  rw [BitVec.toNat_and]
  have h1:(BitVec.ofInt 64 15).toNat=2 ^ 4 - 1:=by decide
  rw [h1,Nat.and_two_pow_sub_one_eq_mod,BitVec.toNat_ofInt]
  omega
 show IntKind.wrap .i64 (((BitVec.ofInt 64 n &&& BitVec.ofInt 64 15).toNat:Nat):Int)=_
 rw [h,IntWalk.i64_in _ (by omega)]
 omega
theorem qCe:∀ (n0:Int),(qcW n0=true)→∃ n,qys n n0=qyr (z181 n0):=fun n _=>⟨0,by
 unfold qys z181
 rw [and15]
 have h0:(0:Int)≤n % 16:=by omega
 have h1:n % 16 < (((([48,49,50,51,52,53,54,55,56,57,65,66,67,68,69,70]:List UInt8).length:Nat)):Int):=by simp; omega
 rw [decide_eq_true h0,decide_eq_true h1]
 rfl⟩
theorem qOQ (n:Int):Int.tmod (Int.tmod n 16+16) 16=n % 16:=by
 have h:Int.tmod n 16=n % 16∨Int.tmod n 16=n % 16 - 16:=by
  rcases Int.le_total 0 n with h | h
  ·exact .inl (Int.tmod_eq_emod_of_nonneg h)
  ·have h2:Int.tmod n 16 = -((-n) % 16):=by
    have:=Int.neg_tmod (-n) 16
    rw [Int.neg_neg] at this
    rw [this,Int.tmod_eq_emod_of_nonneg (by omega)]
   omega
 have h3:0≤Int.tmod n 16+16:=by omega
 rw [Int.tmod_eq_emod_of_nonneg h3]
 omega
theorem qoy (n:Int) : -16 < Int.tmod n 16∧Int.tmod n 16 < 16:=by
 have h:Int.tmod n 16=n % 16∨Int.tmod n 16=n % 16 - 16∧n % 16≠0:=by
  rcases Int.le_total 0 n with h | h
  ·exact .inl (Int.tmod_eq_emod_of_nonneg h)
  ·have h2:Int.tmod n 16 = -((-n) % 16):=by
    have:=Int.neg_tmod (-n) 16
    rw [Int.neg_neg] at this
    rw [this,Int.tmod_eq_emod_of_nonneg (by omega)]
   omega
 omega
theorem qoz:∀ j:Fin 16,(bif decide (((j.val:Nat):Int) < 10) then UInt8.ofNat (Int.toNat (IntKind.wrap .u8 (IntKind.wrap .i64 ((48:Int)+((j.val:Nat):Int)))))
 else UInt8.ofNat (Int.toNat (IntKind.wrap .u8 (IntKind.wrap .i64 ((IntKind.wrap .i64 ((65:Int)+((j.val:Nat):Int))) - (10:Int))))))=List.getD hexD j.val 0:=by decide +kernel
theorem qCf:∀ (n0:Int),(qbA n0=true)→∃ n,qxt n n0=qog (z184 n0):=fun n _=>⟨0,by
 unfold qxt z184
 have hr:=qoy n
 rw [IntWalk.i64_in (Int.tmod n 16+16) (by omega),qOQ]
 have hj:(n % 16).toNat < 16:=by omega
 have:=qoz ⟨(n % 16).toNat,hj⟩
 simp only [Int.toNat_of_nonneg (show 0≤n % 16 by omega)] at this
 rw [← this]
 cases decide (n % 16 < 10) <;> rfl⟩
theorem qrb (ret:Int→Bool→Option AV) (k0:Option AV) (hk:k0=ret 0 false) (c:UInt8):∀ (d:Nat) (i:Int) (n:Nat),i+d=16→0≤i→d < n →
 qdY ret k0 n c i=ret (qoN d i c).1 (qoN d i c).2
 | d,i,0,hi,h0,hn=>by omega
 | 0,i,n+1,hi,h0,hn=>by
  show qcu ret k0 (qdY ret k0 n) n c i=_
  unfold qcu
  rw [decide_eq_false (by omega),cond_false,hk]
  rfl
 | d+1,i,n+1,hi,h0,hn=>by
  show qcu ret k0 (qdY ret k0 n) n c i=_
  unfold qcu
  have hok:qbA i=true:=by unfold qbA; rw [decide_eq_true_eq]; omega
  rw [decide_eq_true (by omega),cond_true,hok,IntWalk.i64_in (i+1) (by omega),qrb ret k0 hk c d (i+1) n (by omega) (by omega) (by omega)]
  show _=ret (bif z184 i==c then (i,true) else bif decide ((10:Int)≤i)&&(z184 i+32==c) then (i,true) else qoN d (i+1) c).1 (bif z184 i==c then (i,true) else bif decide ((10:Int)≤i)&&(z184 i+32==c) then (i,true) else qoN d (i+1) c).2
  generalize qoN d (i+1) c=z
  cases z184 i==c <;> cases decide ((10:Int)≤i) <;> cases z184 i+32==c <;> rfl
theorem qCg:∀ (c0:UInt8),∃ n,qxu n c0=qhk (z146 c0).1 (z146 c0).2:=fun c=>⟨17,qrb qhk (qdZ 17) rfl c 16 0 17 (by omega) (by omega) (by omega)⟩
theorem qyE:∀ i:Fin 256,z237 (UInt8.ofNat i.val)=z146 (UInt8.ofNat i.val):=by decide +kernel
theorem qoA:∀ i:Fin 256,0≤(z237 (UInt8.ofNat i.val)).1∧(z237 (UInt8.ofNat i.val)).1 < 16:=by decide +kernel
theorem qCh {P:UInt8→Prop} (h:∀ i:Fin 256,P (UInt8.ofNat i.val)) (c:UInt8):P c:=by
 have:=h ⟨c.toNat,c.toNat_lt⟩
 simpa using this
theorem qMj (c:UInt8):z146 c=z237 c:=(qCh (P:=fun c=>z237 c=z146 c) qyE c).symm
theorem qiv (c:UInt8):0≤(z237 c).1∧(z237 c).1 < 16:=qCh (P:=fun c=>0≤(z237 c).1∧(z237 c).1 < 16) qoA c
theorem qCi:∀ a b:Fin 16,UInt8.ofNat (Int.toNat (IntKind.wrap .u8 (IntKind.wrap .i64 ((IntKind.wrap .i64 ((16:Int)*((a.val:Nat):Int)))+((b.val:Nat):Int)))))=UInt8.ofNat (Int.toNat (((a.val:Nat):Int)*16+((b.val:Nat):Int))):=by decide +kernel
theorem qGM {P:Int→Int→Prop} (h:∀ a b:Fin 16,P ((a.val:Nat):Int) ((b.val:Nat):Int)) {x y:Int} (hx:0≤x∧x < 16) (hy:0≤y∧y < 16):P x y:=by
 have:=h ⟨x.toNat,by omega⟩ ⟨y.toNat,by omega⟩
 simp only [Int.toNat_of_nonneg hx.1,Int.toNat_of_nonneg hy.1] at this
 exact this
theorem qtl (s:List UInt8) (at1:Int) (hl:s.length≤1048576) (h0:¬ at1 < 0) (h1:¬ IntKind.wrap .i64 (((List.length s:Nat):Int) - 3) < at1):∃ i:Nat,at1=i∧i+2 < s.length:=by
 rw [IntWalk.i64_in _ (by omega)] at h1
 exact ⟨at1.toNat,by omega,by omega⟩
theorem qCj:∀ (s0:List UInt8) (at1:Int) (sign2:UInt8),(qrs s0 at1 sign2=true)→∃ n,qxv n s0 at1 sign2=qdh (z103 s0 at1 sign2).1 (z103 s0 at1 sign2).2:=fun s at1 sign h=>⟨0,by
 have hl:=qh h
 unfold qxv z103 z189
 by_cases h0:at1 < 0
 ·rw [decide_eq_true h0,decide_eq_false (show ¬ 0≤at1 by omega)]; rfl
 by_cases h1:IntKind.wrap .i64 (((List.length s:Nat):Int) - 3) < at1
 ·have h2:¬ at1≤(s.length:Int) - 3:=by rw [IntWalk.i64_in _ (by omega)] at h1; omega
  rw [decide_eq_false h0,decide_eq_true h1,decide_eq_false h2,Bool.and_false]; rfl
 obtain ⟨i,rfl,hi⟩:=qtl s at1 hl h0 h1
 rw [decide_eq_false h0,decide_eq_false h1,cond_false,cond_false,qbD,qtM,decide_eq_true (show i < s.length by omega),Bool.and_true,cond_true,qfC,qk (by omega),
  show IntKind.wrap .i64 ((i:Int)+2)=((i+2:Nat):Int) by rw [IntWalk.i64_in _ (by omega)]; omega,qbD,qbD,qtM,qtM,decide_eq_true (show i+1 < s.length by omega),decide_eq_true hi,qfC,qfC,
  decide_eq_true (show (i:Int)≤(s.length:Int) - 3 by omega),Bool.and_true,cond_true]
 rw [qMj,qMj]
 have h:=qGM (P:=fun x y=>UInt8.ofNat (Int.toNat (IntKind.wrap .u8 (IntKind.wrap .i64 ((IntKind.wrap .i64 ((16:Int)*x))+y))))=UInt8.ofNat (Int.toNat (x*16+y))) qCi (qiv (List.getD s (i+1) 0)) (qiv (List.getD s (i+2) 0))
 rw [h]
 unfold qoO z220
 cases he:(List.getD s i 0==sign) with
 | true =>
  rw [show (List.getD s i 0 != sign)=false by simp only [bne,he,Bool.not_true]]
  cases (z237 (List.getD s (i+1) 0)).2 <;> cases (z237 (List.getD s (i+2) 0)).2 <;> rfl
 | false=>rw [show (List.getD s i 0 != sign)=true by simp only [bne,he,Bool.not_false]]; rfl⟩
theorem qyF:∀ i:Fin 256,[z181 (IntKind.wrap .i64 ((UInt8.toNat (UInt8.ofNat (UInt8.toNat (UInt8.ofNat i.val) / 2 ^ (min (Int.toNat (4:Int)) 8))):Nat):Int)),z181 (IntKind.wrap .i64 ((UInt8.toNat (UInt8.ofNat i.val):Nat):Int))]=z130 (UInt8.ofNat i.val):=by decide +kernel
theorem qtm:∀ i:Fin 256,qbA (IntKind.wrap .i64 (Int.tdiv (IntKind.wrap .i64 ((UInt8.toNat (UInt8.ofNat i.val):Nat):Int)) (16:Int)))=true∧qbA (Int.tmod (IntKind.wrap .i64 ((UInt8.toNat (UInt8.ofNat i.val):Nat):Int)) (16:Int))=true ∧
 qcW (IntKind.wrap .i64 ((UInt8.toNat (UInt8.ofNat (UInt8.toNat (UInt8.ofNat i.val) / 2 ^ (min (Int.toNat (4:Int)) 8))):Nat):Int))=true∧qcW (IntKind.wrap .i64 ((UInt8.toNat (UInt8.ofNat i.val):Nat):Int))=true:=by decide +kernel
theorem boths (c:UInt8):[z181 (IntKind.wrap .i64 ((UInt8.toNat (UInt8.ofNat (UInt8.toNat c / 2 ^ (min (Int.toNat (4:Int)) 8))):Nat):Int)),z181 (IntKind.wrap .i64 ((UInt8.toNat c:Nat):Int))]=z130 c:=qCh (P:=fun c=>[z181 (IntKind.wrap .i64 ((UInt8.toNat (UInt8.ofNat (UInt8.toNat c / 2 ^ (min (Int.toNat (4:Int)) 8))):Nat):Int)),z181 (IntKind.wrap .i64 ((UInt8.toNat c:Nat):Int))]=z130 c) qyF c
theorem qOR (c:UInt8):qbA (IntKind.wrap .i64 (Int.tdiv (IntKind.wrap .i64 ((UInt8.toNat c:Nat):Int)) (16:Int)))=true∧qbA (Int.tmod (IntKind.wrap .i64 ((UInt8.toNat c:Nat):Int)) (16:Int))=true ∧
 qcW (IntKind.wrap .i64 ((UInt8.toNat (UInt8.ofNat (UInt8.toNat c / 2 ^ (min (Int.toNat (4:Int)) 8))):Nat):Int))=true∧qcW (IntKind.wrap .i64 ((UInt8.toNat c:Nat):Int))=true:=qCh (P:=fun c=>qbA (IntKind.wrap .i64 (Int.tdiv (IntKind.wrap .i64 ((UInt8.toNat c:Nat):Int)) (16:Int)))=true∧qbA (Int.tmod (IntKind.wrap .i64 ((UInt8.toNat c:Nat):Int)) (16:Int))=true ∧
 qcW (IntKind.wrap .i64 ((UInt8.toNat (UInt8.ofNat (UInt8.toNat c / 2 ^ (min (Int.toNat (4:Int)) 8))):Nat):Int))=true∧qcW (IntKind.wrap .i64 ((UInt8.toNat c:Nat):Int))=true) qtm c
theorem qCk:∀ (c0:UInt8),∃ n,qyu n c0=qyt (z130 c0):=fun c=>⟨0,by
 obtain ⟨_,_,h1,h2⟩:=qOR c
 unfold qyu
 rw [h1,h2,boths]
 rfl⟩
theorem qGN:∀ (b0:List UInt8) (sign1:UInt8) (c2:UInt8),(qDI b0 sign1 c2=true)→∃ n,qGy n b0 sign1 c2=qEC (z85 b0 sign1 c2):=fun b sign c h=>⟨0,by
 have hl:=qh h
 unfold qGy z85 qzr z38
 rw [show lenOk b=true from h,Bool.and_true,cond_true,decide_eq_true (by unfold room; simp; omega),cond_true,decide_eq_true (by unfold room z130; simp; omega),cond_true,List.append_assoc]
 rfl⟩
theorem beqT {a b:Int} (h:a=b):(a==b)=true:=by simp [h]
theorem beqF {a b:Int} (h:a≠b):(a==b)=false:=by simp [h]
def okc (c:UInt8):Bool:=(c==13)||(c==10)||(c==9)||(decide (32≤c)&&decide (c≤126))
theorem qdp (l:List UInt8) (i k:Nat):(l.drop i).getD k 0=l.getD (i+k) 0:=by
 simp [List.getD,List.getElem?_drop]
set_option linter.unusedSimpArgs false
theorem qcL {t:List Int} {p:Int→Bool} {k0:Option AV} {ret:Int→Option AV} {L:Nat→Int→Option AV} (hl:t.length≤1048576)
 (hL:∀ n (i:Nat),i < t.length→L (n+1) (i:Int)=bif p (t.getD i 0) then L n ((i+1:Nat):Int) else ret (i:Int)) (hE:∀ n,L (n+1) (t.length:Nat)=k0) :
 ∀ d i n:Nat,i+d=t.length→d < n→L n (i:Int)=bif qad p (t.drop i) i == -1 then k0 else ret (qad p (t.drop i) i)
 | d,i,0,hi,hn=>by omega
 | 0,i,n+1,hi,hn=>by
  obtain rfl:i=t.length:=by omega
  rw [hE,List.drop_eq_nil_of_le (by omega)]
  rfl
 | d+1,i,n+1,hi,hn=>by
  have hlt:i < t.length:=by omega
  rw [hL n i hlt,qcL hl hL hE d (i+1) n (by omega) (by omega),qV (d:=(0:Int)) hlt]
  rw [show qad p (t.getD i 0 :: t.drop (i+1)) (i:Int)=bif p (t.getD i 0) then qad p (t.drop (i+1)) ((i+1:Nat):Int) else (i:Int) from rfl]
  cases p (t.getD i 0) with
  | true=>rfl
  | false =>
   have:((i:Int) == -1)=false:=by simp only [beq_eq_false_iff_ne,ne_eq]; omega
   simp [this]
theorem qCl:∀ (n0:Int),∃ n,qxQ n n0=qhs (z218 n0):=fun c=>⟨0,by
 unfold qxQ z218
 cases (c==(2:Int)) <;> cases (c==(3:Int)) <;> cases (c==(4:Int)) <;> rfl⟩
theorem qCm:∃ n,qEp n  = qxB z185:=⟨0,rfl⟩
theorem qCn:∃ n,qEr n  = qxE z186:=⟨0,rfl⟩
theorem qGO {α β:Type} (f:α→β) (t:List α) (z:β) (i:Nat) (h:i < t.length) (d:α) :
 ((t.take i).map f++List.replicate (t.length - i) z).set i (f (t.getD i d))=(t.take (i+1)).map f++List.replicate (t.length - (i+1)) z:=by
 rw [List.set_append_right _ _ (by simp; omega)]
 have h1:((t.take i).map f).length=i:=by simp; omega
 rw [h1,Nat.sub_self,show t.length - i=(t.length - (i+1))+1 by omega,List.replicate_succ,List.set_cons_zero,List.take_succ_eq_append_getElem h,List.map_append,List.append_assoc]
 simp [List.getD,h]
theorem qoB (x:UInt8):IntKind.wrap .i32 ((UInt8.toNat x:Nat):Int)=((UInt8.toNat x:Nat):Int):=IntWalk.i32_in _ (by have:=x.toNat_lt; omega)
theorem qGP:∀ (x0:UInt8),∃ n,qGf n x0=qcT (z64 x0):=fun x=>⟨0,by
 unfold qGf z64
 rw [qoB]
 cases (x==(164:UInt8)) <;> cases (x==(166:UInt8)) <;> cases (x==(168:UInt8)) <;> cases (x==(180:UInt8)) <;> cases (x==(184:UInt8)) <;> cases (x==(188:UInt8)) <;> cases (x==(189:UInt8)) <;> cases (x==(190:UInt8)) <;> rfl⟩
theorem qGQ:∀ (x0:UInt8),∃ n,qGg n x0=qqG (z65 x0):=fun x=>⟨0,by
 unfold qGg z65
 rw [qoB]
 have hx:=x.toNat_lt
 by_cases h1:x < 128
 ·rw [dT h1]; rfl
 ·by_cases h2:159 < x
  ·rw [dF h1,dT h2]; rfl
  ·rw [dF h1,dF h2]
   have h3:128≤x.toNat:=by have:=UInt8.not_lt.1 h1; exact UInt8.le_iff_toNat_le.1 this
   have h4:x.toNat≤159:=by have:=UInt8.not_lt.1 h2; exact UInt8.le_iff_toNat_le.1 this
   have h5:(x - 128).toNat=x.toNat - 128:=UInt8.toNat_sub_of_le _ _ (UInt8.not_lt.1 h1)
   rw [h5]
   simp (disch:=(first | omega | (simp; omega))) only [dT,Bool.and_true,cond_true,cond_false,Bool.or_false,tn]
   rfl⟩
theorem qfa {α β:Type} {t:List α} {dv:α} {f:α→List β} {q:α→Bool} {k0:List β→Option AV} {R:Option AV} {L:Nat→List β→Int→Option AV} {b:Nat} (hf:∀ x,(f x).length≤b)
 (hL:∀ (n i:Nat) (out:List β),i < t.length→out.length+b≤room→L (n+1) out (i:Int)=bif q (t.getD i dv) then L n (out++f (t.getD i dv)) ((i+1:Nat):Int) else R) (hE:∀ n out,L (n+1) out ((t.length:Nat):Int)=k0 out) :
 ∀ (d i n:Nat) (out:List β),i+d=t.length→d < n→out.length+b*d≤room→L n out (i:Int)=bif (t.drop i).all q then k0 (out++(t.drop i).flatMap f) else R
 | d,i,0,out,hi,hn,_=>by omega
 | 0,i,n+1,out,hi,hn,_=>by
  obtain rfl:i=t.length:=by omega
  rw [hE,List.drop_eq_nil_of_le (by omega)]
  simp
 | d+1,i,n+1,out,hi,hn,hb=>by
  have hlt:i < t.length:=by omega
  have hx:=hf (t.getD i dv)
  have hb':b*(d+1)=b*d+b:=by rw [Nat.mul_succ]
  have h0:0≤b*d:=Nat.zero_le _
  rw [hL n i out hlt (by omega),qfa (α:=α) (β:=β) hf hL hE d (i+1) n _ (by omega) (by omega) (by rw [List.length_append]; omega),qV (d:=dv) hlt]
  simp only [List.all_cons,List.flatMap_cons,List.append_assoc]
  cases q (t.getD i dv) <;> rfl
theorem qCo:∀ (charset0:Int),∃ n,qxx n charset0=qdj (z133 charset0):=fun cs=>⟨0,by
 unfold qxx z133
 cases (cs==(1:Int)) <;> cases (cs==(2:Int)) <;> cases (cs==(3:Int)) <;> cases (cs==(4:Int)) <;> cases (cs==(5:Int)) <;> rfl⟩
theorem qGR:∀ (charset0:Int),∃ n,qGc n charset0=qgZ (z92 charset0):=fun cs=>⟨0,by
 unfold qGc z92 z133
 cases (cs==(1:Int)) <;> cases (cs==(2:Int)) <;> cases (cs==(3:Int)) <;> cases (cs==(4:Int)) <;> cases (cs==(5:Int)) <;> rfl⟩
theorem qGS:∀ (charset0:Int),∃ n,qGp n charset0=qxy (z89 charset0):=fun cs=>⟨0,by
 unfold qGp z89 z133
 cases (cs==(1:Int)) <;> cases (cs==(2:Int)) <;> cases (cs==(3:Int)) <;> cases (cs==(4:Int)) <;> cases (cs==(5:Int)) <;> rfl⟩
theorem qGT:∀ (n0:Int),∃ n,qGn n n0=qxw (z44 n0):=fun cs=>⟨0,by
 unfold qGn z44
 cases decide ((1:Int)≤cs) <;> rfl⟩
theorem qGU:∀ (n0:Int),∃ n,qGo n n0=qqK (z45 n0):=fun cs=>⟨0,by
 unfold qGo z45
 cases (cs==(1:Int)) <;> cases (cs==(2:Int)) <;> rfl⟩
theorem qoC (cs:Int):(z89 cs).length≤12:=by
 unfold z89 z133
 cases (cs==(1:Int)) <;> cases (cs==(2:Int)) <;> cases (cs==(3:Int)) <;> cases (cs==(4:Int)) <;> cases (cs==(5:Int)) <;> decide
theorem qyG (n:Int):(z45 n).length≤1:=by
 unfold z45
 cases (n==(1:Int)) <;> cases (n==(2:Int)) <;> decide
theorem qGV:∀ (charset0:Int) (code1:Int),∃ n,qGq n charset0 code1=qEn (z48 charset0 code1):=fun cs n=>⟨0,by
 unfold qGq z48
 have h1:=qoC cs
 have h2:=qyG n
 simp (disch:=(simp; omega)) only [dT,cond_true]⟩
theorem qGW:∀ (charset0:Int),∃ n,qGr n charset0=qmc (z17 charset0):=fun cs=>⟨0,by
 unfold qGr z17 z48
 have h1:=qoC cs
 cases z44 cs with
 | false=>rfl
 | true =>
  show qmc _=qmc _
  congr 1
  rw [show z45 2=[81] from rfl]
  simp only [List.length_append,List.length_cons,List.length_nil]
  have e:∀ k:Nat,k≤100→IntKind.wrap .i64 (IntKind.wrap .i64 ((k:Int)+1)+1)=((k+2:Nat):Int):=fun k hk=>by
   rw [IntWalk.i64_in ((k:Int)+1) (by omega),IntWalk.i64_in _ (by omega)]; omega
  rw [e _ (by omega)]
  simp only [Bool.not_true,cond_false]
  omega⟩
theorem qGX:∀ (c0:UInt8),∃ n,qGs n c0=qqV (z84 c0):=fun c=>⟨0,by
 unfold qGs z84
 cases (c==(32:UInt8)) <;> cases z129 c 128 <;> rfl⟩
theorem qCp (c:UInt8):(z84 c).toNat≤3∧z84 c=((z84 c).toNat:Int):=by
 unfold z84
 cases (c==(32:UInt8)) <;> cases z129 c 128 <;> decide
theorem qrc (k0:Int→Option AV) (s:List UInt8) (hl:s.length≤4194304):∀ (d i n m:Nat),i+d=s.length→d < n→m+3*d≤100000000 →
 qop k0 n (m:Nat) s ((s.length:Nat):Int) (i:Nat)=k0 ((m+qLen (s.drop i):Nat):Int)
 | d,i,0,m,hi,hn,_=>by omega
 | 0,i,n+1,m,hi,hn,_=>by
  show qeU _ _ n _ _ _ _=_
  unfold qeU
  rw [dF (by omega),cond_false,List.drop_eq_nil_of_le (by omega)]
  rfl
 | d+1,i,n+1,m,hi,hn,hm=>by
  show qeU _ _ n _ _ _ _=_
  unfold qeU
  have hlt:i < s.length:=by omega
  have h1:=qCp (s.getD i 0)
  rw [qV (d:=(0:UInt8)) hlt]
  simp (disch:=omega) only [dT,cond_true,Bool.and_true,tn,qk]
  rw [h1.2,show IntKind.wrap .i64 ((m:Int)+(((z84 (s.getD i 0)).toNat:Nat):Int))=((m+(z84 (s.getD i 0)).toNat:Nat):Int) from by rw [IntWalk.i64_in _ (by omega)]; omega,
   qrc k0 s hl d (i+1) n _ (by omega) (by omega) (by omega)]
  congr 1
  unfold qLen
  simp only [List.map_cons,List.sum_cons]
  omega
theorem qGY:∀ (s0:List UInt8),(qhZ s0=true)→∃ n,qBO n s0=qEy (z83 s0):=fun s h=>⟨s.length+1,by
 unfold qhZ at h
 have hl:s.length≤4194304:=by simpa using h
 unfold qBO
 refine (qrc (qhA (s.length+1)) s hl s.length 0 (s.length+1) 0 (by omega) (by omega) (by omega)).trans ?_
 rw [List.drop_zero,Nat.zero_add]
 rfl⟩
theorem qGZ:∀ (n0:Int),∃ n,qGt n n0=qya (z87 n0):=fun n=>⟨0,by
 unfold qGt z87
 cases decide (n < 1) <;> rfl⟩
theorem qkD (c:UInt8):(z91 c).length=(z84 c).toNat:=by
 unfold z91 z84 z137 z82
 cases (c==(32:UInt8)) <;> cases z129 c 128 <;> rfl
theorem qCq:∀ (n0:Int),∃ n,qxo n n0=qde (z135 n0):=fun n=>⟨0,by
 unfold qxo z135
 generalize Int.tmod (IntKind.wrap .i64 (Int.tmod n 64+64)) 64=k
 show _=qde (bif decide (k < 26) then _ else _)
 cases decide (k < 26) <;> cases decide (k < 52) <;> cases decide (k < 62) <;> cases (k==62) <;> rfl⟩
theorem qiw (k0:Int→Option AV) (l:List Int) (hl:l.length≤1048576):∀ (d i n:Nat) (m:Int),i+d=l.length→d < n →
 qhi k0 n l m (i:Nat)=k0 ((l.drop i).foldl (fun n b=>IntKind.wrap .i64 (IntKind.wrap .i64 (2*n)+b)) m)
 | d,i,0,m,hi,hn=>by omega
 | 0,i,n+1,m,hi,hn=>by
  show qcr _ _ n _ _ _=_
  unfold qcr
  rw [dF (by omega),cond_false,List.drop_eq_nil_of_le (by omega)]
  rfl
 | d+1,i,n+1,m,hi,hn=>by
  show qcr _ _ n _ _ _=_
  unfold qcr
  have hlt:i < l.length:=by omega
  rw [qV (d:=(0:Int)) hlt]
  simp (disch:=omega) only [dT,cond_true,Bool.and_true,tn,qk]
  rw [qiw k0 l hl d (i+1) n _ (by omega) (by omega)]
  rfl
theorem qCr:∀ (l0:List Int),(qel l0=true)→∃ n,qqI n l0=qxr (z136 l0):=fun l h=>⟨l.length+1,by
 unfold qel at h
 have hl:l.length≤1048576:=by simpa using h
 unfold qqI z136
 refine (qiw (qdX (l.length+1)) l hl l.length 0 (l.length+1) 0 (by omega) (by omega)).trans ?_
 rw [List.drop_zero]
 rfl⟩
theorem qyH:∀ s:List UInt8,(z134 s).length=8*s.length
 | []=>rfl
 | c :: r=>by
  have h:=qyH r
  unfold z134 at h ⊢
  rw [List.flatMap_cons,List.length_append,h]
  simp only [qbX,List.length_cons,List.length_nil]
  omega
theorem qrd:∀ (n:Nat) (l:List Int),(sixes n l).length=n
 | 0,_=>rfl
 | n+1,l=>by
  unfold sixes
  rw [List.length_cons,qrd n]
theorem qHa (s:List UInt8):(z90 s).length=(8*s.length+qU (8*s.length) 6) / 6:=by
 unfold z90
 rw [qrd]
 unfold padTo
 rw [List.length_append,List.length_replicate,qyH]
theorem and63 (n:Int):bits .and .i64 n 63=n % 64:=by
 have h:(BitVec.ofInt 64 n &&& BitVec.ofInt 64 63).toNat=(n % 64).toNat:=by
  rw [BitVec.toNat_and]
  have h1:(BitVec.ofInt 64 63).toNat=2 ^ 6 - 1:=by decide
  rw [h1,Nat.and_two_pow_sub_one_eq_mod,BitVec.toNat_ofInt]
  omega
 show IntKind.wrap .i64 (((BitVec.ofInt 64 n &&& BitVec.ofInt 64 63).toNat:Nat):Int)=_
 rw [h,IntWalk.i64_in _ (by omega)]
 omega
theorem qCs:∀ (n0:Int),∃ n,qyw n n0=qyv (z132 n0):=fun n=>⟨0,by
 unfold qyw z132
 rw [and63]
 have h0:(0:Int)≤n % 64:=by omega
 have h1:n % 64 < (((b64D.length:Nat)):Int):=by show n % 64 < ((64:Nat):Int); omega
 rw [decide_eq_true h0]
 show (bif true&&decide (n % 64 < (((b64D.length:Nat)):Int)) then _ else _)=_
 rw [decide_eq_true h1]
 rfl⟩
theorem qoD {α β:Type} (f:α→β):∀ l:List α,l.flatMap (fun x=>[f x])=l.map f
 | []=>rfl
 | x :: r=>by rw [List.flatMap_cons,qoD f r]; rfl
theorem qoE {α:Type}:∀ l:List α,l.all (fun _=>true)=true
 | []=>rfl
 | _ :: r=>by rw [List.all_cons,qoE r]; rfl
theorem qOS (a b k:Nat) (hb:b < 2 ^ k) (h:a*2 ^ k+b < 9223372036854775808):bits .or .i64 ((a*2 ^ k:Nat):Int) (b:Int)=((a*2 ^ k+b:Nat):Int):=by
 have h1:(BitVec.ofInt 64 ((a*2 ^ k:Nat):Int)).toNat=a*2 ^ k:=by rw [BitVec.toNat_ofInt]; omega
 have h2:(BitVec.ofInt 64 ((b:Nat):Int)).toNat=b:=by rw [BitVec.toNat_ofInt]; omega
 have h3:(BitVec.ofInt 64 ((a*2 ^ k:Nat):Int) ||| BitVec.ofInt 64 (b:Int)).toNat=a*2 ^ k+b:=by
  rw [BitVec.toNat_or,h1,h2]
  have:=Nat.shiftLeft_add_eq_or_of_lt hb a
  rw [Nat.shiftLeft_eq] at this
  exact this.symm
 show IntKind.wrap .i64 (((BitVec.ofInt 64 ((a*2 ^ k:Nat):Int) ||| BitVec.ofInt 64 (b:Int)).toNat:Nat):Int)=_
 rw [h3,IntWalk.i64_in _ (by omega)]
theorem qyI (n k:Nat) (hn:n < 9223372036854775808) (hk:2 ^ k≤4611686018427387904):bits .and .i64 (n:Int) ((2 ^ k - 1:Nat):Int)=((n % 2 ^ k:Nat):Int):=by
 have hpos:0 < 2 ^ k:=Nat.pow_pos (by decide)
 have h1:(BitVec.ofInt 64 (n:Int)).toNat=n:=by rw [BitVec.toNat_ofInt]; omega
 have h2:(BitVec.ofInt 64 ((2 ^ k - 1:Nat):Int)).toNat=2 ^ k - 1:=by rw [BitVec.toNat_ofInt]; omega
 have h3:(BitVec.ofInt 64 (n:Int) &&& BitVec.ofInt 64 ((2 ^ k - 1:Nat):Int)).toNat=n % 2 ^ k:=by
  rw [BitVec.toNat_and,h1,h2,Nat.and_two_pow_sub_one_eq_mod]
 have h4:n % 2 ^ k < 2 ^ k:=Nat.mod_lt _ hpos
 show IntKind.wrap .i64 (((BitVec.ofInt 64 (n:Int) &&& BitVec.ofInt 64 ((2 ^ k - 1:Nat):Int)).toNat:Nat):Int)=_
 rw [h3,IntWalk.i64_in _ (by omega)]
theorem fdivN (n k:Nat):Int.fdiv (n:Int) ((k:Nat):Int)=((n / k:Nat):Int):=by
 rw [Int.fdiv_eq_ediv_of_nonneg _ (Int.natCast_nonneg k),Int.natCast_ediv]
theorem held8 (h x:Nat) (hh:h < 16) (hx:x < 256):bits .or .i64 (IntKind.wrap .i64 ((h:Int)*2 ^ (min (Int.toNat (8:Int)) (IntKind.bits .i64)))) (IntKind.wrap .i64 (x:Int))=((h*256+x:Nat):Int):=by
 have e:IntKind.wrap .i64 ((h:Int)*2 ^ (min (Int.toNat (8:Int)) (IntKind.bits .i64)))=((h*2 ^ 8:Nat):Int):=by
  show IntKind.wrap .i64 ((h:Int)*256)=_
  rw [IntWalk.i64_in _ (by omega)]; omega
 rw [e,IntWalk.i64_in _ (by omega),qOS h x 8 (by omega) (by omega)]
theorem qMk (k2:List UInt8→Int→Int→List UInt8→Int→Int→Option AV) (n:Nat) (out:List UInt8) (h:Nat) (s8:List UInt8) (s9 s10:Int) (ho:out.length+1≤room) :
 qeY k2 (n+3) out (h:Int) 8 s8 s9 s10=k2 (out++[z132 ((h / 4:Nat):Int)]) (h:Int) 2 s8 s9 s10:=by
 have e:qeY k2 (n+3) out (h:Int) 8 s8 s9 s10=bif decide (out.length+1≤room) then k2 (out++[z132 (Int.fdiv (h:Int) ((4:Nat):Int))]) (h:Int) 2 s8 s9 s10 else none:=rfl
 rw [e,dT ho,cond_true,fdivN]
theorem qMl (k2:List UInt8→Int→Int→List UInt8→Int→Int→Option AV) (n:Nat) (out:List UInt8) (h:Nat) (s8:List UInt8) (s9 s10:Int) (ho:out.length+1≤room) :
 qeY k2 (n+3) out (h:Int) 10 s8 s9 s10=k2 (out++[z132 ((h / 16:Nat):Int)]) (h:Int) 4 s8 s9 s10:=by
 have e:qeY k2 (n+3) out (h:Int) 10 s8 s9 s10=bif decide (out.length+1≤room) then k2 (out++[z132 (Int.fdiv (h:Int) ((16:Nat):Int))]) (h:Int) 4 s8 s9 s10 else none:=rfl
 rw [e,dT ho,cond_true,fdivN]
theorem qMm (k2:List UInt8→Int→Int→List UInt8→Int→Int→Option AV) (n:Nat) (out:List UInt8) (h:Nat) (s8:List UInt8) (s9 s10:Int) (ho:out.length+2≤room) :
 qeY k2 (n+3) out (h:Int) 12 s8 s9 s10=k2 (out++[z132 ((h / 64:Nat):Int),z132 (h:Int)]) (h:Int) 0 s8 s9 s10:=by
 have e:qeY k2 (n+3) out (h:Int) 12 s8 s9 s10=bif decide (out.length+1≤room) then (bif decide ((out++[z132 (Int.fdiv (h:Int) ((64:Nat):Int))]).length+1≤room) then k2 ((out++[z132 (Int.fdiv (h:Int) ((64:Nat):Int))])++[z132 (Int.fdiv (h:Int) ((1:Nat):Int))]) (h:Int) 0 s8 s9 s10 else none) else none:=rfl
 rw [e,dT (show out.length+1≤room by omega),cond_true,dT (by rw [List.length_append]; exact ho),cond_true,fdivN,fdivN,Nat.div_one,List.append_assoc]; rfl
theorem qCt (k0:List UInt8→Int→Int→Option AV) (next:List UInt8→Int→Int→List UInt8→Int→Int→Option AV) (j n:Nat) (out:List UInt8) (h m x:Nat) (s8:List UInt8) (s9 s10:Int)
 (hm:m=0∨m=2∨m=4) (hh:h < 2 ^ m) (hx:x < 256) (ho:out.length+2≤room) :
 qeY (qbU k0 next j) (n+3) out (bits .or .i64 (IntKind.wrap .i64 ((h:Int)*2 ^ (min (Int.toNat (8:Int)) (IntKind.bits .i64)))) (IntKind.wrap .i64 (x:Int))) (IntKind.wrap .i64 ((m:Int)+8)) s8 s9 s10
  = next (out++encD m h x) (encH m h x:Nat) (encM m:Nat) s8 s9 (IntKind.wrap .i64 (s10+1)):=by
 have hh16:h < 16:=by rcases hm with rfl | rfl | rfl <;> omega
 rw [held8 h x hh16 hx]
 rcases hm with rfl | rfl | rfl
 ·rw [show IntKind.wrap .i64 (((0:Nat):Int)+8)=8 from rfl,qMk _ _ _ _ _ _ _ (by omega)]
  have e:qbU k0 next j (out++[z132 (((h*256+x) / 4:Nat):Int)]) ((h*256+x:Nat):Int) 2 s8 s9 s10=next (out++[z132 (((h*256+x) / 4:Nat):Int)]) (bits .and .i64 ((h*256+x:Nat):Int) ((2 ^ 2 - 1:Nat):Int)) 2 s8 s9 (IntKind.wrap .i64 (s10+1)):=rfl
  rw [e,qyI _ 2 (by omega) (by decide)]
  have e2:encD 0 h x=[z132 (((h*256+x) / 4:Nat):Int)]:=rfl
  have e3:encH 0 h x=(h*256+x) % 2 ^ 2:=rfl
  have e4:encM 0=2:=rfl
  rw [e2,e3,e4]; rfl
 ·rw [show IntKind.wrap .i64 (((2:Nat):Int)+8)=10 from rfl,qMl _ _ _ _ _ _ _ (by omega)]
  have e:qbU k0 next j (out++[z132 (((h*256+x) / 16:Nat):Int)]) ((h*256+x:Nat):Int) 4 s8 s9 s10=next (out++[z132 (((h*256+x) / 16:Nat):Int)]) (bits .and .i64 ((h*256+x:Nat):Int) ((2 ^ 4 - 1:Nat):Int)) 4 s8 s9 (IntKind.wrap .i64 (s10+1)):=rfl
  rw [e,qyI _ 4 (by omega) (by decide)]
  have e2:encD 2 h x=[z132 (((h*256+x) / 16:Nat):Int)]:=rfl
  have e3:encH 2 h x=(h*256+x) % 2 ^ 4:=rfl
  have e4:encM 2=4:=rfl
  rw [e2,e3,e4]; rfl
 ·rw [show IntKind.wrap .i64 (((4:Nat):Int)+8)=12 from rfl,qMm _ _ _ _ _ _ _ ho]
  have e0:qbU k0 next j (out++[z132 (((h*256+x) / 64:Nat):Int),z132 ((h*256+x:Nat):Int)]) ((h*256+x:Nat):Int) 0 s8 s9 s10=next (out++[z132 (((h*256+x) / 64:Nat):Int),z132 ((h*256+x:Nat):Int)]) (bits .and .i64 ((h*256+x:Nat):Int) ((2 ^ 0 - 1:Nat):Int)) 0 s8 s9 (IntKind.wrap .i64 (s10+1)):=rfl
  rw [e0,qyI _ 0 (by omega) (by decide)]
  have e3:encH 4 h x=(h*256+x) % 2 ^ 0:=rfl
  have e4:encM 4=0:=rfl
  have e:encD 4 h x=[z132 (((h*256+x) / 64:Nat):Int),z132 ((h*256+x:Nat):Int)]:=by
   show [z132 (((h*256+x:Nat):Int) / 64),_]=_
   rw [Int.natCast_ediv]; rfl
  rw [e,e3,e4]; rfl
theorem qHb (m:Nat) (s out:List UInt8) (mm h:Nat) (e:EncSt s out mm h) (ho:out.length+1≤room):qdo m out (h:Int) (mm:Int)=qmg (z90 s):=by
 have hc:=e.cases
 have hl:=e.lt
 unfold qdo
 rcases hc with rfl | rfl | rfl
 ·rw [dF (by omega),cond_false,e.bare_nil]
 ·rw [e.bare_some (by decide),dT (by omega),cond_true]
  have e1:IntKind.wrap .i64 ((h:Int)*2 ^ (min (Int.toNat (IntKind.wrap .i64 ((6:Int) - ((2:Nat):Int)))) (IntKind.bits .i64)))=((h*2 ^ (6 - 2):Nat):Int):=by
   show IntKind.wrap .i64 ((h:Int)*16)=_
   rw [IntWalk.i64_in _ (by omega)]; omega
  rw [e1,dT (show (0:Int)≤IntKind.wrap .i64 ((6:Int) - ((2:Nat):Int)) from by decide),cond_true,dT (show out.length+[_].length≤room from ho),cond_true]
 ·rw [e.bare_some (by decide),dT (by omega),cond_true]
  have e1:IntKind.wrap .i64 ((h:Int)*2 ^ (min (Int.toNat (IntKind.wrap .i64 ((6:Int) - ((4:Nat):Int)))) (IntKind.bits .i64)))=((h*2 ^ (6 - 4):Nat):Int):=by
   show IntKind.wrap .i64 ((h:Int)*4)=_
   rw [IntWalk.i64_in _ (by omega)]; omega
  rw [e1,dT (show (0:Int)≤IntKind.wrap .i64 ((6:Int) - ((4:Nat):Int)) from by decide),cond_true,dT (show out.length+[_].length≤room from ho),cond_true]
theorem qHc (m h x:Nat):(encD m h x).length≤2:=by
 unfold encD
 cases m==4
 ·exact Nat.le_succ 1
 ·exact Nat.le_refl 2
theorem qmi (j:Nat) (s:List UInt8) (hl:s.length≤1048576):∀ (d i n:Nat) (out:List UInt8) (h m:Nat),i+d=s.length→d+3 < n→EncSt (s.take i) out m h→out.length≤2*i →
 qou (qdo j) n out (h:Int) (m:Int) s (s.length:Nat) (i:Nat)=qmg (z90 s)
 | d,i,0,out,h,m,hi,hn,_,_=>by omega
 | 0,i,n+1,out,h,m,hi,hn,e,ho=>by
  obtain rfl:i=s.length:=by omega
  show qdn _ _ n _ _ _ _ _ _=_
  unfold qdn
  rw [dF (by omega),cond_false]
  rw [List.take_length] at e
  exact qHb j s out m h e (by unfold room; omega)
 | d+1,i,n+1,out,h,m,hi,hn,e,ho=>by
  show qdn _ _ n _ _ _ _ _ _=_
  unfold qdn
  have hlt:i < s.length:=by omega
  have hx:=(s.getD i 0).toNat_lt
  simp (disch:=omega) only [dT,cond_true,Bool.and_true,tn]
  obtain ⟨n',rfl⟩:∃ n',n=n'+3:=⟨n - 3,by omega⟩
  rw [qCt _ _ _ n' out h m _ s _ _ e.cases e.lt hx (by unfold room; omega),qk (by omega)]
  have e2:=e.step (s.getD i 0)
  have ht:s.take i++[s.getD i 0]=s.take (i+1):=by
   rw [List.take_succ_eq_append_getElem hlt,List.getD_eq_getElem?_getD,List.getElem?_eq_getElem hlt]; rfl
  rw [ht] at e2
  have hd:=qHc m h (s.getD i 0).toNat
  exact qmi j s hl d (i+1) (n'+3) _ _ _ (by omega) (by omega) e2 (by rw [List.length_append]; omega)
theorem qHd:∀ (s0:List UInt8),(qME s0=true)→∃ n,qBR n s0=qmg (z88 s0):=fun s h=>⟨s.length+5,by
 have hl:=qh h
 unfold qBR
 exact qmi (s.length+5) s hl s.length 0 (s.length+5) [] 0 0 (by omega) (by omega) EncSt.nil (by simp)⟩
theorem qCu:∀ i:Fin 256,(decide (0≤(z150 (UInt8.ofNat i.val)).1)&&decide ((z150 (UInt8.ofNat i.val)).1 < 64))=true:=by decide +kernel
theorem qMn (c:UInt8):∃ n:Nat,(z150 c).1=(n:Int)∧n < 64:=by
 have h:=qaM (P:=fun c=>(decide (0≤(z150 c).1)&&decide ((z150 c).1 < 64))=true) qCu c
 simp only [Bool.and_eq_true,decide_eq_true_eq] at h
 exact ⟨(z150 c).1.toNat,by omega,by omega⟩
theorem qCv {s:List UInt8} {i:Nat} (h:i < s.length):s.take i++[s.getD i 0]=s.take (i+1):=by
 rw [List.take_succ_eq_append_getElem h,List.getD_eq_getElem?_getD,List.getElem?_eq_getElem h]; rfl
theorem qao {s:List UInt8} {i:Nat} (h:i < s.length):s.drop i=s.getD i 0 :: s.drop (i+1):=by
 rw [List.drop_eq_getElem_cons h,List.getD_eq_getElem?_getD,List.getElem?_eq_getElem h]; rfl
theorem qHe (s:List UInt8):(bodyB s).length≤s.length:=by
 unfold bodyB
 cases s.getLast? == some 61
 ·simp only [cond_false]
  cases (s.getLast? == some 61&&s.length != s.length)
  ·exact Nat.le_refl _
  ·rw [cond_true,List.length_dropLast]; omega
 ·simp only [cond_true]
  cases (s.dropLast.getLast? == some 61&&s.dropLast.length != s.length)
  ·rw [cond_false,List.length_dropLast]; omega
  ·rw [cond_true,List.length_dropLast,List.length_dropLast]; omega
theorem tmod4 (n:Nat):((Int.tmod (n:Int) 4) != (0:Int))=(n % 4 != 0):=by
 have:Int.tmod (n:Int) 4=((n % 4:Nat):Int):=rfl
 rw [this]
 cases h:n % 4 != 0 with
 | true =>
  rw [bne_iff_ne] at h ⊢; omega
 | false =>
  rw [bne_eq_false_iff_eq] at h ⊢; omega
theorem qHf:∀ i:Fin 256,z129 (UInt8.ofNat i.val) 2=blank (UInt8.ofNat i.val):=by decide +kernel
theorem qMo (c:UInt8):z129 c 2=blank c:=qGG (P:=fun c=>z129 c 2=blank c) qHf c
theorem qMp (k2:List UInt8→Int→Int→Option AV) (s:List UInt8) (hl:s.length≤1048576) (a:Nat):∀ (d b n:Nat),a+d=b→b≤s.length→d < n →
 qdS k2 n s (a:Nat) (b:Nat)=k2 s (a:Nat) ((a+(dropR blank ((s.take b).drop a)).length:Nat):Int)
 | d,b,0,hb,hbl,hn=>by omega
 | 0,b,n+1,hb,hbl,hn=>by
  show qcj k2 (qdS k2 n) n _ _ _=_
  unfold qcj
  have hz:(s.take b).drop a=[]:=List.drop_eq_nil_of_le (by simp; omega)
  rw [dF (by omega),cond_false,hz]
  congr 1
  simp [dropR]
  omega
 | d+1,b,n+1,hb,hbl,hn=>by
  show qcj k2 (qdS k2 n) n _ _ _=_
  unfold qcj
  have hlt:a < b:=by omega
  have ih:=qMp k2 s hl a d (b - 1) n (by omega) (by omega) (by omega)
  have hsn:(s.take b).drop a=(s.take (b - 1)).drop a++[s.getD (b - 1) 0]:=by
   have h1:s.take b=s.take (b - 1)++[s.getD (b - 1) 0]:=by
    conv=>lhs; rw [show b=b - 1+1 by omega]
    rw [List.take_add_one]
    simp [List.getD,show b - 1 < s.length by omega]
   rw [h1,List.drop_append_of_le_length (by simp; omega)]
  have hc:((b:Nat):Int) - 1=((b - 1:Nat):Int):=by omega
  simp (disch:=omega) only [dT,cond_true,Bool.and_true,wr,hc,tn,hsn,qyA]
  rw [show z82 (s.getD (b - 1) 0) 2=blank (s.getD (b - 1) 0) from qMo _]
  cases blank (s.getD (b - 1) 0) with
  | true=>exact ih
  | false =>
   rw [cond_false,cond_false]
   congr 1
   simp
   omega
theorem qMq (k0:List UInt8→Int→Int→Option AV) (s:List UInt8) (hl:s.length≤1048576):∀ (d a n:Nat),a+d=s.length→d < n →
 qdR k0 n s (a:Nat) (s.length:Nat)=k0 s ((s.length - ((s.drop a).dropWhile blank).length:Nat):Int) (s.length:Nat)
 | d,a,0,hb,hn=>by omega
 | 0,a,n+1,hb,hn=>by
  show qci k0 (qdR k0 n) n _ _ _=_
  unfold qci
  rw [dF (by omega),cond_false,List.drop_eq_nil_of_le (by omega)]
  congr 1
  simp
  omega
 | d+1,a,n+1,hb,hn=>by
  show qci k0 (qdR k0 n) n _ _ _=_
  unfold qci
  have hlt:a < s.length:=by omega
  have ih:=qMq k0 s hl d (a+1) n (by omega) (by omega)
  rw [qV (d:=(0:UInt8)) hlt,List.dropWhile_cons]
  simp (disch:=omega) only [dT,cond_true,Bool.and_true,qk,tn]
  rw [show z82 (s.getD a 0) 2=blank (s.getD a 0) from qMo _]
  cases hbk:blank (s.getD a 0) with
  | true=>rw [cond_true,ih]; rfl
  | false =>
   rw [cond_false]
   congr 1
   simp
   omega
theorem qX (p:UInt8→Bool):∀ s:List UInt8,s.drop (s.length - (s.dropWhile p).length)=s.dropWhile p
 | []=>rfl
 | c :: s=>by
  rw [List.dropWhile_cons]
  cases p c with
  | true =>
   have:=qak p s
   simp only [if_true,List.length_cons]
   rw [show s.length+1 - (s.dropWhile p).length=s.length - (s.dropWhile p).length+1 by omega,List.drop_succ_cons]
   exact qX p s
  | false=>simp
theorem qCw (p:UInt8→Bool) (s:List UInt8):s.take (dropR p s).length=dropR p s:=by
 have h:=qX p s.reverse
 unfold dropR
 have hle:=qak p s.reverse
 rw [List.length_reverse] at hle
 conv=>rhs; rw [← h]
 rw [List.length_reverse,List.length_reverse,List.reverse_drop,List.reverse_reverse,List.length_reverse]
 congr 1
 omega
theorem qCx:∀ (s0:List UInt8),(qrM s0=true)→∃ n,qqB n s0=qxk (z147 s0):=fun s h=>⟨s.length+1,by
 have hl:=qh h
 unfold qqB
 refine (qMq (qbs (s.length+1)) s hl s.length 0 (s.length+1) (by omega) (by omega)).trans ?_
 rw [List.drop_zero]
 have hle:=qak blank s
 unfold qbs
 refine (qMp (qck (s.length+1)) s hl (s.length - (s.dropWhile blank).length) (s.dropWhile blank).length s.length (s.length+1) (by omega) (by omega) (by omega)).trans ?_
 rw [List.take_length,qX,qkC]
 have hle2:=qyB blank (s.dropWhile blank)
 rw [qkC] at hle2
 unfold qck
 simp (disch:=omega) only [dT,cond_true,Bool.and_true,tn]
 have e:List.drop (s.length - (s.dropWhile blank).length) (List.take (s.length - (s.dropWhile blank).length+(qkN blank s).length) s)=qkN blank s:=by
  rw [List.drop_take,show s.length - (s.dropWhile blank).length+(qkN blank s).length - (s.length - (s.dropWhile blank).length)=(qkN blank s).length by omega,qX]
  rw [← qkC]
  exact qCw blank _
 rw [e]
 rfl⟩
theorem qyJ (l:List UInt8) (i:Nat):z189 l (i:Int) 61=z189 (l.drop i) 0 61:=by
 unfold z189
 by_cases h:i+3≤l.length
 ·have e1:decide ((i:Int)≤(l.length:Int) - 3)=true:=dT (by omega)
  have e2:decide ((0:Int)≤((l.drop i).length:Int) - 3)=true:=dT (by rw [List.length_drop]; omega)
  rw [e1,e2,dT (show (0:Int)≤(i:Int) by omega),tn]
  simp only [Bool.and_true,cond_true]
  show qoO l i 61=qoO (l.drop i) 0 61
  unfold qoO
  rw [qdp,qdp,qdp]
  rfl
 ·have e1:decide ((i:Int)≤(l.length:Int) - 3)=false:=dF (by omega)
  have e2:decide ((0:Int)≤((l.drop i).length:Int) - 3)=false:=dF (by rw [List.length_drop]; omega)
  rw [e1,e2]
  simp
theorem qyK:∀ (k:Nat) (l:List UInt8),qwS k l=qwS 0 (l.drop k)
 | 0,l=>rfl
 | k+1,[]=>rfl
 | k+1,x :: r=>by rw [show qwS (k+1) (x :: r)=qwS k r from rfl,qyK k r]; rfl
theorem qkE:∀ (s:List UInt8) (k:Nat),(qwS k s).2≤s.length
 | [],k=>by cases k <;> exact Nat.zero_le _
 | x :: r,k+1=>by
  have:=qkE r k
  show (qwS k r).2≤r.length+1; omega
 | x :: r,0=>by
  show (bif _ then _ else _:List UInt8×Nat).2≤r.length+1
  cases (z189 (x :: r) 0 61).2
  ·have:=qkE r 0
   show (qwS 0 r).2+(bif x==61 then 1 else 0)≤_
   cases x==61 <;> simp only [cond_true,cond_false] <;> omega
  ·have:=qkE r 2
   show (qwS 2 r).2≤_; omega
theorem qMr (s:List UInt8):(z107 s).length≤s.length:=by
 unfold z107 z148
 exact Nat.le_trans (qCa _ _) (qaV _ _)
theorem qCy (c:UInt8) (r:List UInt8):digB (c :: r)=bif c==61 then [] else bif isB64 c then c :: digB r else digB r:=by
 unfold digB
 rw [List.takeWhile_cons]
 cases h:c==61 with
 | true =>
  have:(c != 61)=false:=by rw [bne,h]; rfl
  rw [this]; rfl
 | false =>
  have:(c != 61)=true:=by rw [bne,h]; rfl
  rw [this,if_pos rfl,cond_false,List.filter_cons]
  cases isB64 c <;> rfl
theorem qre (m:Nat) (s:List UInt8) (hl:s.length≤262144):∀ (d i n:Nat) (out:List UInt8),i+d=s.length→d < n→out.length≤3*i →
 qot (qhE m) n out s (s.length:Nat) (i:Nat)=qmf (out++z50 (s.drop i))
 | d,i,0,out,hi,hn,_=>by omega
 | 0,i,n+1,out,hi,hn,ho=>by
  obtain rfl:i=s.length:=by omega
  show qeX _ _ n _ _ _ _=_
  unfold qeX
  rw [dF (by omega),cond_false,List.drop_length]
  show qmf out=qmf (out++[])
  rw [List.append_nil]
 | d+1,i,n+1,out,hi,hn,ho=>by
  show qeX _ _ n _ _ _ _=_
  unfold qeX
  have hlt:i < s.length:=by omega
  have e:z50 (s.drop i)=z91 (s.getD i 0)++z50 (s.drop (i+1)):=by rw [qao hlt]; rfl
  have hlen:(z91 (s.getD i 0)).length≤3:=by rw [qkD]; exact (qCp _).1
  have ih:=qre m s hl d (i+1) n (out++z91 (s.getD i 0)) (by omega) (by omega) (by rw [List.length_append]; omega)
  rw [e,← List.append_assoc,← ih]
  simp (disch:=omega) only [dT,cond_true,Bool.and_true,tn]
  have hroom:∀ y:UInt8,out.length+([y]:List UInt8).length≤room:=fun y=>by show out.length+1≤room; unfold room; omega
  have hd:z91 (s.getD i 0)=bif s.getD i 0==32 then [95] else bif z82 (s.getD i 0) 128 then [s.getD i 0] else z137 [] 61 (s.getD i 0):=rfl
  have hq:z84 (s.getD i 0)=bif (s.getD i 0==32)||z129 (s.getD i 0) 128 then 1 else 3:=rfl
  rw [qk (by omega),hd,hq]
  cases h32:s.getD i 0==32 with
  | true=>rw [cond_true,dT (hroom 95)]; rfl
  | false =>
   rw [Bool.false_or]
   cases hw:z129 (s.getD i 0) 128 with
   | true=>rw [show z82 (s.getD i 0) 128=true from hw,cond_false,cond_true,show ((1:Int)==1)=true from rfl,cond_true,dT (hroom _)]; rfl
   | false =>
    rw [show z82 (s.getD i 0) 128=false from hw,cond_false,cond_false,show ((3:Int)==1)=false from rfl,cond_false]
    have hok:qDI out 61 (s.getD i 0)=true:=qr (by omega)
    rw [hok]
    rfl
theorem qrf:∀ s:List UInt8,qLen s≤3*s.length
 | []=>Nat.le_refl _
 | c :: r=>by
  have h1:=qrf r
  have h2:=(qCp c).1
  unfold qLen at h1 ⊢
  simp only [List.map_cons,List.sum_cons,List.length_cons]
  omega
theorem qHg:∀ (s0:List UInt8),(qDN s0=true)→∃ n,qBQ n s0=qmf (z46 s0):=fun s h=>⟨s.length+1,by
 have hl:s.length≤262144:=of_decide_eq_true h
 have hq:=qrf s
 unfold qBQ
 rw [show qhZ s=true from by unfold qhZ; exact decide_eq_true (by omega)]
 have h1:(0:Int)≤z83 s:=by show (0:Int)≤((qLen s:Nat):Int); omega
 have h2:z83 s≤(room:Int):=by show ((qLen s:Nat):Int)≤_; unfold room; omega
 rw [dT h1,dT h2]
 have:=qre (s.length+1) s hl s.length 0 (s.length+1) [] (by omega) (by omega) (by simp)
 rw [List.drop_zero,List.nil_append] at this
 exact this⟩
theorem qEE:∀ (f:UInt8) (n:Nat) (one:Bool) (s:List UInt8),runB f n one s≤n∧runB f n one s≤s.length
 | f,0,one,s=>by cases s <;> exact ⟨Nat.le_refl _,Nat.zero_le _⟩
 | f,n+1,one,[]=>⟨Nat.zero_le _,Nat.zero_le _⟩
 | f,n+1,one,x :: r=>by
  have ih:=qEE f n false r
  show (bif z235 x&&(!one||z236 f x) then runB f n false r+1 else 0)≤n+1∧(bif z235 x&&(!one||z236 f x) then runB f n false r+1 else 0)≤r.length+1
  cases z235 x&&(!one||z236 f x)
  ·exact ⟨Nat.zero_le _,Nat.zero_le _⟩
  ·simp only [cond_true]; omega
theorem qrg (c:UInt8):qg c≤4:=by
 unfold qg
 cases decide (c < 128) <;> cases decide (c < 194)||decide (244 < c) <;> cases decide (c < 224) <;> cases decide (c < 240) <;> decide
def foldS (t:List UInt8) (c:Int):Int:=t.foldl (fun c y=>c*64+((y &&& 63).toNat:Int)) c
theorem qyL:∀ i:Fin 256,((UInt8.ofNat i.val) &&& (63:UInt8)).toNat < 64:=by decide +kernel
theorem low6 (y:UInt8):(y &&& 63).toNat < 64:=qaM (P:=fun y=>(y &&& 63).toNat < 64) qyL y
theorem qtn:∀ i:Fin 256,(!(z235 (UInt8.ofNat i.val))||decide ((UInt8.ofNat i.val).toNat=((UInt8.ofNat i.val) &&& (63:UInt8)).toNat+128))=true:=by decide +kernel
theorem low6f {y:UInt8} (h:z235 y=true):y.toNat=(y &&& 63).toNat+128:=by
 have k:=qaM (P:=fun y=>(!(z235 y)||decide (y.toNat=(y &&& (63:UInt8)).toNat+128))=true) qtn y
 rw [h,Bool.not_true,Bool.false_or,decide_eq_true_eq] at k
 exact k
theorem qEF (x:UInt8) (r:List UInt8):farN (x :: r)≤qg x∧farN (x :: r)≤r.length+1:=by
 show (bif qg x==0 then 0 else 1+runB x (qg x - 1) true r)≤_∧(bif qg x==0 then 0 else 1+runB x (qg x - 1) true r)≤_
 have:=qEE x (qg x - 1) true r
 cases h:qg x==0 with
 | true=>exact ⟨Nat.zero_le _,Nat.zero_le _⟩
 | false =>
  rw [beq_eq_false_iff_ne] at h
  simp only [cond_false]; omega
theorem qyM:∀ i:Fin 256,((bif decide ((UInt8.ofNat i.val) < (128:UInt8)) then (1:Int) else bif decide ((194:UInt8)≤(UInt8.ofNat i.val))&&decide ((UInt8.ofNat i.val)≤(223:UInt8)) then 2 else bif decide ((224:UInt8)≤(UInt8.ofNat i.val))&&decide ((UInt8.ofNat i.val)≤(239:UInt8)) then 3
 else bif decide ((240:UInt8)≤(UInt8.ofNat i.val))&&decide ((UInt8.ofNat i.val)≤(244:UInt8)) then 4 else 0)==z217 (UInt8.ofNat i.val))=true:=by decide +kernel
theorem qCz:∀ (c0:UInt8),∃ n,qxm n c0=qQ (z153 c0):=fun c=>⟨0,by
 have h:=qaM (P:=fun c=>((bif decide (c < (128:UInt8)) then (1:Int) else bif decide ((194:UInt8)≤c)&&decide (c≤(223:UInt8)) then 2 else bif decide ((224:UInt8)≤c)&&decide (c≤(239:UInt8)) then 3
  else bif decide ((240:UInt8)≤c)&&decide (c≤(244:UInt8)) then 4 else 0)==z217 c)=true) qyM c
 rw [beq_iff_eq] at h
 unfold qxm z153
 rw [← h]
 cases decide (c < (128:UInt8)) <;> cases decide ((194:UInt8)≤c) <;> cases decide (c≤(223:UInt8)) <;> cases decide ((224:UInt8)≤c) <;> cases decide (c≤(239:UInt8)) <;> cases decide ((240:UInt8)≤c) <;> cases decide (c≤(244:UInt8)) <;> rfl⟩
theorem qCA:∀ (c0:UInt8),∃ n,qxn n c0=qeK (z193 c0).1 (z193 c0).2:=fun c=>⟨0,by
 unfold qxn z193
 cases (c==(224:UInt8)) <;> cases (c==(237:UInt8)) <;> cases (c==(240:UInt8)) <;> cases (c==(244:UInt8)) <;> rfl⟩
def inR (a b y:UInt8):Bool := !(decide (y < a)) && !(decide (b < y))
theorem qhY:∀ i:Fin 256,inR 128 191 (UInt8.ofNat i.val)=z235 (UInt8.ofNat i.val):=by decide +kernel
theorem qrh (y:UInt8):inR 128 191 y=z235 y:=qaM (P:=fun y=>inR 128 191 y=z235 y) qhY y
theorem in_a:∀ i:Fin 256,inR 160 191 (UInt8.ofNat i.val)=(z235 (UInt8.ofNat i.val)&&(decide ((160:UInt8)≤(UInt8.ofNat i.val))&&z235 (UInt8.ofNat i.val))):=by decide +kernel
theorem in_b:∀ i:Fin 256,inR 128 159 (UInt8.ofNat i.val)=(z235 (UInt8.ofNat i.val)&&(decide ((UInt8.ofNat i.val) < (160:UInt8))&&z235 (UInt8.ofNat i.val))):=by decide +kernel
theorem in_c:∀ i:Fin 256,inR 144 191 (UInt8.ofNat i.val)=(z235 (UInt8.ofNat i.val)&&(decide ((144:UInt8)≤(UInt8.ofNat i.val))&&z235 (UInt8.ofNat i.val))):=by decide +kernel
theorem in_d:∀ i:Fin 256,inR 128 143 (UInt8.ofNat i.val)=(z235 (UInt8.ofNat i.val)&&(decide ((UInt8.ofNat i.val) < (144:UInt8))&&z235 (UInt8.ofNat i.val))):=by decide +kernel
theorem qCB (x y:UInt8):inR (z193 x).1 (z193 x).2 y=(z235 y&&z236 x y):=by
 unfold z193 z236
 cases (x==(224:UInt8))
 ·cases (x==(237:UInt8))
  ·cases (x==(240:UInt8))
   ·cases (x==(244:UInt8))
    ·show inR 128 191 y=_
     rw [qrh]
     cases z235 y <;> rfl
    ·exact qaM (P:=fun y=>inR 128 143 y=(z235 y&&(decide (y < (144:UInt8))&&z235 y))) in_d y
   ·exact qaM (P:=fun y=>inR 144 191 y=(z235 y&&(decide ((144:UInt8)≤y)&&z235 y))) in_c y
  ·exact qaM (P:=fun y=>inR 128 159 y=(z235 y&&(decide (y < (160:UInt8))&&z235 y))) in_b y
 ·exact qaM (P:=fun y=>inR 160 191 y=(z235 y&&(decide ((160:UInt8)≤y)&&z235 y))) in_a y
theorem qri {α:Type} (a b y:UInt8) (p q:α):(bif decide (y < a) then p else bif decide (b < y) then p else q)=bif inR a b y then q else p:=by
 unfold inR
 cases decide (y < a) <;> cases decide (b < y) <;> rfl
theorem qrj (m:Nat) (x:UInt8) (r:List UInt8) (hl:r.length≤1048576):∀ (d i n:Nat),qg x=i+d→1≤i→i≤r.length+1→d < n →
 qfo qbd (qcn m) n (x :: r) (i:Nat)=qbd ((i+runB x d (i==1) (r.drop (i - 1)):Nat):Int)
 | d,i,0,_,_,_,hn=>by omega
 | 0,i,n+1,hs,hi,hr,hn=>by
  show qcm _ _ _ n _ _=_
  unfold qcm
  have e0:z153 (List.getD (x :: r) (Int.toNat 0) 0)=((qg x:Nat):Int):=rfl
  have h0:decide ((0:Int) < (((x :: r).length:Nat):Int))=true:=dT (by simp only [List.length_cons]; omega)
  rw [e0,h0,dF (show ¬ ((i:Nat):Int) < ((qg x:Nat):Int) by omega)]
  have hr0:runB x 0 (i==1) (r.drop (i - 1))=0:=by cases r.drop (i - 1) <;> rfl
  rw [hr0]
  rfl
 | d+1,i,n+1,hs,hi,hr,hn=>by
  show qcm _ _ _ n _ _=_
  unfold qcm
  have e0:z153 (List.getD (x :: r) (Int.toNat 0) 0)=((qg x:Nat):Int):=rfl
  have h0:decide ((0:Int) < (((x :: r).length:Nat):Int))=true:=dT (by simp only [List.length_cons]; omega)
  rw [e0,h0,dT (show ((i:Nat):Int) < ((qg x:Nat):Int) by omega)]
  simp only [cond_true,Bool.and_true,show decide ((0:Int)≤0)=true from rfl]
  by_cases hlt:i < (x :: r).length
  ·have hlt':i - 1 < r.length:=by simp only [List.length_cons] at hlt; omega
   obtain ⟨y,hy⟩:∃ y,r.getD (i - 1) 0=y:=⟨_,rfl⟩
   have hg:(x :: r).getD i 0=y:=by
    obtain ⟨k,rfl⟩:∃ k,i=k+1:=⟨i - 1,by omega⟩
    exact hy
   have hdr:r.drop (i - 1)=y :: r.drop i:=by
    have:=qao hlt'
    rw [this,hy,show i - 1+1=i by omega]
   have e2:List.getD (x :: r) (Int.toNat 0) 0=x:=rfl
   rw [dT (show ((i:Nat):Int) < (((x :: r).length:Nat):Int) by omega),dT (show (0:Int)≤((i:Nat):Int) by omega),tn,hg,hdr,e2]
   simp only [cond_true,Bool.and_true]
   have hrun:runB x (d+1) (i==1) (y :: r.drop i)=bif z235 y&&(!(i==1)||z236 x y) then runB x d false (r.drop i)+1 else 0:=rfl
   have ih:=qrj m x r hl d (i+1) n (by omega) (by omega) (by simp only [List.length_cons] at hlt; omega) (by omega)
   rw [show i+1 - 1=i by omega,show (i+1==1)=false by simp; omega] at ih
   rw [hrun,qri,qri,qCB,qrh]
   have hfin:qfo qbd (qcn m) n (x :: r) (IntKind.wrap .i64 (((i:Nat):Int)+1))=qbd ((i+(runB x d false (r.drop i)+1):Nat):Int):=by
    rw [qk (by omega),ih,show i+1+runB x d false (r.drop i)=i+(runB x d false (r.drop i)+1) by omega]
   by_cases h1:i=1
   ·subst h1
    rw [show (((1:Nat):Int)==1)=true from rfl,show ((1:Nat)==1)=true from rfl,cond_true,Bool.not_true,Bool.false_or]
    cases z235 y&&z236 x y
    ·rfl
    ·exact hfin
   ·rw [show (((i:Nat):Int)==1)=false by simp; omega,show (i==1)=false by simpa using h1,cond_false,Bool.not_false,Bool.true_or,Bool.and_true]
    cases z235 y
    ·rfl
    ·exact hfin
  ·have hi2:i=r.length+1:=by simp only [List.length_cons] at hlt; omega
   rw [dF (show ¬ ((i:Nat):Int) < (((x :: r).length:Nat):Int) by omega),cond_false,List.drop_eq_nil_of_le (by omega)]
   rfl
theorem qCC:∀ (s0:List UInt8),(qrF s0=true)→∃ n,qqE n s0=qbd (z152 s0):=fun s h=>⟨6,by
 have hl:=qh h
 match s with
 | []=>rfl
 | x :: r =>
  simp only [List.length_cons] at hl
  have h4:=qrg x
  have ef:z152 (x :: r)=((bif qg x==0 then 0 else 1+runB x (qg x - 1) true r:Nat):Int):=rfl
  have e0:z153 (List.getD (x :: r) (Int.toNat 0) 0)=((qg x:Nat):Int):=rfl
  have h0':decide ((0:Int) < (((x :: r).length:Nat):Int))=true:=dT (by simp only [List.length_cons]; omega)
  have h00:((((x :: r).length:Nat):Int)==0)=false:=by rw [beq_eq_false_iff_ne]; simp only [List.length_cons]; omega
  unfold qqE
  rw [ef,e0,h0',h00]
  simp only [cond_false,Bool.and_true,show decide ((0:Int)≤0)=true from rfl,cond_true]
  by_cases h0:qg x=0
  ·rw [h0]; rfl
  ·rw [show (qg x==0)=false by simpa using h0,show (((qg x:Nat):Int)==0)=false by rw [beq_eq_false_iff_ne]; omega,cond_false,cond_false]
   have:=qrj 6 x r (by omega) (qg x - 1) 1 6 (by omega) (Nat.le_refl 1) (by omega) (by omega)
   rw [show (1:Nat) - 1=0 from rfl,List.drop_zero] at this
   exact this⟩
theorem qyN:∀ (f:UInt8) (n:Nat) (one:Bool) (s:List UInt8),runB f n one s=n→(s.take n).all z235=true
 | f,0,one,s,_=>by cases s <;> rfl
 | f,n+1,one,[],h=>by cases h
 | f,n+1,one,x :: r,h=>by
  have h':(bif z235 x&&(!one||z236 f x) then runB f n false r+1 else 0)=n+1:=h
  cases hc:z235 x&&(!one||z236 f x) with
  | false=>rw [hc] at h'; cases h'
  | true =>
   rw [hc,cond_true] at h'
   rw [Bool.and_eq_true] at hc
   rw [List.take_succ_cons,List.all_cons,hc.1,qyN f n false r (by omega)]; rfl
theorem qto:∀ i:Fin 256,(qg (UInt8.ofNat i.val)==0||(((UInt8.ofNat i.val).toNat:Int) - List.getD ([(0:Int),(0:Int),(192:Int),(224:Int),(240:Int)]:List Int) (qg (UInt8.ofNat i.val)) 0==((((UInt8.ofNat i.val) &&& (255 ^^^ (z218 ((qg (UInt8.ofNat i.val):Nat):Int)))).toNat:Nat):Int)))=true:=by decide +kernel
theorem qmj (m:Nat) (s:List UInt8) (N:Nat) (hl:s.length≤1048576) (hN:N≤s.length):∀ (d i n b c:Nat),i+d=N→d < n→c < b→b*64 ^ d≤67108864→((s.drop i).take d).all z235=true →
 qhf (qdT m) n s (N:Int) (c:Int) (i:Nat)=qbe (foldS ((s.drop i).take d) c) N 0
 | d,i,0,b,c,hi,hn,_,_,_=>by omega
 | 0,i,n+1,b,c,hi,hn,hc,hb,_=>by
  obtain rfl:i=N:=by omega
  show qco _ _ n _ _ _ _=_
  unfold qco
  rw [dF (by omega),cond_false,List.take_zero]
  show qbe (IntKind.wrap .i32 (c:Int)) _ 0=_
  rw [IntWalk.i32_in _ (by omega)]; rfl
 | d+1,i,n+1,b,c,hi,hn,hc,hb,hF=>by
  show qco _ _ n _ _ _ _=_
  unfold qco
  have hlt:i < s.length:=by omega
  have h64:0 < 64 ^ d:=Nat.pow_pos (by decide)
  have hb':b*64*64 ^ d≤67108864:=by rw [Nat.pow_succ] at hb; rwa [Nat.mul_assoc,Nat.mul_comm 64]
  have hb2:b*64≤b*64*64 ^ d:=Nat.le_mul_of_pos_right _ h64
  rw [qao hlt,List.take_succ_cons,List.all_cons,Bool.and_eq_true] at hF
  have hy:=low6 (s.getD i 0)
  have hyf:=low6f hF.1
  simp (disch:=omega) only [dT,cond_true,Bool.and_true,tn]
  have e1:IntKind.wrap .i64 ((IntKind.wrap .i64 ((IntKind.wrap .i64 ((64:Int)*(c:Int)))+(IntKind.wrap .i64 (((s.getD i 0).toNat:Nat):Int)))) - (128:Int))=((c*64+((s.getD i 0) &&& 63).toNat:Nat):Int):=by
   rw [IntWalk.i64_in (64*(c:Int)) (by omega),IntWalk.i64_in (((s.getD i 0).toNat:Nat):Int) (by omega),IntWalk.i64_in (64*(c:Int)+_) (by omega),IntWalk.i64_in _ (by omega)]
   omega
  rw [e1,qk (by omega),qmj m s N hl hN d (i+1) n (b*64) _ (by omega) (by omega) (by omega) hb' hF.2,qao hlt,List.take_succ_cons]
  show _=qbe (foldS ((s.drop (i+1)).take d) ((c:Int)*64+(((s.getD i 0) &&& 63).toNat:Int))) N 0
  congr 2
theorem qCD:∀ (s0:List UInt8),(qrG s0=true)→∃ n,qqF n s0=qbe (z111 s0).1 (z111 s0).2.1 (z111 s0).2.2:=fun s h=>⟨s.length+5,by
 have hl:=qh h
 match s with
 | []=>rfl
 | x :: r =>
  simp only [List.length_cons] at hl
  have hf:=qEF x r
  have h4:=qrg x
  obtain ⟨N,hN⟩:∃ N,farN (x :: r)=N:=⟨_,rfl⟩
  have eT:z111 (x :: r)=bif farN (x :: r)==0 then ((0:Int),((1:Int),(3:Int))) else bif decide (farN (x :: r) < qg x)&&(farN (x :: r)==(x :: r).length) then (0,(farN (x :: r):Nat),4)
   else bif decide (farN (x :: r) < qg x) then (0,(farN (x :: r):Nat),3) else (signN (farN (x :: r)) (x :: r),(farN (x :: r):Nat),0):=rfl
  have eF:z152 (x :: r)=(N:Int):=by rw [← hN]; rfl
  have eS:z153 (List.getD (x :: r) (Int.toNat 0) 0)=((qg x:Nat):Int):=rfl
  have hok:qrF (x :: r)=true:=qr (show (x :: r).length≤1048576 by simp only [List.length_cons]; omega)
  have h0:decide ((0:Int) < (((x :: r).length:Nat):Int))=true:=dT (by simp only [List.length_cons]; omega)
  have h00:((((x :: r).length:Nat):Int)==0)=false:=by rw [beq_eq_false_iff_ne]; simp only [List.length_cons]; omega
  rw [eT,hN]
  rw [hN] at hf
  unfold qqF
  rw [eF,eS,hok,h0,h00]
  simp only [Bool.and_true,cond_true,cond_false,show decide ((0:Int)≤0)=true from rfl]
  by_cases hz:N=0
  ·subst hz
   rw [show decide ((0:Int) < ((0:Nat):Int))=false from rfl,show (((0:Nat):Int)==(((x :: r).length:Nat):Int))=false by rw [beq_eq_false_iff_ne]; simp only [List.length_cons]; omega]
   rfl
  ·rw [dT (show (0:Int) < ((N:Nat):Int) by omega),show (N==0)=false by simpa using hz]
   simp only [cond_true,cond_false]
   by_cases hs:N < qg x
   ·rw [show (((N:Nat):Int)==((qg x:Nat):Int))=false by rw [beq_eq_false_iff_ne]; omega,decide_eq_true hs]
    simp only [cond_true,Bool.true_and,cond_false]
    by_cases hlN:N=(x :: r).length
    ·rw [show (((N:Nat):Int)==(((x :: r).length:Nat):Int))=true by rw [beq_iff_eq]; omega,show (N==(x :: r).length)=true by simpa using hlN]
     rfl
    ·rw [show (((N:Nat):Int)==(((x :: r).length:Nat):Int))=false by rw [beq_eq_false_iff_ne]; omega,show (N==(x :: r).length)=false by simpa using hlN,cond_false,cond_false]
     rw [show decide ((1:Int) > ((N:Nat):Int))=false from dF (by omega)]
     rfl
   ·have hNs:N=qg x:=by omega
    rw [show (((N:Nat):Int)==((qg x:Nat):Int))=true by rw [beq_iff_eq]; omega,decide_eq_false hs]
    simp only [cond_false,Bool.false_and,cond_true]
    rw [dT (show (0:Int)≤((N:Nat):Int) by omega),dT (show ((N:Nat):Int) < ((([(0:Int),(0:Int),(192:Int),(224:Int),(240:Int)]:List Int).length:Nat):Int) by show ((N:Nat):Int) < ((5:Nat):Int); omega)]
    simp only [Bool.and_true,cond_true,tn]
    have e2:List.getD (x :: r) (Int.toNat 0) 0=x:=rfl
    have hx:=(x &&& (255 ^^^ z218 ((N:Nat):Int))).toNat_lt
    have hfs:=qaM (P:=fun x=>(qg x==0||((x.toNat:Int) - List.getD ([(0:Int),(0:Int),(192:Int),(224:Int),(240:Int)]:List Int) (qg x) 0==(((x &&& (255 ^^^ (z218 ((qg x:Nat):Int)))).toNat:Nat):Int)))=true) qto x
    rw [show (qg x==0)=false by rw [beq_eq_false_iff_ne]; omega,Bool.false_or,beq_iff_eq,← hNs] at hfs
    have hxl:=x.toNat_lt
    rw [e2,IntWalk.i64_in ((x.toNat:Nat):Int) (by omega),hfs,IntWalk.i64_in _ (by omega)]
    have hall:((r.take (N - 1)).all z235)=true:=by
     refine qyN x (N - 1) true r ?_
     have hN':(bif qg x==0 then 0 else 1+runB x (qg x - 1) true r)=N:=hN
     rw [show (qg x==0)=false by rw [beq_eq_false_iff_ne]; omega,cond_false,← hNs] at hN'
     omega
    have:=qmj ((x :: r).length+5) (x :: r) N (by simp only [List.length_cons]; omega) (by simp only [List.length_cons]; omega) (N - 1) 1 ((x :: r).length+5) 256 _ (by omega) (by simp only [List.length_cons]; omega) hx (by
     have:N - 1=0∨N - 1=1∨N - 1=2∨N - 1=3:=by omega
     rcases this with e | e | e | e <;> rw [e] <;> decide) hall
    exact this⟩
theorem qMs (x:UInt8) (r:List UInt8):(z187 (x :: r)).2.1=((z187 (x :: r)).2.1.toNat:Int)∧(z187 (x :: r)).2.1.toNat≤r.length+1:=by
 have hf:=qEF x r
 show ((bif farN (x :: r)==0 then ((0:Int),((1:Int),(3:Int))) else bif decide (farN (x :: r) < qg x)&&(farN (x :: r)==(x :: r).length) then (0,(farN (x :: r):Nat),4)
  else bif decide (farN (x :: r) < qg x) then (0,(farN (x :: r):Nat),3) else (signN (farN (x :: r)) (x :: r),(farN (x :: r):Nat),0)).2.1=(((bif farN (x :: r)==0 then ((0:Int),((1:Int),(3:Int))) else bif decide (farN (x :: r) < qg x)&&(farN (x :: r)==(x :: r).length) then (0,(farN (x :: r):Nat),4)
  else bif decide (farN (x :: r) < qg x) then (0,(farN (x :: r):Nat),3) else (signN (farN (x :: r)) (x :: r),(farN (x :: r):Nat),0)).2.1.toNat:Nat):Int))∧(bif farN (x :: r)==0 then ((0:Int),((1:Int),(3:Int))) else bif decide (farN (x :: r) < qg x)&&(farN (x :: r)==(x :: r).length) then (0,(farN (x :: r):Nat),4)
  else bif decide (farN (x :: r) < qg x) then (0,(farN (x :: r):Nat),3) else (signN (farN (x :: r)) (x :: r),(farN (x :: r):Nat),0)).2.1.toNat≤r.length+1
 cases farN (x :: r)==0
 ·cases decide (farN (x :: r) < qg x)&&(farN (x :: r)==(x :: r).length)
  ·cases decide (farN (x :: r) < qg x)
   ·exact ⟨rfl,hf.2⟩
   ·exact ⟨rfl,hf.2⟩
  ·exact ⟨rfl,hf.2⟩
 ·exact ⟨rfl,by show 1≤_; omega⟩
theorem qrk (m:Nat) (s:List UInt8) (hl:s.length≤1048576):∀ (n k i:Nat) (out:List Int) (b:Nat) (f:Int),s.length - i < n→s.length - i < k→out.length≤i→b≤i→i≤s.length →
 qlY (qeL m) n s out (b:Int) f (i:Int)=qlX (out++utfR k (s.drop i)) (utfE k (s.drop i) ((b:Int),f)).1 (utfE k (s.drop i) ((b:Int),f)).2
 | 0,k,i,out,b,f,hn,_,_,_,_=>by omega
 | n+1,0,i,out,b,f,_,hk,_,_,_=>by omega
 | n+1,k+1,i,out,b,f,hn,hk,ho,hb,hi=>by
  show qkx _ (qlY (qeL m) n) n _ _ _ _ _=_
  unfold qkx
  by_cases hlt:i < s.length
  ·obtain ⟨x,r,hx⟩:∃ x r,s.drop i=x :: r:=⟨_,_,qao hlt⟩
   have hrl:r.length+1+i=s.length:=by have:=congrArg List.length hx; rw [List.length_drop,List.length_cons] at this; omega
   obtain ⟨e1,e2⟩:=qMs x r
   have e3:=qHJ x r
   rw [dT (show ((i:Nat):Int) < ((s.length:Nat):Int) by omega),dT (show (0:Int)≤((i:Nat):Int) by omega),dT (show ((i:Nat):Int)≤((s.length:Nat):Int) by omega),dT (Int.le_refl _),tn,tn,List.take_length,hx]
   simp only [cond_true,Bool.and_true]
   rw [show qrG (x :: r)=true from qr (by simp only [List.length_cons]; omega),cond_true]
   rw [show z111 (x :: r)=z187 (x :: r) from rfl]
   generalize hw:(z187 (x :: r)).2.1.toNat=w at e1 e2 e3
   rw [e1,show decide ((1:Int) > (w:Int))=false from dF (by omega),cond_false,show IntKind.wrap .i64 (((i:Nat):Int)+(w:Int))=((i+w:Nat):Int) by rw [IntWalk.i64_in _ (by omega)]; omega]
   have hdr:(x :: r).drop w=s.drop (i+w):=by rw [← hx,List.drop_drop]
   have hroom:∀ y:Int,out.length+([y]:List Int).length≤room:=fun y=>by show out.length+1≤room; unfold room; omega
   have eR:utfR (k+1) (x :: r)=(bif (z187 (x :: r)).2.2 != 0 then 65533 else (z187 (x :: r)).1) :: utfR k (s.drop (i+w)):=by
    rw [← hdr,← hw]; rfl
   have eE:utfE (k+1) (x :: r) ((b:Int),f)=utfE k (s.drop (i+w)) (bif (z187 (x :: r)).2.2 != 0 then ((b:Int)+1,bif f==0 then (z187 (x :: r)).2.2 else f) else ((b:Int),f)):=by
    rw [← hdr,← hw]; rfl
   rw [eR,eE,dT (hroom 65533),dT (hroom (z187 (x :: r)).1)]
   have ih:=fun (y:Int) (b':Nat) (f':Int) (hb':b'≤i+w)=>qrk m s hl n k (i+w) (out++[y]) b' f' (by omega) (by omega) (by rw [List.length_append]; show out.length+1≤_; omega) hb' (by omega)
   cases hc:((z187 (x :: r)).2.2 != 0) with
   | false =>
    simp only [cond_false,cond_true]
    rw [ih _ b f (by omega),List.append_assoc]; rfl
   | true =>
    simp only [cond_true]
    rw [qk (by omega)]
    have hbe:(b:Int)+1=((b+1:Nat):Int):=by omega
    rw [hbe]
    cases hf:f==0 with
    | true=>simp only [cond_true]; rw [ih 65533 (b+1) _ (by omega),List.append_assoc]; rfl
    | false=>simp only [cond_false]; rw [ih 65533 (b+1) _ (by omega),List.append_assoc]; rfl
  ·rw [dF (by omega),cond_false,List.drop_eq_nil_of_le (by omega)]
   show qlX out (b:Int) f=qlX (out++[]) _ _
   rw [List.append_nil]; rfl
theorem qHh:∀ (s0:List UInt8),(qDJ s0=true)→∃ n,qGe n s0=qlX (z63 s0).1 (z63 s0).2.1 (z63 s0).2.2:=fun s h=>⟨s.length+1,by
 have hl:=qh h
 have:=qrk (s.length+1) s hl (s.length+1) (s.length+1) 0 [] 0 0 (by omega) (by omega) (by simp) (Nat.le_refl 0) (by omega)
 rw [List.drop_zero,List.nil_append] at this
 exact this⟩
def qhH (cs:Int) (c:UInt8):Int:=bif cs==1 then z138 (c.toNat:Int) else bif cs==3 then z64 c else bif cs==4 then z65 c else (c.toNat:Int)
theorem u127 (c:UInt8):decide ((127:UInt8) < c)=decide ((128:Int)≤(c.toNat:Int)):=by
 by_cases h:(127:UInt8) < c
 ·rw [decide_eq_true h]
  rw [UInt8.lt_iff_toNat_lt] at h
  exact (decide_eq_true (by have:(127:UInt8).toNat=127:=rfl; omega)).symm
 ·rw [decide_eq_false h]
  rw [UInt8.lt_iff_toNat_lt] at h
  exact (decide_eq_false (by have:(127:UInt8).toNat=127:=rfl; omega)).symm
theorem qHi:∀ (charset0:Int) (s1:List UInt8),(qtt charset0 s1=true)→∃ n,qBM n charset0 s1=qlZ (z26 charset0 s1):=fun cs s h=>⟨s.length+1,by
 have hl:=qh h
 unfold qBM
 rw [show qDJ s=true from h]
 cases h5:cs==5 with
 | true =>
  have:=beq_iff_eq.1 h5
  subst this
  rfl
 | false =>
  rw [cond_false]
  have:=qfa (t:=s) (dv:=0) (f:=fun c=>[qhH cs c]) (q:=fun _=>true) (b:=1) (k0:=qeN (s.length+1)) (R:=none)
   (L:=fun n out i=>qoe (qeN (s.length+1)) n cs s out i) (fun x=>Nat.le_refl 1) (fun n i out hi hb=>by
    show qeM _ _ n _ _ _ _=_
    unfold qeM
    have hr:∀ y:Int,out.length+([y]:List Int).length≤room:=fun y=>hb
    simp (disch:=omega) only [dT,cond_true,Bool.and_true,tn,qk]
    rw [qoB,u127]
    unfold qhH z138
    cases h1:cs==1 with
    | true =>
     have hcs:=beq_iff_eq.1 h1
     subst hcs
     cases decide ((128:Int)≤((s.getD i 0).toNat:Int)) <;> rfl
    | false=>cases cs==3 <;> cases cs==4 <;> rfl) (fun n out=>by
    show qeM _ _ n _ _ _ _=_
    unfold qeM
    rw [dF (by omega)]; rfl) s.length 0 (s.length+1) [] (by omega) (by omega) (by show 0+_≤room; unfold room; omega)
  rw [List.drop_zero,qoE,cond_true,List.nil_append,qoD] at this
  refine this.trans ?_
  show qlZ (s.map (qhH cs))=qlZ (z52 cs s)
  unfold z52
  rw [h5]
  have hf:∀ b:Bool,(cs==1)=b→True:=fun _ _=>trivial
  cases h1:cs==1 with
  | true=>rw [show qhH cs=fun c:UInt8=>z138 (c.toNat:Int) from funext fun c=>by unfold qhH; rw [h1]; rfl]; rfl
  | false =>
   cases h3:cs==3 with
   | true=>rw [show qhH cs=z64 from funext fun c=>by unfold qhH; rw [h1,h3]; rfl]; rfl
   | false =>
    cases h4:cs==4 with
    | true=>rw [show qhH cs=z65 from funext fun c=>by unfold qhH; rw [h1,h3,h4]; rfl]; rfl
    | false=>rw [show qhH cs=fun c:UInt8=>(c.toNat:Int) from funext fun c=>by unfold qhH; rw [h1,h3,h4]; rfl]; rfl⟩
theorem qyO (ret:Bool→Option AV) (a b:List Int) (hab:a.length=b.length) (hl:a.length≤1048576):∀ (d i n:Nat),i+d=a.length→d < n →
 qkz ret (ret true) n a b (i:Nat)=ret (decide (a.drop i=b.drop i))
 | d,i,0,hi,hn=>by omega
 | 0,i,n+1,hi,hn=>by
  show qeO ret (ret true) (qkz ret (ret true) n) n a b _=_
  unfold qeO
  rw [decide_eq_false (by omega),cond_false,List.drop_eq_nil_of_le (by omega),List.drop_eq_nil_of_le (by omega)]
  rfl
 | d+1,i,n+1,hi,hn=>by
  show qeO ret (ret true) (qkz ret (ret true) n) n a b _=_
  unfold qeO
  have hlt:i < a.length:=by omega
  have hlt':i < b.length:=by omega
  have ih:=qyO ret a b hab hl d (i+1) n (by omega) (by omega)
  simp (disch:=omega) only [dT,cond_true,Bool.and_true,tn,qk]
  rw [ih,qBT hlt hlt' 0]
  cases (a.getD i 0 != b.getD i 0) <;> rfl
theorem qHj:∀ (a0:List Int) (b1:List Int),(qDR a0 b1=true)→∃ n,qBN n a0 b1=qio (z21 a0 b1):=fun a b h=>⟨a.length+1,by
 unfold qBN z21
 by_cases hab:a.length=b.length
 ·rw [show (((a.length:Nat):Int) != ((b.length:Nat):Int))=false by simp [hab],cond_false]
  exact qyO qio a b hab (qh h) a.length 0 (a.length+1) (by omega) (by omega)
 ·rw [show (((a.length:Nat):Int) != ((b.length:Nat):Int))=true by simp only [bne_iff_ne,ne_eq]; omega,cond_true,decide_eq_false (fun e=>hab (by rw [e]))]⟩
theorem qCE:∀ (s0:List UInt8),(qrJ s0=true)→∃ n,qqA n s0=qxj (z104 s0):=fun s h=>⟨s.length+1,by
 have hl:=qh h
 unfold qqA
 have:=qfa (t:=s) (dv:=0) (f:=fun c=>[z81 c]) (q:=fun _=>true) (b:=1) (k0:=qch (s.length+1)) (R:=none)
  (L:=fun n out i=>qha (qch (s.length+1)) n s out i) (fun x=>Nat.le_refl 1) (fun n i out hi hb=>by
   show qcg _ _ n _ _ _=_
   unfold qcg
   have hr:out.length+([z81 (s.getD i 0)]:List UInt8).length≤room:=hb
   simp (disch:=omega) only [dT,cond_true,Bool.and_true,tn,qk]
   all_goals (rw [dT hr])
   all_goals rfl) (fun n out=>by
   show qcg _ _ n _ _ _=_
   unfold qcg
   rw [dF (by omega)]; rfl) s.length 0 (s.length+1) [] (by omega) (by omega) (by show 0+_≤room; unfold room; omega)
 rw [List.drop_zero,qoE,cond_true,List.nil_append,qoD] at this
 exact this⟩
def valF:Nat→Nat→UInt8→Int×Bool
 | 0,_,_=>(0,false)
 | d+1,n,c=>bif z135 (n:Int)==c then ((n:Int),true) else valF d (n+1) c
theorem qyP (m:Nat) (c:UInt8):∀ (d i n:Nat),i+d=64→d < n→qhg qdf (qdU m) n c (i:Nat)=qdf (valF d i c).1 (valF d i c).2
 | d,i,0,hi,hn=>by omega
 | 0,i,n+1,hi,hn=>by
  show qcp _ _ _ n _ _=_
  unfold qcp
  rw [dF (by omega)]; rfl
 | d+1,i,n+1,hi,hn=>by
  show qcp _ _ _ n _ _=_
  unfold qcp
  rw [dT (by omega),cond_true,qk (by omega),qyP m c d (i+1) n (by omega) (by omega)]
  show _=qdf (bif z135 (i:Int)==c then ((i:Int),true) else valF d (i+1) c).1 (bif z135 (i:Int)==c then ((i:Int),true) else valF d (i+1) c).2
  cases (z135 (i:Int)==c) <;> rfl
theorem qHk:∀ i:Fin 256,(valF 64 0 (UInt8.ofNat i.val)==z150 (UInt8.ofNat i.val))=true:=by decide +kernel
theorem qCF:∀ (c0:UInt8),∃ n,qqH n c0=qdf (z145 c0).1 (z145 c0).2:=fun c=>⟨65,by
 have h:=qaM (P:=fun c=>(valF 64 0 c==z150 c)=true) qHk c
 rw [beq_iff_eq] at h
 unfold qqH z145
 rw [← h]
 exact qyP 65 c 64 0 65 rfl (by omega)⟩
theorem qfb (j:Nat) (s:List UInt8) (hl:s.length≤1048576):∀ (d i n:Nat) (out:List UInt8) (k:Nat),i+d=s.length→d < n→out.length≤i→k≤i →
 qhh (qdV j) n s out (k:Int) (i:Nat)=qdg (out++digB (s.drop i)) ((k+((((s.drop i).takeWhile fun c=>c != 61).filter fun c => !(isB64 c)).length):Nat):Int)
 | d,i,0,out,k,hi,hn,_,_=>by omega
 | 0,i,n+1,out,k,hi,hn,_,_=>by
  obtain rfl:i=s.length:=by omega
  show qcq _ _ n _ _ _ _=_
  unfold qcq
  rw [dF (by omega),cond_false,List.drop_length]
  show qdg out (k:Int)=qdg (out++[]) _
  rw [List.append_nil]; rfl
 | d+1,i,n+1,out,k,hi,hn,ho,hk=>by
  show qcq _ _ n _ _ _ _=_
  unfold qcq
  have hlt:i < s.length:=by omega
  have hr:out.length+([s.getD i 0]:List UInt8).length≤room:=by show out.length+1≤room; unfold room; omega
  rw [qao hlt,qCy,List.takeWhile_cons]
  simp (disch:=omega) only [dT,cond_true,Bool.and_true,tn]
  cases h61:s.getD i 0==61 with
  | true =>
   have hne:(s.getD i 0 != 61)=false:=by rw [bne,h61]; rfl
   rw [hne]
   show qdg out (k:Int)=qdg (out++[]) _
   rw [List.append_nil]; rfl
  | false =>
   have hne:(s.getD i 0 != 61)=true:=by rw [bne,h61]; rfl
   rw [hne,cond_true,if_pos rfl,cond_false,List.filter_cons,show (z145 (s.getD i 0)).2=isB64 (s.getD i 0) from rfl]
   cases hv:isB64 (s.getD i 0) with
   | true =>
    rw [cond_true,qk (by omega),qfb j s hl d (i+1) n _ k (by omega) (by omega) (by rw [List.length_append]; show out.length+1≤_; omega) (by omega),List.append_assoc]
    rfl
   | false =>
    rw [cond_false,qk (by omega),qk (by omega),qfb j s hl d (i+1) n out (k+1) (by omega) (by omega) (by omega) (by omega)]
    simp only [Bool.not_false,if_true,List.length_cons,cond_false]
    rw [show k+1+((((s.drop (i+1)).takeWhile fun c=>c != 61).filter fun c => !(isB64 c)).length)=k+(((((s.drop (i+1)).takeWhile fun c=>c != 61).filter fun c => !(isB64 c)).length)+1) by omega]
theorem qCG:∀ (s0:List UInt8),(qrI s0=true)→∃ n,qxp n s0=qdg (z100 s0).1 (z100 s0).2:=fun s h=>⟨s.length+1,by
 have hl:=qh h
 have:=qfb (s.length+1) s hl s.length 0 (s.length+1) [] 0 (by omega) (by omega) (by simp) (Nat.le_refl 0)
 rw [List.drop_zero,List.nil_append,Nat.zero_add] at this
 exact this⟩
theorem qCH:∀ i:Fin 64,([Int.tmod (Int.fdiv (i.val:Int) (2 ^ 5)) 2,Int.tmod (Int.fdiv (i.val:Int) (2 ^ 4)) 2,Int.tmod (Int.fdiv (i.val:Int) (2 ^ 3)) 2,Int.tmod (Int.fdiv (i.val:Int) (2 ^ 2)) 2,Int.tmod (Int.fdiv (i.val:Int) (2 ^ 1)) 2,Int.tmod (Int.fdiv (i.val:Int) (2 ^ 0)) 2]:List Int)=qar (i.val:Int):=by decide +kernel
theorem qHl (k2:List UInt8→List Int→Int→Option AV) (n:Nat) (s:List UInt8) (out:List Int) (i5:Int) (v:Nat) (hv:v < 64) (ho:out.length+6≤room):qcU k2 (n+7) s out i5 (v:Int) 5=k2 s (out++qar (v:Int)) i5:=by
 have h6:=qCH ⟨v,hv⟩
 have hr:∀ (o:List Int) (y:Int),o.length+1≤room→decide (o.length+([y]:List Int).length≤room)=true:=fun o y h=>decide_eq_true h
 have step:∀ (q:Nat) (o:List Int) (k:Nat),o.length+1≤room→k < 6→qcU k2 (q+1) s o i5 (v:Int) (k:Int)=qcU k2 q s (o++[Int.tmod (Int.fdiv (v:Int) (2 ^ (min (Int.toNat (k:Int)) (IntKind.bits .i64)))) 2]) i5 (v:Int) (IntKind.wrap .i64 ((k:Int) - 1)):=fun q o k ho hk=>by
  show qfM _ _ q _ _ _ _ _=_
  unfold qfM
  rw [dT (show (0:Int)≤(k:Int) by omega),hr _ _ ho]; rfl
 have e:qcU k2 (n+7) s out i5 (v:Int) ((5:Nat):Int)=k2 s (out++qar (v:Int)) i5:=by
  rw [step (n+6) _ 5 (by omega) (by omega),show IntKind.wrap .i64 (((5:Nat):Int) - 1)=((4:Nat):Int) from rfl,step (n+5) _ 4 (by simp; omega) (by omega),show IntKind.wrap .i64 (((4:Nat):Int) - 1)=((3:Nat):Int) from rfl,
   step (n+4) _ 3 (by simp; omega) (by omega),show IntKind.wrap .i64 (((3:Nat):Int) - 1)=((2:Nat):Int) from rfl,step (n+3) _ 2 (by simp; omega) (by omega),show IntKind.wrap .i64 (((2:Nat):Int) - 1)=((1:Nat):Int) from rfl,
   step (n+2) _ 1 (by simp; omega) (by omega),show IntKind.wrap .i64 (((1:Nat):Int) - 1)=((0:Nat):Int) from rfl,step (n+1) _ 0 (by simp; omega) (by omega)]
  show k2 s _ i5=_
  rw [List.append_assoc,List.append_assoc,List.append_assoc,List.append_assoc,List.append_assoc,← h6]
  rfl
 exact e
theorem qix (j:Nat) (s:List UInt8) (hl:s.length≤1048576):∀ (d i n:Nat) (out:List Int),i+d=s.length→d+8 < n→out.length≤6*i →
 qdW qaI (qbw j) n s out (i:Nat)=bif (s.drop i).all isB64 then qaI (out++bitsB (s.drop i)) true else qaI [] false
 | d,i,0,out,hi,hn,_=>by omega
 | 0,i,n+1,out,hi,hn,_=>by
  obtain rfl:i=s.length:=by omega
  show qbv _ _ _ n _ _ _=_
  unfold qbv
  rw [dF (by omega),cond_false,List.drop_length]
  show qaI out true=qaI (out++[]) true
  rw [List.append_nil]
 | d+1,i,n+1,out,hi,hn,ho=>by
  show qbv _ _ (qdW qaI (qbw j) n) n _ _ _=_
  unfold qbv
  have hlt:i < s.length:=by omega
  rw [qao hlt,List.all_cons]
  simp (disch:=omega) only [dT,cond_true,Bool.and_true,tn]
  rw [show (z145 (s.getD i 0)).2=isB64 (s.getD i 0) from rfl]
  cases hv:isB64 (s.getD i 0) with
  | false=>rfl
  | true =>
   obtain ⟨v,hv1,hv2⟩:=qMn (s.getD i 0)
   obtain ⟨n',rfl⟩:∃ n',n=n'+7:=⟨n - 7,by omega⟩
   rw [Bool.not_true,cond_false,Bool.true_and,show (z145 (s.getD i 0)).1=(v:Int) from hv1,qHl _ _ _ _ _ v hv2 (by unfold room; omega)]
   show qdW qaI (qbw j) (n'+7) s (out++qar (v:Int)) (IntKind.wrap .i64 (((i:Nat):Int)+1))=_
   rw [qk (by omega),qix j s hl d (i+1) (n'+7) _ (by omega) (by omega) (by rw [List.length_append]; show out.length+6≤_; omega),List.append_assoc]
   have e:bitsB (s.getD i 0 :: s.drop (i+1))=qar (v:Int)++bitsB (s.drop (i+1)):=by rw [← hv1]; rfl
   rw [e]
theorem qCI:∀ (s0:List UInt8),(qiD s0=true)→∃ n,qxq n s0=qaI (z101 s0).1 (z101 s0).2:=fun s h=>⟨s.length+9,by
 have hl:=qh h
 have:=qix (s.length+9) s hl s.length 0 (s.length+9) [] (by omega) (by omega) (by simp)
 rw [List.drop_zero,List.nil_append] at this
 refine this.trans ?_
 unfold z101
 cases s.all isB64 <;> rfl⟩
theorem qiy (j:Nat) (l:List Int) (hl:l.length≤16777216):∀ (d i n:Nat) (out:List UInt8),8*i≤l.length→l.length / 8=i+d→d < n→out=octs i l→qhj (qct j) n l out ((8*i:Nat):Int)=qof (z102 l).1 (z102 l).2
 | d,i,0,out,h8,hi,hn,_=>by omega
 | 0,i,n+1,out,h8,hi,hn,ho=>by
  show qcs _ _ n _ _ _=_
  unfold qcs
  rw [show IntKind.wrap .i64 (((8*i:Nat):Int)+8)=((8*i+8:Nat):Int) by rw [IntWalk.i64_in _ (by omega)]; omega,dF (by omega),cond_false]
  unfold qct
  have hok:qel (List.drop (Int.toNat ((8*i:Nat):Int)) (List.take (Int.toNat ((l.length:Nat):Int)) l))=true:=by
   unfold qel
   rw [tn,tn,List.take_length]
   exact decide_eq_true (by rw [List.length_drop]; omega)
  rw [hok,tn,tn,List.take_length]
  simp (disch:=omega) only [dT,cond_true,Bool.and_true]
  unfold z102
  rw [hi,ho,Nat.add_zero,Nat.mul_comm i 8]
 | d+1,i,n+1,out,h8,hi,hn,ho=>by
  show qcs _ _ n _ _ _=_
  unfold qcs
  have hol:out.length=i:=by rw [ho,qoM]
  have e8:IntKind.wrap .i64 (((8*i:Nat):Int)+8)=((8*(i+1):Nat):Int):=by rw [IntWalk.i64_in _ (by omega)]; omega
  rw [e8,tn,tn]
  have hok:qel (List.drop (8*i) (List.take (8*(i+1)) l))=true:=by
   unfold qel
   exact decide_eq_true (by rw [List.length_drop,List.length_take]; omega)
  have hr:∀ y:UInt8,out.length+([y]:List UInt8).length≤room:=fun y=>by show out.length+1≤room; unfold room; omega
  rw [hok]
  simp (disch:=omega) only [dT,cond_true,Bool.and_true]
  rw [dT (hr _),cond_true]
  refine qiy j l hl d (i+1) n _ (by omega) (by omega) (by omega) ?_
  have e:octs (i+1) l=octs i l++[oct8 (z136 ((l.drop (8*i)).take 8))]:=by
   have h1:l=l.take (8*i)++l.drop (8*i):=(List.take_append_drop _ _).symm
   have hlen:(l.take (8*i)).length=8*i:=by rw [List.length_take]; omega
   have h2:octs (i+1) l=octs (i+1) (l.take (8*i)++l.drop (8*i)):=by rw [← h1]
   have h3:octs i l=octs (i+0) (l.take (8*i)++l.drop (8*i)):=by rw [← h1]; rfl
   rw [h2,h3,qkK i 1 _ _ hlen,qkK i 0 _ _ hlen]
   simp [octs]
  rw [e,ho,List.drop_take,show 8*(i+1) - 8*i=8 by omega]
  rfl
theorem qCJ:∀ (l0:List Int),(qiE l0=true)→∃ n,qxs n l0=qof (z102 l0).1 (z102 l0).2:=fun l h=>⟨l.length / 8+1,by
 have hl:l.length≤16777216:=of_decide_eq_true h
 exact qiy (l.length / 8+1) l hl (l.length / 8) 0 (l.length / 8+1) [] (by omega) (by omega) (by omega) rfl⟩
theorem qHm:∀ (s0:List UInt8),(qDL s0=true)→∃ n,qGh n s0=qEm (z55 s0).1 (z55 s0).2:=fun s h=>⟨0,by
 have hl:=qh h
 have hd:=qzd s
 have hall:(digB s).all isB64=true:=List.all_eq_true.2 fun c hc=>(List.mem_filter.1 hc).2
 have eD:(z100 s).1=digB s:=rfl
 have eV:(z101 (digB s)).1=bitsB (digB s):=by unfold z101; rw [hall]; rfl
 unfold qGh
 rw [show qrI s=true from h,eD,show qiD (digB s)=true from qr (by omega),eV,show qiE (bitsB (digB s))=true from decide_eq_true (by rw [qfR]; omega)]
 rfl⟩
theorem qmk (m:Nat) (s:List UInt8) (hl:s.length≤1048576):∀ (n i:Nat) (out:List UInt8) (k:Nat),s.length - i < n→out.length+(qwS 0 (s.drop i)).1.length≤1048576→k+(qwS 0 (s.drop i)).2≤1048576 →
 qoh (qhl m) n s out (k:Int) (i:Int)=qma (out++(qwS 0 (s.drop i)).1) ((k+(qwS 0 (s.drop i)).2:Nat):Int)
 | 0,i,out,k,hn,_,_=>by omega
 | n+1,i,out,k,hn,ho,hk=>by
  show qky _ _ n _ _ _ _=_
  unfold qky
  by_cases hlt:i < s.length
  ·have hst:qwS 0 (s.drop i)=bif (z189 s (i:Int) 61).2 then ((z189 s (i:Int) 61).1 :: (qwS 0 (s.drop (i+3))).1,(qwS 0 (s.drop (i+3))).2)
    else ((bif s.getD i 0==95 then 32 else s.getD i 0) :: (qwS 0 (s.drop (i+1))).1,(qwS 0 (s.drop (i+1))).2+(bif s.getD i 0==61 then 1 else 0)):=by
    rw [qyJ,qao hlt]
    show (bif (z189 (s.getD i 0 :: s.drop (i+1)) 0 61).2 then _ else _)=_
    rw [qyK 2,List.drop_drop,show i+1+2=i+3 by omega]
   have hok:qrs s (i:Int) 61=true:=qr hl
   have eT:z103 s (i:Int) 61=z189 s (i:Int) 61:=rfl
   rw [hok,eT]
   have hroom:∀ y:UInt8,out.length+1≤1048576→decide (out.length+([y]:List UInt8).length≤room)=true:=fun y hy=>by refine decide_eq_true ?_; show out.length+1≤room; unfold room; omega
   rw [dT (show ((i:Nat):Int) < ((s.length:Nat):Int) by omega),dT (show (0:Int)≤((i:Nat):Int) by omega),tn]
   simp only [cond_true,Bool.and_true]
   cases ht:(z189 s (i:Int) 61).2 with
   | true =>
    rw [ht,cond_true] at hst
    rw [hst] at ho hk ⊢
    simp only [List.length_cons] at ho hk
    rw [cond_true,hroom _ (by omega),cond_true,show IntKind.wrap .i64 (IntKind.wrap .i64 ((i:Int)+2)+1)=((i+3:Nat):Int) by rw [IntWalk.i64_in ((i:Int)+2) (by omega),IntWalk.i64_in _ (by omega)]; omega,
     qmk m s hl n (i+3) _ k (by omega) (by rw [List.length_append]; show out.length+1+_≤_; omega) hk,List.append_assoc]
    rfl
   | false =>
    rw [ht,cond_false] at hst
    rw [cond_false]
    cases h95:s.getD i 0==95 with
    | true =>
     have h61:(s.getD i 0==61)=false:=by rw [beq_iff_eq.1 h95]; rfl
     rw [h95,h61,cond_true,cond_false,Nat.add_zero] at hst
     rw [hst] at ho hk ⊢
     simp only [List.length_cons] at ho hk
     rw [cond_true,hroom 32 (by omega),cond_true,qk (by omega),qmk m s hl n (i+1) _ k (by omega) (by rw [List.length_append]; show out.length+1+_≤_; omega) hk,List.append_assoc]
     rfl
    | false =>
     rw [cond_false]
     cases h61:s.getD i 0==61 with
     | true =>
      rw [h95,h61,cond_false,cond_true,beq_iff_eq.1 h61] at hst
      rw [hst] at ho hk ⊢
      simp only [List.length_cons] at ho hk
      rw [cond_true,hroom 61 (by omega),cond_true,qk (by omega),qk (by omega),
       qmk m s hl n (i+1) _ (k+1) (by omega) (by rw [List.length_append]; show out.length+1+_≤_; omega) (by omega),List.append_assoc]
      rw [show k+1+(qwS 0 (s.drop (i+1))).2=k+((qwS 0 (s.drop (i+1))).2+1) by omega]
      rfl
     | false =>
      rw [h95,h61,cond_false,cond_false,Nat.add_zero] at hst
      rw [hst] at ho hk ⊢
      simp only [List.length_cons] at ho hk
      rw [cond_false,hroom _ (by omega),cond_true,qk (by omega),qmk m s hl n (i+1) _ k (by omega) (by rw [List.length_append]; show out.length+1+_≤_; omega) hk,List.append_assoc]
      rfl
  ·rw [dF (by omega),cond_false,List.drop_eq_nil_of_le (by omega)]
   show qma out (k:Int)=qma (out++[]) _
   rw [List.append_nil]; rfl
theorem qHn:∀ (s0:List UInt8),(qtv s0=true)→∃ n,qGi n s0=qma (z56 s0).1 (z56 s0).2:=fun s h=>⟨s.length+1,by
 have hl:=qh h
 have h1:=qmt s 0
 have h2:=qkE s 0
 have:=qmk (s.length+1) s hl (s.length+1) 0 [] 0 (by omega) (by rw [List.drop_zero]; show 0+_≤_; omega) (by rw [List.drop_zero]; omega)
 rw [List.drop_zero,List.nil_append,Nat.zero_add] at this
 exact this⟩
theorem qiz (j:Nat) (s:List UInt8) (hl:s.length≤1048576):∀ (d i n:Nat),i+d=s.length→d < n →
 qoi qfp (qdi j) n s (i:Nat)=bif (s.drop i).all (fun c=>z129 c 4&&c != 63) then qdi j s else qfp 3
 | d,i,0,hi,hn=>by omega
 | 0,i,n+1,hi,hn=>by
  obtain rfl:i=s.length:=by omega
  show qeQ _ _ _ n _ _=_
  unfold qeQ
  rw [dF (by omega),cond_false,List.drop_length]; rfl
 | d+1,i,n+1,hi,hn=>by
  show qeQ _ _ _ n _ _=_
  unfold qeQ
  have hlt:i < s.length:=by omega
  have ih:=qiz j s hl d (i+1) n (by omega) (by omega)
  rw [qao hlt,List.all_cons]
  simp (disch:=omega) only [dT,cond_true,Bool.and_true,tn,qk]
  rw [ih,show z82 (s.getD i 0) 4=z129 (s.getD i 0) 4 from rfl]
  cases z129 (s.getD i 0) 4
  ·rfl
  ·cases h:s.getD i 0==63 with
   | true=>rw [show (s.getD i 0 != 63)=false by rw [bne,h]; rfl]; rfl
   | false=>rw [show (s.getD i 0 != 63)=true by rw [bne,h]; rfl]; rfl
theorem qHo (s:List UInt8):s.all (fun c=>z129 c 4&&c != 63)=(s.all (fun c=>z129 c 4) && !(s.contains 63)):=by
 induction s with
 | nil=>rfl
 | cons c r ih =>
  rw [List.all_cons,List.all_cons,ih,List.contains_cons]
  cases z129 c 4
  ·rfl
  ·cases h:(63:UInt8)==c with
   | true =>
    have:(c != 63)=false:=by rw [beq_iff_eq] at h; subst h; rfl
    rw [this]; simp
   | false =>
    have:(c != 63)=true:=by rw [beq_eq_false_iff_ne] at h; simpa using fun e=>h e.symm
    rw [this]; simp
theorem qHp:∀ (s0:List UInt8),(qDM s0=true)→∃ n,qGl n s0=qfp (z62 s0):=fun s h=>⟨s.length+1,by
 have hl:=qh h
 have:=qiz (s.length+1) s hl s.length 0 (s.length+1) (by omega) (by omega)
 rw [List.drop_zero,qHo] at this
 refine this.trans ?_
 unfold qdi
 show _=qfp (bif !(s.all fun c=>z129 c 4)||(s.contains 63||decide (0 < (qwS 0 s).2)) then 3 else 0)
 rw [show qtv s=true from h,show decide ((0:Int) < (z56 s).2)=decide (0 < (qwS 0 s).2) from by
  show decide ((0:Int) < ((qwS 0 s).2:Int))=_
  by_cases h:0 < (qwS 0 s).2
  ·rw [dT (by omega),decide_eq_true h]
  ·rw [dF (by omega),decide_eq_false h]]
 cases (s.all fun c=>z129 c 4) <;> cases s.contains 63 <;> cases decide (0 < (qwS 0 s).2) <;> rfl⟩
theorem qCK {s:List UInt8} {e:Nat} (he:e < s.length):(s.take (e+1)).getLast? = some (s.getD e 0)∧(s.take (e+1)).dropLast=s.take e:=by
 rw [← qCv he]
 exact ⟨by simp,by simp⟩
theorem qyQ (j:Nat) (s:List UInt8) (hl:s.length≤1048576) (n e k:Nat) (he:e≤s.length) (hk:k < 2):qhW (qaJ j) (n+1) s (e:Int) (k:Int) =
 bif (s.take e).getLast? == some 61 then qhW (qaJ j) n s ((e - 1:Nat):Int) ((k+1:Nat):Int) else qaJ j s (e:Int):=by
 show qeP _ _ n _ _ _=_
 unfold qeP
 rw [dT (show (k:Int) < 2 by omega),cond_true]
 match e,he with
 | 0,_=>rfl
 | e+1,he =>
  have h1:=qCK (s:=s) (e:=e) (by omega)
  rw [dT (show (0:Int) < ((e+1:Nat):Int) by omega),cond_true,show IntKind.wrap .i64 (((e+1:Nat):Int) - 1)=((e:Nat):Int) by rw [IntWalk.i64_in _ (by omega)]; omega,tn,h1.1,
   dT (show (0:Int)≤(e:Int) by omega),dT (show (e:Int) < ((s.length:Nat):Int) by omega),qk (by omega)]
  show (bif s.getD e 0==61 then _ else _)=bif (some (s.getD e 0)==some 61) then _ else _
  rw [show (some (s.getD e 0)==some (61:UInt8))=(s.getD e 0==61) from rfl]
  cases s.getD e 0==61 <;> rfl
theorem qHq (j:Nat) (s:List UInt8) (hl:s.length≤1048576):∃ e:Nat,qhW (qaJ j) 3 s ((s.length:Nat):Int) 0=qaJ j s (e:Int)∧e≤s.length∧s.take e=bodyB s:=by
 have h0:=qyQ j s hl 2 s.length 0 (Nat.le_refl _) (by omega)
 rw [List.take_length] at h0
 rw [show ((0:Nat):Int)=0 from rfl] at h0
 unfold bodyB
 cases hg:s.getLast? == some 61 with
 | false =>
  rw [hg] at h0
  refine ⟨s.length,h0,Nat.le_refl _,?_⟩
  rw [List.take_length]
  simp only [cond_false]
  rw [hg]; rfl
 | true =>
  rw [hg,cond_true] at h0
  have hne:s≠[]:=by rintro rfl; cases hg
  have hpos:=List.length_pos_iff.2 hne
  have hdl:s.dropLast=s.take (s.length - 1):=by rw [List.dropLast_eq_take]
  have h1:=qyQ j s hl 1 (s.length - 1) 1 (by omega) (by omega)
  rw [← hdl] at h1
  rw [h1] at h0
  have hlen:(s.dropLast.length != s.length)=true:=by rw [bne_iff_ne,List.length_dropLast]; omega
  simp only [cond_true]
  rw [hlen,Bool.and_true]
  cases hg2:s.dropLast.getLast? == some 61 with
  | false =>
   rw [hg2] at h0
   exact ⟨s.length - 1,h0,by omega,hdl.symm⟩
  | true =>
   rw [hg2,cond_true] at h0
   refine ⟨s.length - 1 - 1,?_,by omega,?_⟩
   ·rw [h0]
    show qeP _ _ 0 _ _ _=_
    unfold qeP
    rw [dF (show ¬ ((1+1:Nat):Int) < 2 by omega),cond_false]
   ·rw [cond_true,List.dropLast_eq_take,hdl,List.take_take,List.length_take]
    congr 1
    omega
theorem qHr:∀ (s0:List UInt8),(qDK s0=true)→∃ n,qGk n s0=qip (z61 s0).1 (z61 s0).2:=fun s h=>⟨3,by
 have hl:=qh h
 obtain ⟨e,h1,h2,h3⟩:=qHq 3 s hl
 refine (show _=qhW (qaJ 3) 3 s ((s.length:Nat):Int) 0 from rfl).trans (h1.trans ?_)
 unfold qaJ
 have hb:=qHe s
 rw [tn,tn,List.drop_zero,h3,tmod4,show qiD (bodyB s)=true from qr (by omega)]
 simp (disch:=omega) only [dT,cond_true,Bool.and_true]
 show _=qip (z108 s).1 (z108 s).2
 unfold z101 z108
 cases (bodyB s).all isB64 with
 | false=>rfl
 | true =>
  simp only [cond_true,Bool.not_true,cond_false]
  rw [show qiE (bitsB (bodyB s))=true from decide_eq_true (by rw [qfR]; omega)]
  cases (s.length % 4 != 0)
  ·cases (z102 (bitsB (bodyB s))).2 <;> rfl
  ·rfl⟩
theorem qfc (j:Nat) (s:List UInt8) (hl:s.length≤1048576):∀ (d n e:Nat),d≤s.length→d < n→e=d+((s.drop d).takeWhile fun c=>c != 42).length →
 qhb (qbt j) n s (e:Int) ((d:Int) - 1)=qbt j s (((s.takeWhile fun c=>c != 42).length:Nat):Int)
 | d,0,e,hd,hn,_=>by omega
 | 0,n+1,e,hd,hn,he=>by
  show qcl _ _ n _ _ _=_
  unfold qcl
  rw [show decide ((0:Int)≤((0:Nat):Int) - 1)=false from rfl,cond_false,he,List.drop_zero,Nat.zero_add]
 | d+1,n+1,e,hd,hn,he=>by
  show qcl _ _ n _ _ _=_
  unfold qcl
  have hlt:d < s.length:=by omega
  rw [show ((d+1:Nat):Int) - 1=((d:Nat):Int) by omega,tn]
  simp (disch:=omega) only [dT,cond_true,Bool.and_true]
  rw [show IntKind.wrap .i64 ((d:Int) - 1)=(d:Int) - 1 from IntWalk.i64_in _ (by omega)]
  have hdc:=qao hlt
  cases h:s.getD d 0==42 with
  | true =>
   have hne:(s.getD d 0 != 42)=false:=by rw [bne,h]; rfl
   rw [cond_true]
   exact qfc j s hl d n d (by omega) (by omega) (by rw [hdc,List.takeWhile_cons,hne]; rfl)
  | false =>
   have hne:(s.getD d 0 != 42)=true:=by rw [bne,h]; rfl
   rw [cond_false]
   exact qfc j s hl d n e (by omega) (by omega) (by rw [hdc,List.takeWhile_cons,hne,if_pos rfl,List.length_cons,he]; omega)
theorem qml (p:UInt8→Bool):∀ s:List UInt8,s.take (s.takeWhile p).length=s.takeWhile p
 | []=>rfl
 | x :: r=>by
  rw [List.takeWhile_cons]
  cases p x with
  | false=>rfl
  | true=>simp only [if_true,List.length_cons,List.take_succ_cons]; rw [qml p r]
theorem qCL:∀ (s0:List UInt8),(qrH s0=true)→∃ n,qqC n s0=qxl (z105 s0):=fun s h=>⟨s.length+1,by
 have hl:=qh h
 have hw:=qaV (fun c:UInt8=>c != 42) s
 unfold qqC
 rw [show IntKind.wrap .i64 (((s.length:Nat):Int) - 1)=((s.length:Nat):Int) - 1 from IntWalk.i64_in _ (by omega)]
 refine (qfc (s.length+1) s hl s.length (s.length+1) s.length (Nat.le_refl _) (by omega) (by rw [List.drop_length]; rfl)).trans ?_
 unfold qbt
 rw [tn,tn,List.drop_zero,qml,show qrM (s.takeWhile fun c=>c != 42)=true from qr (by omega)]
 simp (disch:=omega) only [dT,cond_true,Bool.and_true]
 rfl⟩
theorem qmm (ret:Int→Int→Option AV) (k2:List UInt8→Int→Option AV) (b:List UInt8) (n5:Int) (l:List (List UInt8)) (hl:l.length≤100):∀ (d i n:Nat),i+d=l.length→d < n →
 qod ret k2 n b n5 l (i:Nat)=bif (l.drop i).any (fun x=>x==b) then ret n5 0 else k2 b n5
 | d,i,0,hi,hn=>by omega
 | 0,i,n+1,hi,hn=>by
  obtain rfl:i=l.length:=by omega
  show qeJ _ _ _ n _ _ _ _=_
  unfold qeJ
  rw [dF (by omega),cond_false,List.drop_length]; rfl
 | d+1,i,n+1,hi,hn=>by
  show qeJ _ _ _ n _ _ _ _=_
  unfold qeJ
  have hlt:i < l.length:=by omega
  have ih:=qmm ret k2 b n5 l hl d (i+1) n (by omega) (by omega)
  have e:l.drop i=l.getD i [] :: l.drop (i+1):=by
   rw [List.drop_eq_getElem_cons hlt,List.getD_eq_getElem?_getD,List.getElem?_eq_getElem hlt]; rfl
  rw [e,List.any_cons]
  simp (disch:=omega) only [dT,cond_true,Bool.and_true,tn,qk]
  rw [ih]
  cases (l.getD i []==b) <;> rfl
theorem qbk (b:List UInt8) (n:Int):∀ (l:List (List UInt8)) (r:List (List UInt8×Int)),qmu b (l.map (fun s=>(s,n))++r)=bif l.any (fun x=>x==b) then some n else qmu b r
 | [],r=>rfl
 | x :: l,r=>by
  show (bif b==x then some n else qmu b (l.map (fun s=>(s,n))++r))=bif (x==b)||l.any (fun x=>x==b) then some n else qmu b r
  rw [qbk b n l r]
  have hc:(b==x)=(x==b):=by
   cases h:x==b with
   | true=>rw [beq_iff_eq] at h ⊢; exact h.symm
   | false=>rw [beq_eq_false_iff_ne] at h ⊢; exact fun e=>h e.symm
  rw [hc]
  cases (x==b) <;> rfl
theorem qCM (n:Int):(z133 n).length≤4:=by
 unfold z133
 cases n==1
 ·cases n==2
  ·cases n==3
   ·cases n==4
    ·cases n==5
     ·exact Nat.zero_le _
     ·exact Nat.le_of_ble_eq_true rfl
    ·exact Nat.le_of_ble_eq_true rfl
   ·exact Nat.le_of_ble_eq_true rfl
  ·exact Nat.le_of_ble_eq_true rfl
 ·exact Nat.le_of_ble_eq_true rfl
theorem qHs:∀ (s0:List UInt8),(qtu s0=true)→∃ n,qBL n s0=qaf (z57 s0).1 (z57 s0).2:=fun s h=>⟨20,by
 have hl:=qh h
 have hb:=qMr s
 unfold qBL
 rw [show qrH s=true from h,show qrJ (z105 s)=true from qr (by show (z107 s).length≤_; omega)]
 show qhe qaf (qbu 20) 20 (z79 (z107 s)) 1=qaf (z58 s).1 (z58 s).2
 have step:∀ (n:Nat) (v:Nat) (b:List UInt8),v≤5→5 < n→qhe qaf (qbu 20) (n+1) b (v:Int)=bif (z133 (v:Int)).any (fun x=>x==b) then qaf (v:Int) 0 else qhe qaf (qbu 20) n b ((v+1:Nat):Int):=fun n v b hv hn=>by
  show qhd _ _ _ n _ _=_
  unfold qhd
  have hnl:=qCM (v:Int)
  rw [dT (show (v:Int)≤5 by omega),cond_true]
  refine (qmm _ _ b (v:Int) (z133 (v:Int)) (by omega) (z133 (v:Int)).length 0 n (by omega) (by omega)).trans ?_
  rw [List.drop_zero]
  unfold qhc
  rw [qk (by omega)]
 have e6:∀ (n:Nat) (b:List UInt8),qhe qaf (qbu 20) (n+1) b ((6:Nat):Int)=qaf 0 10:=fun n b=>rfl
 have hL:qhe qaf (qbu 20) 20 (z79 (z107 s)) ((1:Nat):Int)=_:=step 19 1 _ (by omega) (by omega)
 rw [step 18 2 _ (by omega) (by omega),step 17 3 _ (by omega) (by omega),step 16 4 _ (by omega) (by omega),step 15 5 _ (by omega) (by omega),e6] at hL
 refine hL.trans ?_
 have hR:qmu (z79 (z107 s)) z106=qmu (z79 (z107 s)) ((z133 1).map (fun s=>(s,(1:Int)))++((z133 2).map (fun s=>(s,(2:Int)))++((z133 3).map (fun s=>(s,(3:Int)))++((z133 4).map (fun s=>(s,(4:Int)))++((z133 5).map (fun s=>(s,(5:Int)))++[]))))):=rfl
 unfold z58
 rw [hR,qbk,qbk,qbk,qbk,qbk]
 generalize z79 (z107 s)=b
 show (bif (z133 1).any (fun x=>x==b) then qaf 1 0 else bif (z133 2).any (fun x=>x==b) then qaf 2 0 else bif (z133 3).any (fun x=>x==b) then qaf 3 0 else bif (z133 4).any (fun x=>x==b) then qaf 4 0 else bif (z133 5).any (fun x=>x==b) then qaf 5 0 else qaf 0 10)=_
 cases (z133 1).any (fun x=>x==b)
 ·cases (z133 2).any (fun x=>x==b)
  ·cases (z133 3).any (fun x=>x==b)
   ·cases (z133 4).any (fun x=>x==b)
    ·cases (z133 5).any (fun x=>x==b) <;> rfl
    ·rfl
   ·rfl
  ·rfl
 ·rfl⟩
theorem qej (s:List UInt8):(z11 s).1.1.length≤s.length:=by
 have hs:=qfS 63 s []
 unfold z11
 generalize cutC 63 [] s=l at hs ⊢
 unfold qmw
 split
 ·rename_i a b c d e
  simp only [List.map_cons,List.map_nil,List.sum_cons,List.sum_nil,List.length_nil] at hs
  cases decide (a=[61])&&decide (e=[61])
  ·exact Nat.zero_le _
  ·rw [cond_true]
   cases (codeL c==0)||(!(fullB b 64) || !(fullB d 4))
   ·cases decide (75 < s.length)
    ·show b.length≤_; omega
    ·exact Nat.zero_le _
   ·exact Nat.zero_le _
 ·exact Nat.zero_le _
theorem qHt:∀ (s0:List UInt8),(qhM s0=true)→∃ n,qGd n s0=qqD (z23 s0):=fun s h=>⟨0,by
 have hl:=qh h
 have h1:=qej s
 unfold qGd z23 z22 csOf
 rw [show qmx s=true from h,show z12 s=z11 s from rfl,show qtu (z11 s).1.1=true from qr (by omega),show z57 (z11 s).1.1=z58 (z11 s).1.1 from rfl]
 cases ((z11 s).2 != 0) <;> cases ((z58 (z11 s).1.1).2 != 0) <;> rfl⟩
theorem qHu:∀ (s0:List UInt8),(qDP s0=true)→∃ n,qGj n s0=qqJ (z20 s0).1 (z20 s0).2:=fun s h=>⟨0,by
 have hl:=qh h
 have h2:=qrr s
 have h3:=qze (z11 s).1.2.2.1
 have h4:=qmt (z11 s).1.2.2.1 0
 unfold qGj z20 z19
 rw [show qmx s=true from h,show z12 s=z11 s from rfl,show qDL (z11 s).1.2.2.1=true from qr (by omega),show qtv (z11 s).1.2.2.1=true from qr (by omega),show qhM s=true from h,
  show qtt (z23 s) (z55 (z11 s).1.2.2.1).1=true from qr (by show (z98 _).length≤_; omega),show qtt (z23 s) (z56 (z11 s).1.2.2.1).1=true from qr (by show (qwS 0 _).1.length≤_; omega)]
 cases hp:((z11 s).2 != 0) with
 | true=>rfl
 | false =>
  have hc:z23 s=csOf (z11 s).1:=by
   show z22 s=_
   unfold z22
   rw [hp]; rfl
  rw [hc]
  unfold octOf
  cases ((z11 s).1.2.1==1) <;> rfl⟩
theorem qHv:∀ (s0:List UInt8),(qDO s0=true)→∃ n,qGm n s0=qmb (z25 s0):=fun s h=>⟨0,by
 have hl:=qh h
 have h1:=qej s
 have h2:=qrr s
 unfold qGm z25 z24
 rw [show qmx s=true from h,show z12 s=z11 s from rfl,show qtu (z11 s).1.1=true from qr (by omega),show z57 (z11 s).1.1=z58 (z11 s).1.1 from rfl,
  show qDK (z11 s).1.2.2.1=true from qr (by omega),show qDM (z11 s).1.2.2.1=true from qr (by omega)]
 have hb:((z11 s).2 != 0) = !((z11 s).2==0):=rfl
 have hb2:((z58 (z11 s).1.1).2 != 0) = !((z58 (z11 s).1.1).2==0):=rfl
 rw [hb,hb2]
 cases ((z11 s).2==0) <;> cases ((z11 s).1.2.1==1) <;> cases ((z58 (z11 s).1.1).2==0) <;> rfl⟩
theorem qmn (cs:Int):(z89 cs).length≤20:=by
 unfold z89 z133
 cases cs==1
 ·cases cs==2
  ·cases cs==3
   ·cases cs==4
    ·cases cs==5
     ·exact Nat.zero_le _
     ·exact Nat.le_of_ble_eq_true rfl
    ·exact Nat.le_of_ble_eq_true rfl
   ·exact Nat.le_of_ble_eq_true rfl
  ·exact Nat.le_of_ble_eq_true rfl
 ·exact Nat.le_of_ble_eq_true rfl
theorem qtp (c:Int):(z45 c).length≤1:=by
 unfold z45
 cases c==1
 ·cases c==2
  ·exact Nat.zero_le _
  ·exact Nat.le_refl _
 ·exact Nat.le_refl _
theorem qyR (cs c:Int):(z48 cs c).length≤25:=by
 have h1:=qmn cs
 have h2:=qtp c
 unfold z48
 simp only [List.length_append,List.length_cons,List.length_nil]
 omega
theorem qHw (s:List UInt8):(z47 s).length≤4*s.length+8:=by
 obtain ⟨k,hk,e,_⟩:=qcM s
 have h6:=(qaU s).2.2.2
 have:(z47 s).length=(z90 s).length+k:=by rw [show z47 s=z90 s++List.replicate k 61 from e,List.length_append,List.length_replicate]
 unfold qU at h6
 omega
theorem qyS:∀ s:List UInt8,(z50 s).length≤3*s.length
 | []=>Nat.le_refl _
 | c :: r=>by
  have h1:=qyS r
  have h2:=(qCp c).1
  show (z91 c++z50 r).length≤_
  rw [List.length_append,qkD,List.length_cons]; omega
theorem isE (s:List UInt8):(((s.length:Nat):Int)==0)=s.isEmpty:=by
 cases s with
 | nil=>rfl
 | cons x r=>simp only [List.isEmpty_cons,List.length_cons]; rw [beq_eq_false_iff_ne]; omega
theorem i75 (l:List UInt8):decide ((75:Int) < ((l.length:Nat):Int))=decide (75 < l.length):=by
 by_cases h:75 < l.length
 ·rw [dT (by omega),decide_eq_true h]
 ·rw [dF (by omega),decide_eq_false h]
theorem qHx:∀ (charset0:Int) (code1:Int) (s2:List UInt8),(qDQ charset0 code1 s2=true)→∃ n,qGz n charset0 code1 s2=qfq (z15 charset0 code1 s2).1 (z15 charset0 code1 s2).2:=fun cs code s h=>⟨0,by
 have hl:s.length≤262144:=of_decide_eq_true h
 have h1:=qyR cs code
 have h2:=qHw s
 have h3:(z46 s).length≤3*s.length:=qyS s
 have hroom:room ≥ 4000000:=by unfold room; omega
 unfold qGz z15
 rw [show qDN s=true from decide_eq_true hl,show qHL s=true from qr (by omega),isE,i75,i75]
 rw [decide_eq_true (show (z48 cs code).length≤room by omega),decide_eq_true (show (z48 cs code).length+(z47 s).length≤room by omega),decide_eq_true (show (z48 cs code).length+(z46 s).length≤room by omega),
  decide_eq_true (show ((z48 cs code)++(z47 s)).length+([63,61]:List UInt8).length≤room by rw [List.length_append]; simp only [List.length_cons,List.length_nil]; omega),
  decide_eq_true (show ((z48 cs code)++(z46 s)).length+([63,61]:List UInt8).length≤room by rw [List.length_append]; simp only [List.length_cons,List.length_nil]; omega)]
 cases z44 cs
 ·rfl
 ·cases (z45 code==[])
  ·cases s.isEmpty
   ·cases (code==1)
    ·simp only [cond_true,cond_false,Bool.not_true,Bool.or_self,Bool.and_true]
     cases decide (75 < (z48 cs code++z46 s++[63,61]).length) <;> rfl
    ·simp only [cond_true,cond_false,Bool.not_true,Bool.or_self,Bool.and_true]
     cases decide (75 < (z48 cs code++z47 s++[63,61]).length) <;> rfl
   ·rfl
  ·rfl⟩
theorem qCN:∀ (c0:Int),∃ n,qxH n c0=qoj (z230 c0):=fun c=>⟨0,by
 unfold qxH z230
 cases decide ((55296:Int)≤c) <;> rfl⟩
theorem qCO:∀ (c0:Int),∃ n,qxI n c0=qok (z199 c0):=fun c=>⟨0,by
 unfold qxI z199
 cases decide (IntKind.wrap .u32 c≤1114111) <;> rfl⟩
theorem qCP:∀ (c0:Int),∃ n,qEt n c0=qxL (z243 c0):=fun _=>⟨0,rfl⟩
theorem qhI {p:Int→Bool} {t:List Int} {k0:Option AV} {ret:Int→Option AV} {x:Option AV} (h:x=bif qad p (t.drop 0) (0:Nat) == -1 then k0 else ret (qad p (t.drop 0) (0:Nat))) (hk:k0=ret (-1)):x=ret (qad p t 0):=by
 rw [h,List.drop_zero]
 cases e:(qad p t (0:Nat) == -1) with
 | true =>
  rw [beq_iff_eq] at e
  have e':qad p t 0 = -1:=e
  rw [e',hk]
  rfl
 | false=>rfl
theorem qCQ:∀ (s0:List Int) (v1:Int),(qfr s0 v1=true)→∃ n,qqM n s0 v1=qhm (z233 s0 v1):=fun t v h=>⟨t.length+1,by
 have hl:=qh (l:=t) h
 unfold qqM z233
 refine qhI (qcL (L:=fun n i=>qhn qhm (qea (t.length+1)) n t v ((t.length:Nat):Int) i) hl (fun n i hi=>?_) (fun n=>?_) t.length 0 (t.length+1) (by omega) (by omega)) rfl
 ·show qcw _ _ _ n _ _ _ _=_
  unfold qcw
  simp (disch:=omega) only [dT,cond_true,Bool.and_true,tn,qk]
  cases (v==t.getD i 0) <;> rfl
 ·show qcw _ _ _ n _ _ _ _=_
  unfold qcw
  rw [dF (by omega)]
  rfl⟩
theorem qCR:∀ (t:List Int),(qrt t=true)→∃ n,qqO n t=qhq (z242 t):=fun t h=>⟨t.length+1,by
 have hl:=qh (l:=t) h
 unfold qqO z242
 refine qhI (qcL (L:=fun n i=>qhr qhq (qec (t.length+1)) n t ((t.length:Nat):Int) i) hl (fun n i hi=>?_) (fun n=>?_) t.length 0 (t.length+1) (by omega) (by omega)) rfl
 ·show qcy _ _ _ n _ _ _=_
  unfold qcy
  simp (disch:=omega) only [dT,cond_true,Bool.and_true,tn,qk]
  unfold z243
  cases z199 (t.getD i 0) <;> rfl
 ·show qcy _ _ _ n _ _ _=_
  unfold qcy
  rw [dF (by omega)]
  rfl⟩
theorem qCS:∀ (t:List Int),(qrx t=true)→∃ n,qqR n t=qhv (z206 t):=fun t h=>⟨t.length+1,by
 have hl:=qh (l:=t) h
 unfold qqR z206
 refine qhI (qcL (L:=fun n i=>qhw qhv (qed (t.length+1)) n t ((t.length:Nat):Int) i) hl (fun n i hi=>?_) (fun n=>?_) t.length 0 (t.length+1) (by omega) (by omega)) rfl
 ·show qcD _ _ _ n _ _ _=_
  unfold qcD
  simp (disch:=omega) only [dT,cond_true,Bool.and_true,tn,qk]
  cases z198 (t.getD i 0) <;> rfl
 ·show qcD _ _ _ n _ _ _=_
  unfold qcD
  rw [dF (by omega)]
  rfl⟩
theorem qCT:∀ (t:List Int),(qry t=true)→∃ n,qqT n t=qhy (z208 t):=fun t h=>⟨t.length+1,by
 have hl:=qh (l:=t) h
 unfold qqT z208
 refine qhI (qcL (L:=fun n i=>qhz qhy (qee (t.length+1)) n t ((t.length:Nat):Int) i) hl (fun n i hi=>?_) (fun n=>?_) t.length 0 (t.length+1) (by omega) (by omega)) rfl
 ·show qcG _ _ _ n _ _ _=_
  unfold qcG
  simp (disch:=omega) only [dT,cond_true,Bool.and_true,tn,qk]
  cases z196 (t.getD i 0) <;> rfl
 ·show qcG _ _ _ n _ _ _=_
  unfold qcG
  rw [dF (by omega)]
  rfl⟩
theorem qCU:∀ (cs:Int) (t:List Int),(qrD cs t=true)→∃ n,qqN n cs t=qho (z202 cs t):=fun cs t h=>⟨t.length+1,by
 have hl:=qh (l:=t) h
 unfold qqN z202
 refine qhI (qcL (L:=fun n i=>qhp qho (qeb (t.length+1)) n cs t ((t.length:Nat):Int) i) hl (fun n i hi=>?_) (fun n=>?_) t.length 0 (t.length+1) (by omega) (by omega)) rfl
 ·show qcx _ _ _ n _ _ _ _=_
  unfold qcx
  simp (disch:=omega) only [dT,cond_true,Bool.and_true,tn,qk]
  cases z157 cs (t.getD i 0) <;> rfl
 ·show qcx _ _ _ n _ _ _ _=_
  unfold qcx
  rw [dF (by omega)]
  rfl⟩
theorem qCV:∀ (t0:List Int),(qru t0=true)→∃ n,qxN n t0=qxM (z231 t0):=fun t h=>⟨0,by
 unfold qxN
 rw [show qrt t=true from h]
 rfl⟩
theorem qCW:∀ (t0:List Int),(qrv t0=true)→∃ n,qxP n t0=qxO (z203 t0):=fun t h=>⟨0,by
 unfold qxP
 rw [show qru t=true from h]
 rfl⟩
theorem qCX:∀ (c0:Int),∃ n,qxR n c0=qeR (z232 c0):=fun c=>⟨0,by
 unfold qxR z232
 cases z199 c <;> cases decide (c < (128:Int)) <;> cases decide (c < (2048:Int)) <;> cases decide (c < (65536:Int)) <;> rfl⟩
theorem qmo (c:Int):z232 c=0∨z232 c=1∨z232 c=2∨z232 c=3∨z232 c=4:=by
 unfold z232
 cases z199 c <;> cases decide (c < (128:Int)) <;> cases decide (c < (2048:Int)) <;> cases decide (c < (65536:Int)) <;> simp
theorem qCY:∀ (b0:List UInt8) (c1:Int),(qrw b0 c1=true)→∃ n,qxS n b0 c1=qeS (z204 b0 c1).1 (z204 b0 c1).2:=fun b c h=>⟨0,by
 have hl:=qh (l:=b) h
 unfold qxS z204
 rw [show qzr b=true from h,show z38 b=b from rfl]
 have hr:∀ (l m:List UInt8),l.length≤1048580→m.length≤10→decide (l.length+m.length≤room)=true:=fun l m h1 h2=>dT (by unfold room; omega)
 rcases qmo c with e | e | e | e | e <;> rw [e]
 ·rfl
 ·rw [hr b _ (by omega) (by simp)]; rfl
 ·simp only [show ((2:Int)==0)=false from rfl,show ((2:Int)==4)=false from rfl,show ((2:Int)==3)=false from rfl,show ((2:Int)==2)=true from rfl,cond_false,cond_true]
  rw [hr b _ (by omega) (by simp),hr (b++_) _ (by simp; omega) (by simp)]
  simp only [List.append_assoc]; rfl
 ·simp only [show ((3:Int)==0)=false from rfl,show ((3:Int)==4)=false from rfl,show ((3:Int)==3)=true from rfl,cond_false,cond_true]
  rw [hr b _ (by omega) (by simp),hr (b++_) _ (by simp; omega) (by simp),hr (b++_++_) _ (by simp; omega) (by simp)]
  simp only [List.append_assoc]; rfl
 ·simp only [show ((4:Int)==0)=false from rfl,show ((4:Int)==4)=true from rfl,cond_false,cond_true]
  rw [hr b _ (by omega) (by simp),hr (b++_) _ (by simp; omega) (by simp),hr (b++_++_) _ (by simp; omega) (by simp),hr (b++_++_++_) _ (by simp; omega) (by simp)]
  simp only [List.append_assoc]; rfl⟩
theorem qyT {β:Type} (ret:UInt8→Bool→β) (b:Bool) (x y:UInt8×Bool):ret (bif b then x else y).1 (bif b then x else y).2=bif b then ret x.1 x.2 else ret y.1 y.2:=by cases b <;> rfl
theorem qCZ:∀ (c0:Int),∃ n,qxC n c0=qbS (z205 c0).1 (z205 c0).2:=fun c=>⟨9,by
 unfold z205
 simp only [qyT]
 rw [show (bif decide (c < 0)||decide (256≤c) then qbS (0,false).1 (0,false).2 else qbS (oct8 c,true).1 (oct8 c,true).2)=qcv 9 c from by
  unfold qcv
  cases decide (c < (0:Int)) <;> cases decide ((256:Int)≤c) <;> rfl]
 rfl⟩
theorem qDa:∀ (c0:Int),∃ n,qEq n c0=qxD (z197 c0):=fun _=>⟨0,rfl⟩
theorem qDb:∀ (c0:Int),∃ n,qxF n c0=qI (z207 c0).1 (z207 c0).2:=fun c=>⟨0,by
 unfold qxF z207
 rw [show qfr z186 c=true from by show lenOk z186=true; decide]
 have h1:decide (0≤c)=false→decide (c < 256)=true:=by simp; omega
 have h2:decide (c < 128)=true→decide (c < 256)=true:=by simp; omega
 have h3:decide (160≤c)=true→decide (0≤c)=true:=by simp; omega
 have h4:decide (160≤c)=true→decide (c < 128)=false:=by simp; omega
 have h5:decide (160≤c)=false→decide (c < 256)=true:=by simp; omega
 simp only [qyT]
 revert h1 h2 h3 h4 h5
 cases decide ((0:Int)≤c) <;> cases decide (c < (128:Int)) <;> cases decide ((160:Int)≤c) <;> cases decide (c < (256:Int)) <;> cases decide (z233 z186 c < (0:Int)) <;> intro h1 h2 h3 h4 h5 <;> first | rfl | (exfalso; revert h1 h2 h3 h4 h5; decide)⟩
theorem qDc:∀ (c0:Int),∃ n,qEs n c0=qxG (z198 c0):=fun _=>⟨0,rfl⟩
theorem qDd:∀ (c0:Int),∃ n,qEo n c0=qxA (z196 c0):=fun _=>⟨0,rfl⟩
theorem qrl (k0:List UInt8→Option AV) (t:List Int) (hl:t.length≤1048576):∀ (d i n:Nat),i+d=t.length→d < n →
 qef k0 n ((t.take i).map (fun c=>UInt8.ofNat (Int.toNat (IntKind.wrap .u8 c)))++List.replicate (t.length - i) 0) t (t.length:Nat) (i:Nat)=k0 (t.map fun c=>UInt8.ofNat (Int.toNat (IntKind.wrap .u8 c)))
 | d,i,0,hi,hn=>by omega
 | 0,i,n+1,hi,hn=>by
  show qcH k0 (qef k0 n) n _ t _ _=_
  unfold qcH
  obtain rfl:i=t.length:=by omega
  rw [decide_eq_false (by omega),cond_false,List.take_length,Nat.sub_self]
  simp
 | d+1,i,n+1,hi,hn=>by
  show qcH k0 (qef k0 n) n _ t _ _=_
  unfold qcH
  have hlt:i < t.length:=by omega
  have hl2:((t.take i).map (fun c=>UInt8.ofNat (Int.toNat (IntKind.wrap .u8 c)))++List.replicate (t.length - i) (0:UInt8)).length=t.length:=by simp; omega
  have ih:=qrl k0 t hl d (i+1) n (by omega) (by omega)
  rw [qtM,decide_eq_true hlt,cond_true,qbD,Bool.true_and,cond_true,Bool.true_and,qtM,hl2,decide_eq_true hlt,cond_true,qk (by omega),qfC,
   qGO (fun c=>UInt8.ofNat (Int.toNat (IntKind.wrap .u8 c))) t 0 i hlt 0]
  exact ih
theorem qDe:∀ (t0:List Int),(qrz t0=true)→∃ n,qqU n t0=qoo (z166 t0).1 (z166 t0).2:=fun t h=>⟨t.length+1,by
 have hl:=qh h
 unfold qqU z166
 rw [show qry t=true from h,Bool.and_true,cond_true]
 cases z208 t != -1 with
 | true=>rfl
 | false =>
  have:=qrl (qcI (t.length+1)) t hl t.length 0 (t.length+1) (by omega) (by omega)
  rw [cond_false,cond_false,qbD,decide_eq_true (Int.le_refl _),decide_eq_true (by unfold room; omega)]
  unfold qcI at this ⊢
  simpa using this⟩
theorem qal {α β:Type} (g:α→β):∀ l:List α,l.flatMap (fun x=>[g x])=l.map g
 | []=>rfl
 | x :: r=>by rw [List.flatMap_cons,qal g r]; rfl
theorem qDf:∀ (charset0:Int) (c1:Int),∃ n,qxJ n charset0 c1=qbT (z157 charset0 c1):=fun cs c=>⟨0,by
 unfold qxJ z157
 cases (cs==(1:Int)) <;> cases (cs==(2:Int)) <;> cases (cs==(3:Int)) <;> cases (cs==(4:Int)) <;> cases (cs==(5:Int)) <;> cases decide ((0:Int)≤c) <;> rfl⟩
theorem qDg:∀ (charset0:Int),∃ n,qxz n charset0=qbf (z161 charset0):=fun cs=>⟨0,by
 unfold qxz z161
 by_cases h:cs=2
 ·subst h; rfl
 ·rw [beqF h]
  cases (cs==(1:Int)) <;> cases (cs==(3:Int)) <;> cases (cs==(4:Int)) <;> cases (cs==(5:Int)) <;> rfl⟩
theorem qDh:∀ (charset0:Int) (t1:List Int),(qrE charset0 t1=true)→∃ n,qxK n charset0 t1=qol (z162 charset0 t1):=fun cs t h=>⟨0,by
 unfold qxK z162
 rw [show qrD cs t=true from h]
 cases decide (0 < z161 cs) <;> rfl⟩
theorem qDi:∀ (t0:List Int),(qrA t0=true)→∃ n,qqQ n t0=qeT (z164 t0).1 (z164 t0).2:=fun t h=>⟨t.length+1,by
 have hl:=qh (l:=t) h
 unfold qqQ z164
 have:=qfa (t:=t) (dv:=0) (f:=fun c=>[(z205 c).1]) (q:=z197) (b:=1) (k0:=qcC (t.length+1)) (R:=qeT [] 9)
  (L:=fun n out i=>qhu qeT (qcC (t.length+1)) n out t ((t.length:Nat):Int) i) (fun x=>by simp) (fun n i out hi hb=>by
   show qcB _ _ _ n _ _ _ _=_
   unfold qcB
   simp (disch:=omega) only [dT,cond_true,Bool.and_true,tn,qk,List.length_cons,List.length_nil,Nat.zero_add]
   show (bif !(z197 (t.getD i 0)) then _ else _)=_
   cases z197 (t.getD i 0) <;> rfl) (fun n out=>by
   show qcB _ _ _ n _ _ _ _=_
   unfold qcB
   rw [dF (by omega)]
   rfl) t.length 0 (t.length+1) [] (by omega) (by omega) (by unfold room; simp; omega)
 refine this.trans ?_
 rw [List.drop_zero,qal]
 cases t.all z197 <;> rfl⟩
theorem qDj:∀ (t0:List Int),(qrB t0=true)→∃ n,qqS n t0=qon (z165 t0).1 (z165 t0).2:=fun t h=>⟨t.length+1,by
 have hl:=qh (l:=t) h
 unfold qqS z165
 rw [show qrx t=true from h]
 cases decide (0≤z206 t) with
 | true=>rfl
 | false =>
  have:=qfa (t:=t) (dv:=0) (f:=fun c=>[(z207 c).1]) (q:=fun _=>true) (b:=1) (k0:=qcF (t.length+1)) (R:=none)
   (L:=fun n out i=>qhx (qcF (t.length+1)) n out t ((t.length:Nat):Int) i) (fun x=>by simp) (fun n i out hi hb=>by
    show qcE _ _ n _ _ _ _=_
    unfold qcE
    simp (disch:=omega) only [dT,cond_true,Bool.and_true,tn,qk,List.length_cons,List.length_nil,Nat.zero_add]) (fun n out=>by
    show qcE _ _ n _ _ _ _=_
    unfold qcE
    rw [dF (by omega)]
    rfl) t.length 0 (t.length+1) [] (by omega) (by omega) (by unfold room; simp; omega)
  simp (disch:=(first | omega | (unfold room; omega))) only [dT,cond_true,cond_false,Bool.and_true]
  refine this.trans ?_
  rw [List.drop_zero,qal,List.all_eq_true.2 (fun _ _=>rfl)]
  rfl⟩
theorem qrm (c:Int):(z204 [] c).1.length≤4:=by
 unfold z204
 rcases qmo c with e | e | e | e | e <;> rw [e] <;> simp
theorem qDk:∀ (t0:List Int),(qrC t0=true)→∃ n,qqP n t0=qom (z163 t0).1 (z163 t0).2:=fun t h=>⟨t.length+1,by
 have hl:=qh (l:=t) h
 unfold qqP z163
 rw [show qrv t=true from h]
 cases !(z203 t) with
 | true=>rfl
 | false =>
  have:=qfa (t:=t) (dv:=0) (f:=fun c=>(z204 [] c).1) (q:=fun _=>true) (b:=4) (k0:=qcA (t.length+1)) (R:=none)
   (L:=fun n out i=>qht (qcA (t.length+1)) n out t ((t.length:Nat):Int) i) qrm (fun n i out hi hb=>by
    show qcz _ _ n _ _ _ _=_
    unfold qcz
    have hp:=qrm (t.getD i 0)
    rw [show qrw ([]:List UInt8) (t.getD (Int.toNat (i:Int)) 0)=true from rfl]
    simp (disch:=omega) only [dT,cond_true,Bool.and_true,tn,qk]) (fun n out=>by
    show qcz _ _ n _ _ _ _=_
    unfold qcz
    rw [dF (by omega)]
    rfl) t.length 0 (t.length+1) [] (by omega) (by omega) (by unfold room; simp; omega)
  simp only [cond_true,cond_false,Bool.and_true]
  refine this.trans ?_
  rw [List.drop_zero,List.all_eq_true.2 (fun _ _=>rfl)]
  rfl⟩
theorem qDl:∀ (charset0:Int) (t1:List Int),(qiC charset0 t1=true)→∃ n,qxT n charset0 t1=qdk (z120 charset0 t1).1 (z120 charset0 t1).2:=fun cs t h=>⟨0,by
 unfold qxT z120
 rw [show qrE cs t=true from h,show qrC t=true from h,show qrA t=true from h,show qrB t=true from h,show qrz t=true from h]
 cases (z161 cs==0) <;> cases z162 cs t <;> cases (cs==(5:Int)) <;> cases (cs==(3:Int)) <;> cases (cs==(4:Int)) <;> rfl⟩
theorem qDm (c:Int):(z171 c).length≤4:=by
 unfold z171
 cases z209 c <;> cases decide (c < (128:Int)) <;> cases decide (c < (2048:Int)) <;> cases decide (c < (65536:Int)) <;> simp
theorem qyU (cs c:Int):(z121 cs c).length≤4:=by
 unfold z121
 have:=qDm c
 cases z167 cs c <;> cases (cs==(1:Int)) <;> cases (cs==(2:Int)) <;> cases (cs==(3:Int)) <;> cases (cs==(4:Int)) <;> simp [this]
theorem qkF:∀ s:List UInt8,(z50 s).length=qLen s
 | []=>rfl
 | c :: r=>by
  have h:=qkF r
  unfold z50 qLen at h ⊢
  rw [List.flatMap_cons,List.length_append,h,qkD]
  rfl
def bLen (n:Nat):Nat:=4*((n+2) / 3)
theorem qrn (s:List UInt8):(z49 s).length=bLen s.length:=by
 unfold z49 padTo bLen
 rw [List.length_append,List.length_replicate,qHa]
 unfold qU
 omega
theorem qHy (n:Nat) (h:n≤100000000):z87 (n:Int)=(bLen n:Int):=by
 unfold z87 bLen
 by_cases h0:n=0
 ·subst h0; rfl
 ·rw [dF (by omega),cond_false,IntWalk.i64_in ((n:Int) - 1) (by omega),Int.tdiv_eq_ediv_of_nonneg (by omega),IntWalk.i64_in (((n:Int) - 1) / 3) (by omega),IntWalk.i64_in (((n:Int) - 1) / 3*4) (by omega),IntWalk.i64_in _ (by omega)]
  omega
theorem qhJ {α β:Type} {f:α→List β} {b:Nat} (hf:∀ x,(f x).length≤b):∀ l:List α,(l.flatMap f).length≤b*l.length
 | []=>by simp
 | x :: r=>by
  have h1:=qhJ hf r
  have h2:=hf x
  rw [List.flatMap_cons,List.length_append,List.length_cons,Nat.mul_succ]
  omega
theorem qDn (cs:Int) (t:List Int) (hl:t.length≤1048576):(z120 cs t).1.length≤4194304:=by
 have h1:(z163 t).1.length≤4194304:=by
  unfold z163
  have:=qhJ qrm t
  cases !(z203 t) with
  | true=>exact Nat.zero_le _
  | false=>show (t.flatMap fun c=>(z204 [] c).1).length≤_; omega
 have h2:(z164 t).1.length≤4194304:=by
  unfold z164
  cases t.all z197 <;> simp <;> omega
 have h3:(z165 t).1.length≤4194304:=by
  unfold z165
  cases decide (0≤z206 t) <;> simp <;> omega
 have h4:(z166 t).1.length≤4194304:=by
  unfold z166
  cases z208 t != -1 <;> simp <;> omega
 unfold z120
 cases (z161 cs==0) <;> cases z162 cs t <;> cases (cs==(5:Int)) <;> cases (cs==(3:Int)) <;> cases (cs==(4:Int)) <;> first | exact Nat.zero_le _ | assumption
theorem qkG (cs:Int) (t:List Int) (hl:t.length≤1048576):(z76 cs t).1.length≤4194304:=by
 have h1:=qhJ (qyU cs) t
 unfold z76
 cases (decide (cs < 1)||decide (5 < cs)) <;> cases t.all (fun c=>(z121 cs c).length != 0) <;> first | exact Nat.zero_le _ | (show (t.flatMap (z121 cs)).length≤_; omega)
theorem qDo:∀ (code0:Int),∃ n r,qEB n code0=some r∧Picks (z155 code0) r:=fun code=>by
 by_cases h1:code=1
 ·subst h1; exact ⟨0,_,rfl,fun _=>rfl,fun h=>by cases h⟩
 ·by_cases h2:code=2
  ·subst h2; exact ⟨0,_,rfl,(fun h=>by cases h),fun _=>⟨fun _=>rfl,fun h=>by cases h⟩⟩
  ·refine ⟨0,.nilIface,?_,?_,?_⟩
   ·show (bif code==1 then _ else bif code==2 then _ else _)=_
    rw [beqF h1,beqF h2]; rfl
   ·intro h; rw [beqF h1] at h; cases h
   ·intro _
    refine ⟨?_,fun _=>rfl⟩
    intro h; rw [beqF h2] at h; cases h
theorem qDp:∀ (x0:Unit),∃ n,qEz n x0=qyb (z194 x0):=fun _=>⟨0,rfl⟩
theorem qDq:∀ (x0:Unit),∃ n,qEA n x0=qyc (z195 x0):=fun _=>⟨0,rfl⟩
theorem qoF:∀ (s1:List UInt8),∃ n,qmd n s1=qir (z87 ((List.length s1:Nat):Int)) true:=fun _=>⟨0,rfl⟩
theorem qoG:∀ (s1:List UInt8),qfm s1=true→∃ n,qhB n s1=qis (z83 s1) true:=fun s h=>⟨0,by
 unfold qhB
 rw [show qhZ s=true from h]
 rfl⟩
theorem qoH:∀ (s1:List UInt8),∃ n,qme n s1=qit 0 false:=fun _=>⟨0,rfl⟩
theorem qmp {s:List UInt8} (h:s.length≤4194304):qfm s=true:=by
 unfold qfm qhZ; exact dT h
theorem qDr:∀ (charset0:Int) (code1:Int) (t2:List Int),(qfn charset0 code1 t2=true)→∃ n,qyd n charset0 code1 t2=qaK (z112 charset0 code1 t2).1 (z112 charset0 code1 t2).2:=fun cs code t h=>⟨0,by
 have hl:=qh (l:=t) h
 unfold qyd z112
 rw [show qiC cs t=true from h,qmp (qDn cs t hl)]
 by_cases h0:(z120 cs t).2=10
 ·rw [h0]; rfl
 ·rw [beqF h0]
  by_cases h1:code=1
  ·subst h1
   cases (z120 cs t).2 != 0 <;> rfl
  ·by_cases h2:code=2
   ·subst h2
    cases (z120 cs t).2 != 0 <;> rfl
   ·rw [beqF h1,beqF h2,bneT h1,bneT h2]
    rfl⟩
theorem qHz:∀ (charset0:Int) (code1:Int) (t2:List Int),(qsY charset0 code1 t2=true)→∃ n,qGu n charset0 code1 t2=qye (z66 charset0 code1 t2).1 (z66 charset0 code1 t2).2:=fun cs code t h=>⟨0,by
 unfold qGu z66
 rw [show qfn cs code t=true from h]
 cases (z112 cs code t).2 != 0 <;> rfl⟩
theorem qDs:∀ (charset0:Int) (code1:Int) (t2:List Int),(qii charset0 code1 t2=true)→∃ n,qyn n charset0 code1 t2=qym (z159 charset0 code1 t2):=fun cs code t h=>⟨0,by
 unfold qyn z159
 rw [show qfn cs code t=true from h]
 rfl⟩
theorem qDt:∀ (charset0:Int) (t1:List Int),(qql charset0 t1=true)→∃ n,qyp n charset0 t1=qyo (z118 charset0 t1):=fun cs t h=>⟨0,by
 unfold qyp z118
 rw [show qii cs 1 t=true from h,show qii cs 2 t=true from h]
 rfl⟩
theorem qHA:∀ (charset0:Int) (t1:List Int),(qBi charset0 t1=true)→∃ n,qGw n charset0 t1=qqZ (z72 charset0 t1).1 (z72 charset0 t1).2:=fun cs t h=>⟨0,by
 unfold qGw z72
 rw [show qfn cs 1 t=true from h,show qql cs t=true from h]
 cases (z112 cs 1 t).2 != 0 <;> cases decide (0≤z118 cs t) <;> rfl⟩
theorem qDu:∀ (charset0:Int) (code1:Int) (t2:List Int) (room3:Int),(qqm charset0 code1 t2 room3=true)→∃ n,qyf n charset0 code1 t2 room3=qkB (z156 charset0 code1 t2 room3):=fun cs code t room h=>⟨0,by
 unfold qyf z156
 rw [show qsY cs code t=true from h]
 cases ((z66 cs code t).2==0) <;> cases decide ((0:Int) < ((List.length t:Nat):Int)) <;> rfl⟩
theorem qMt {t:List Int} (h:lenOk t=true) (n:Nat):lenOk (t.take n)=true:=qr (by rw [List.length_take]; have:=qh h; omega)
theorem qiA (k0:Int→Option AV) (cs code:Int) (t:List Int) (rm:Int) (h:lenOk t=true):∀ (d i n:Nat),i+d=t.length→d < n →
 qhC k0 n cs code t rm (i:Nat)=k0 ((qy (fun u=>z156 cs code u rm) t d i:Nat):Int)
 | d,i,0,hi,hn=>by omega
 | 0,i,n+1,hi,hn=>by
  show qcJ _ _ n _ _ _ _ _=_
  unfold qcJ
  rw [dF (by omega)]
  rfl
 | d+1,i,n+1,hi,hn=>by
  have hl:=qh h
  show qcJ _ _ n _ _ _ _ _=_
  unfold qcJ
  rw [qk (by omega),qiA k0 cs code t rm h d (i+1) n (by omega) (by omega),show Int.toNat ((0:Nat):Int)=0 from rfl,List.drop_zero,tn,
   show qqm cs code (t.take (i+1)) rm=true from qMt h _]
  simp (disch:=omega) only [dT,cond_true,Bool.and_true]
  rw [show qy (fun u=>z156 cs code u rm) t (d+1) i=bif z156 cs code (t.take (i+1)) rm then qy (fun u=>z156 cs code u rm) t d (i+1) else i from rfl]
  show (bif z156 cs code (t.take (i+1)) rm then _ else _)=k0 ((bif z156 cs code (t.take (i+1)) rm then _ else _:Nat):Int)
  cases z156 cs code (t.take (i+1)) rm <;> rfl
theorem qDv:∀ (charset0:Int) (code1:Int) (t2:List Int) (room3:Int),(qqn charset0 code1 t2 room3=true)→∃ n,qqW n charset0 code1 t2 room3=qyg (z114 charset0 code1 t2 room3):=fun cs code t rm h=>⟨t.length+1,by
 unfold qqW z114
 exact qiA (qeg (t.length+1)) cs code t rm h t.length 0 (t.length+1) (by omega) (by omega)⟩
theorem qfd {t:List Int} (h:i32s t=true) {c:Int} (hc:c∈t) : -2147483648≤c∧c≤2147483647:=by
 unfold i32s at h
 rw [List.all_eq_true] at h
 simpa using h c hc
theorem qMu {c:Int} (h : -2147483648≤c∧c≤2147483647):IntKind.wrap .u32 c=if 0≤c then c else c+4294967296:=by
 by_cases h0:0≤c
 ·rw [if_pos h0,IntWalk.u32_in c (by omega)]
 ·rw [if_neg h0]
  have:IntKind.wrap .u32 c=c % 4294967296:=rfl
  rw [this]; omega
theorem qkH {c:Int} (h : -2147483648≤c∧c≤2147483647):z199 c=z209 c:=by
 unfold z199 z209
 rw [show z234 c=z230 c from rfl,← Bool.and_assoc,qMu h]
 congr 1
 rw [Bool.eq_iff_iff]
 simp only [Bool.and_eq_true,decide_eq_true_eq]
 split <;> omega
theorem qoI {c:Int} (h : -2147483648≤c∧c≤2147483647):z196 c=(z168 c).2:=by
 unfold z196 z168
 rw [qMu h]
 have:decide ((if 0≤c then c else c+4294967296) < 256)=(decide (0≤c)&&decide (c < 256)):=by
  rw [Bool.eq_iff_iff]
  simp only [Bool.and_eq_true,decide_eq_true_eq]
  split <;> omega
 rw [this]
 cases (decide (0≤c)&&decide (c < 256)) <;> rfl
theorem qMv (cs:Int) {c:Int} (h : -2147483648≤c∧c≤2147483647):z157 cs c=z167 cs c:=by
 unfold z157 z167
 rw [qoI h,qkH h]
 rfl
theorem qoJ (p:Int→Bool):∀ (t:List Int) (i:Int),0≤i→(qad p t i = -1∧t.all p=true)∨(0≤qad p t i∧t.all p=false)
 | [],_,_=>.inl ⟨rfl,rfl⟩
 | x :: r,i,hi=>by
  rw [show qad p (x :: r) i=bif p x then qad p r (i+1) else i from rfl,List.all_cons]
  cases p x with
  | true=>simpa using qoJ p r (i+1) (by omega)
  | false=>exact .inr ⟨hi,rfl⟩
theorem qoK (p:Int→Bool) (t:List Int):(qad p t 0 == -1)=t.all p:=by
 rcases qoJ p t 0 (by omega) with ⟨h1,h2⟩ | ⟨h1,h2⟩
 ·rw [h1,h2]; rfl
 ·rw [h2,beqF (by omega)]
theorem qyV (p:Int→Bool) (t:List Int):(qad p t 0 != -1) = !(t.all p):=by rw [← qoK]; rfl
theorem qMw (p:Int→Bool) (t:List Int):decide (0≤qad p t 0) = !(t.all p):=by
 rcases qoJ p t 0 (by omega) with ⟨h1,h2⟩ | ⟨h1,h2⟩
 ·rw [h1,h2]; rfl
 ·rw [h2,dT h1]; rfl
theorem qDw {p q:Int→Bool} {t:List Int} (h:∀ c∈t,p c=q c):t.all p=t.all q:=by
 rw [Bool.eq_iff_iff,List.all_eq_true,List.all_eq_true]
 exact ⟨fun k c hc=>by rw [← h c hc]; exact k c hc,fun k c hc=>by rw [h c hc]; exact k c hc⟩
theorem qaL {f g:Int→List UInt8}:∀ {t:List Int},(∀ c∈t,f c=g c)→t.flatMap f=t.flatMap g
 | [],_=>rfl
 | x :: r,h=>by rw [List.flatMap_cons,List.flatMap_cons,h x (by simp),qaL fun c hc=>h c (by simp [hc])]
theorem lead2:∀ i:Fin 32,(192:UInt8) ||| oct8 ((i.val:Nat):Int)=oct8 (192+((i.val:Nat):Int)):=by decide +kernel
theorem lead3:∀ i:Fin 16,(224:UInt8) ||| oct8 ((i.val:Nat):Int)=oct8 (224+((i.val:Nat):Int)):=by decide +kernel
theorem lead4:∀ i:Fin 8,(240:UInt8) ||| oct8 ((i.val:Nat):Int)=oct8 (240+((i.val:Nat):Int)):=by decide +kernel
theorem qyW:∀ i:Fin 256,foll ((i.val:Nat):Int)=oct8 (128+((i.val:Nat):Int) % 64):=by decide +kernel
theorem qHB (n:Int):oct8 n=oct8 (n % 256):=by
 unfold oct8
 have:IntKind.wrap .u8 n=n % 256:=rfl
 have h2:IntKind.wrap .u8 (n % 256)=n % 256 % 256:=rfl
 rw [this,h2]; congr 1; congr 1; omega
theorem qMx (n:Int):foll n=oct8 (128+n % 64):=by
 have h:=qyW ⟨(n % 256).toNat,by omega⟩
 simp only [Int.toNat_of_nonneg (show 0≤n % 256 by omega)] at h
 rw [show n % 256 % 64=n % 64 by omega] at h
 rw [← h]
 unfold foll
 rw [← qHB]
theorem qOT {c:Int} (h:z209 c=true) (h32 : -2147483648≤c∧c≤2147483647):(z204 [] c).1=z171 c:=by
 have hs:=(qkH h32).trans h
 have hr:0≤c∧c≤1114111:=by
  unfold z209 at h
  simp only [Bool.and_eq_true,decide_eq_true_eq] at h
  exact ⟨h.1,h.2.1⟩
 unfold z204 z232 z171
 rw [hs,h]
 simp only [Bool.not_true,cond_false,qMx,Int.fdiv_eq_ediv_of_nonneg _ (show (0:Int)≤2 ^ 18 by decide),Int.fdiv_eq_ediv_of_nonneg _ (show (0:Int)≤2 ^ 12 by decide),Int.fdiv_eq_ediv_of_nonneg _ (show (0:Int)≤2 ^ 6 by decide),Int.fdiv_eq_ediv_of_nonneg _ (show (0:Int)≤2 ^ 0 by decide)]
 rw [show (2:Int) ^ 18=262144 from rfl,show (2:Int) ^ 12=4096 from rfl,show (2:Int) ^ 6=64 from rfl,show (2:Int) ^ 0=1 from rfl,Int.ediv_one]
 by_cases h1:c < 128
 ·rw [dT h1]
  show [(0:UInt8) ||| oct8 c]=[oct8 c]
  rw [UInt8.zero_or]
 ·rw [dF h1]
  by_cases h2:c < 2048
  ·rw [dT h2]
   have:=lead2 ⟨(c / 64).toNat,by omega⟩
   simp only [Int.toNat_of_nonneg (show 0≤c / 64 by omega)] at this
   show [(192:UInt8) ||| oct8 (c / 64),oct8 (128+c % 64)]=_
   rw [this]; rfl
  ·rw [dF h2]
   by_cases h3:c < 65536
   ·rw [dT h3]
    have:=lead3 ⟨(c / 4096).toNat,by omega⟩
    simp only [Int.toNat_of_nonneg (show 0≤c / 4096 by omega)] at this
    show [(224:UInt8) ||| oct8 (c / 4096),oct8 (128+c / 64 % 64),oct8 (128+c % 64)]=_
    rw [this]; rfl
   ·rw [dF h3]
    have:=lead4 ⟨(c / 262144).toNat,by omega⟩
    simp only [Int.toNat_of_nonneg (show 0≤c / 262144 by omega)] at this
    show [(240:UInt8) ||| oct8 (c / 262144),oct8 (128+c / 4096 % 64),oct8 (128+c / 64 % 64),oct8 (128+c % 64)]=_
    rw [this]; rfl
theorem qro {cs c:Int} (h:cs=1∨cs=2∨cs=3∨cs=4∨cs=5):((z121 cs c).length != 0)=z167 cs c:=by
 unfold z121
 cases hh:z167 cs c with
 | false=>rfl
 | true =>
  rcases h with rfl | rfl | rfl | rfl | rfl
  ·rfl
  ·rfl
  ·rfl
  ·rfl
  ·have h3:z209 c=true:=hh
   show ((z171 c).length != 0)=true
   unfold z171
   rw [h3]
   cases decide (c < (128:Int)) <;> cases decide (c < (2048:Int)) <;> cases decide (c < (65536:Int)) <;> rfl
theorem qMy {cs:Int} (h:cs=1∨cs=2∨cs=3∨cs=4∨cs=5):0 < z161 cs:=by
 rcases h with rfl | rfl | rfl | rfl | rfl <;> decide
theorem qMz (cs:Int) (t:List Int) (h:i32s t=true):z120 cs t=z76 cs t:=by
 by_cases hcs:cs=1∨cs=2∨cs=3∨cs=4∨cs=5
 ·have hsz:=qMy hcs
  unfold z120 z76 z162 z202
  rw [beqF (show z161 cs≠0 by omega),dT hsz,qoK,dF (show ¬ cs < 1 by omega),dF (show ¬ 5 < cs by omega),qDw (q:=z167 cs) (fun c hc=>qMv cs (qfd h hc)),qDw (p:=fun c=>(z121 cs c).length != 0) (q:=z167 cs) (fun c _=>qro hcs)]
  cases ha:t.all (z167 cs) with
  | false=>rfl
  | true =>
   rw [List.all_eq_true] at ha
   show (bif cs==5 then z163 t else _)=(t.flatMap (z121 cs),0)
   rcases hcs with rfl | rfl | rfl | rfl | rfl
   ·show z166 t=_
    have h2:t.all z196=true:=List.all_eq_true.2 fun c hc=>by
     have:=ha c hc
     rw [qoI (qfd h hc)]
     unfold z168
     have h3:(decide (0≤c)&&decide (c < 128))=true:=this
     simp only [Bool.and_eq_true,decide_eq_true_eq] at h3
     rw [dT h3.1,dT (show c < 256 by omega)]; rfl
    unfold z166 z208
    rw [qyV,h2]
    show (t.map _,(0:Int))=_
    rw [← qal]
    congr 1
    exact qaL fun c hc=>by
     unfold z121
     rw [ha c hc]; rfl
   ·show z166 t=_
    have h2:t.all z196=true:=List.all_eq_true.2 fun c hc=>by rw [qoI (qfd h hc)]; exact ha c hc
    unfold z166 z208
    rw [qyV,h2]
    show (t.map _,(0:Int))=_
    rw [← qal]
    congr 1
    exact qaL fun c hc=>by
     have h3:(z168 c).2=true:=ha c hc
     unfold z121
     rw [ha c hc]
     show _=[(z168 c).1]
     unfold z168 at h3 ⊢
     cases h4:(decide (0≤c)&&decide (c < 256)) with
     | false=>rw [h4] at h3; cases h3
     | true =>
      simp only [Bool.and_eq_true,decide_eq_true_eq] at h4
      rw [IntWalk.u8_in c (by omega)]; rfl
   ·show z164 t=_
    unfold z164
    rw [show t.all z197=true from List.all_eq_true.2 ha]
    show (t.map _,(0:Int))=_
    rw [← qal]
    congr 1
    exact qaL fun c hc=>by
     unfold z121
     rw [ha c hc]; rfl
   ·show z165 t=_
    unfold z165 z206
    rw [qMw,show t.all z198=true from List.all_eq_true.2 ha]
    show (t.map _,(0:Int))=_
    rw [← qal]
    congr 1
    exact qaL fun c hc=>by
     unfold z121
     rw [ha c hc]; rfl
   ·show z163 t=_
    unfold z163 z203
    rw [qoK,show t.all z199=true from List.all_eq_true.2 fun c hc=>(qkH (qfd h hc)).trans (ha c hc)]
    show (t.flatMap _,(0:Int))=_
    congr 1
    exact qaL fun c hc=>by
     have h3:z209 c=true:=ha c hc
     unfold z121
     rw [ha c hc,qOT h3 (qfd h hc)]; rfl
 ·simp only [not_or] at hcs
  obtain ⟨h1,h2,h3,h4,h5⟩:=hcs
  unfold z120 z76 z161
  simp only [beqF h1,beqF h2,beqF h3,beqF h4,beqF h5,cond_false]
  rw [show (decide (cs < 1)||decide (5 < cs))=true by simp; omega]
  rfl
theorem qhK (cs:Int):0≤z17 cs∧z17 cs≤19:=by
 unfold z17
 have:=qoC cs
 cases z44 cs
 ·show 0≤(0:Int)∧(0:Int)≤19; constructor <;> decide
 ·show 0≤(((z89 cs).length+7:Nat):Int)∧(((z89 cs).length+7:Nat):Int)≤19
  omega
def qcV (code:Int) (s:List UInt8):Nat:=bif code==1 then bLen s.length else qLen s
theorem qmq (code:Int) (s:List UInt8):qcV code s≤4*s.length+4:=by
 unfold qcV bLen
 have:=qrf s
 cases (code==1)
 ·show qLen s≤_; omega
 ·show 4*((s.length+2) / 3)≤_; omega
def told (cs code:Int) (t:List Int):Int×Int :=
 bif (z76 cs t).2==10 then (0,10) else bif (code != 1)&&(code != 2) then (0,3) else bif (z76 cs t).2 != 0 then (0,(z76 cs t).2)
 else ((qcV code (z76 cs t).1:Nat),0)
theorem qkI (cs code:Int) (t:List Int) (h:i32s t=true) (hl:t.length≤1048576):z112 cs code t=told cs code t:=by
 have h1:=qkG cs t hl
 unfold z112 told qcV
 rw [qMz cs t h,qHy _ (by omega)]
 cases (code==1) <;> rfl
theorem qHC (cs code:Int) (t:List Int):(told cs code t).2≠0→(told cs code t).1=0:=by
 unfold told
 cases ((z76 cs t).2==10) <;> cases ((code != 1)&&(code != 2)) <;> cases ((z76 cs t).2 != 0) <;> simp
theorem qyX {cs code:Int} {t:List Int} (h:(told cs code t).2=0):(z76 cs t).2=0∧(code=1∨code=2)∧(told cs code t).1=(qcV code (z76 cs t).1:Nat):=by
 unfold told at h ⊢
 by_cases h0:(z76 cs t).2=10
 ·rw [beqT h0] at h; cases h
 ·rw [beqF h0] at h ⊢
  cases hc:((code != 1)&&(code != 2)) with
  | true=>rw [hc] at h; cases h
  | false =>
   rw [hc] at h
   by_cases h2:(z76 cs t).2=0
   ·refine ⟨h2,?_,?_⟩
    ·by_cases h3:code=1
     ·exact .inl h3
     ·right
      rw [bneT h3,Bool.true_and] at hc
      by_cases h4:code=2
      ·exact h4
      ·rw [bneT h4] at hc; cases hc
    ·rw [bneF h2]; rfl
   ·rw [bneT h2] at h
    exact absurd h h2
theorem qhL (cs code:Int) (t:List Int) (hl:t.length≤1048576):0≤(told cs code t).1∧(told cs code t).1≤16777220:=by
 by_cases h:(told cs code t).2=0
 ·have h1:=qyX h
  have h2:=qkG cs t hl
  have h3:=qmq code (z76 cs t).1
  rw [h1.2.2]; omega
 ·rw [qHC cs code t h]; decide
def lenE (cs code:Int) (t:List Int):Int×Int:=bif (told cs code t).2 != 0 then (0,(told cs code t).2) else ((told cs code t).1+z17 cs,0)
theorem len_E (cs code:Int) (t:List Int) (h:i32s t=true) (hl:t.length≤1048576):z66 cs code t=lenE cs code t:=by
 have h1:=qhL cs code t hl
 have h2:=qhK cs
 unfold z66 lenE
 rw [qkI cs code t h hl,IntWalk.i64_in _ (by omega)]
theorem qmr (cs code:Int) (t:List Int) (hl:t.length≤1048576):z69 cs code t=lenE cs code t:=by
 have h0:=qkG cs t hl
 have h2:=qhK cs
 have h3:=qmq code (z76 cs t).1
 unfold z69 lenE told z18
 rw [qrn,qkF]
 unfold qcV at h3 ⊢
 have hb:bLen (z76 cs t).1.length≤100000000:=by unfold bLen; omega
 have hq:=qrf (z76 cs t).1
 rw [IntWalk.i64_in (z17 cs+((bLen (z76 cs t).1.length:Nat):Int)) (by omega),IntWalk.i64_in (z17 cs+((qLen (z76 cs t).1:Nat):Int)) (by omega)]
 by_cases e0:(z76 cs t).2=10
 ·rw [beqT e0]; rfl
 ·rw [beqF e0]
  cases ((code != 1)&&(code != 2)) with
  | true=>rfl
  | false =>
   by_cases e1:(z76 cs t).2=0
   ·rw [bneF e1]
    cases (code==1) <;> simp [Int.add_comm]
   ·rw [bneT e1]
    show (0,(z76 cs t).2)=bif (z76 cs t).2 != 0 then (0,(z76 cs t).2) else _
    rw [bneT e1]; rfl
theorem qDx {cs:Int} {t:List Int}:(told cs 1 t).2=(told cs 2 t).2:=by
 unfold told
 cases ((z76 cs t).2==10) <;> cases ((z76 cs t).2 != 0) <;> rfl
theorem qDy (cs:Int) (t:List Int) (h:i32s t=true) (hl:t.length≤1048576):z72 cs t=z74 cs t:=by
 have h1:=qhL cs 1 t hl
 have h2:=qhL cs 2 t hl
 have h3:=qhK cs
 unfold z72 z74 z118 z159
 rw [qmr cs 1 t hl,qmr cs 2 t hl,qkI cs 1 t h hl,qkI cs 2 t h hl,IntWalk.i64_in _ (by omega)]
 unfold lenE
 rw [← qDx]
 by_cases h0:(told cs 1 t).2=0
 ·rw [bneF h0]
  show (bif decide (0≤(told cs 1 t).1 - (told cs 2 t).1) then _ else _)=(bif decide ((told cs 2 t).1+z17 cs≤(told cs 1 t).1+z17 cs) then _ else _)
  rw [show decide (0≤(told cs 1 t).1 - (told cs 2 t).1)=decide ((told cs 2 t).1+z17 cs≤(told cs 1 t).1+z17 cs) by congr 1; apply propext; omega]
 ·rw [bneT h0]
  show _=bif (told cs 1 t).2 != 0 then (0,(told cs 1 t).2) else _
  rw [bneT h0]; rfl
theorem qMA (cs code:Int) (t:List Int) (rm:Int) (h:i32s t=true) (hl:t.length≤1048576):z156 cs code t rm=z115 cs code t rm:=by
 unfold z156 z115
 rw [len_E cs code t h hl,qmr cs code t hl]
 congr 1
 congr 1
 rw [Bool.eq_iff_iff]
 simp only [Bool.and_eq_true,decide_eq_true_eq]
 by_cases hr:75 < rm
 ·rw [dT hr]; show _≤(75:Int)↔_; omega
 ·rw [dF hr]; show _≤rm↔_; omega
theorem qDz {t:List Int} (h:i32s t=true) (n:Nat):i32s (t.take n)=true:=by
 unfold i32s at h ⊢
 rw [List.all_eq_true] at h ⊢
 exact fun c hc=>h c (List.mem_of_mem_take hc)
theorem qby (p:List Int→Bool) (t:List Int):∀ (d n:Nat),n≤qy p t d n∧qy p t d n≤n+d∧(n < qy p t d n→p (t.take (qy p t d n))=true)∧(qy p t d n < n+d→p (t.take (qy p t d n+1))=false)
 | 0,n=>by unfold qy; refine ⟨Nat.le_refl _,Nat.le_refl _,fun h=>absurd h (Nat.lt_irrefl _),fun h=>absurd h (by omega)⟩
 | d+1,n=>by
  rw [show qy p t (d+1) n=bif p (t.take (n+1)) then qy p t d (n+1) else n from rfl]
  cases hp:p (t.take (n+1)) with
  | false =>
   show n≤n∧n≤n+(d+1)∧(n < n→_)∧(n < n+(d+1)→_)
   exact ⟨Nat.le_refl _,by omega,fun h=>absurd h (Nat.lt_irrefl _),fun _=>hp⟩
  | true =>
   show n≤qy p t d (n+1)∧qy p t d (n+1)≤n+(d+1)∧(n < qy p t d (n+1)→_)∧(qy p t d (n+1) < n+(d+1)→_)
   obtain ⟨h1,h2,h3,h4⟩:=qby p t d (n+1)
   refine ⟨by omega,by omega,fun _=>?_,fun hlt=>h4 (by omega)⟩
   by_cases e:n+1 < qy p t d (n+1)
   ·exact h3 e
   ·have:qy p t d (n+1)=n+1:=by omega
    rw [this]; exact hp
theorem qEG (cs code:Int) (t:List Int) (rm:Int) (h:i32s t=true) (hl:t.length≤1048576) (hf:z156 cs code t rm=true):(told cs code t).2=0∧0 < t.length∧(told cs code t).1+z17 cs≤75∧(told cs code t).1+z17 cs≤rm:=by
 rw [qMA cs code t rm h hl] at hf
 unfold z115 at hf
 rw [qmr cs code t hl] at hf
 unfold lenE at hf
 by_cases h0:(told cs code t).2=0
 ·rw [bneF h0] at hf
  simp only [cond_false,Bool.and_eq_true,decide_eq_true_eq] at hf
  exact ⟨h0,by omega,hf.2.2.2,hf.2.2.1⟩
 ·rw [bneT h0] at hf
  simp only [cond_true,Bool.and_eq_true,beq_iff_eq] at hf
  exact absurd hf.1 h0
theorem qHD {cs:Int} {t:List Int} (h:(z76 cs t).2=0):(1≤cs∧cs≤5)∧t.all (fun c=>(z121 cs c).length != 0)=true∧(z76 cs t).1=t.flatMap (z121 cs):=by
 unfold z76 at h ⊢
 cases hc:(decide (cs < 1)||decide (5 < cs)) with
 | true=>rw [hc] at h; cases h
 | false =>
  rw [hc] at h
  simp only [Bool.or_eq_false_iff,decide_eq_false_iff_not] at hc
  cases ha:t.all (fun c=>(z121 cs c).length != 0) with
  | false=>rw [ha] at h; cases h
  | true=>exact ⟨by omega,rfl,rfl⟩
theorem qrp {cs:Int} {t:List Int} (h:(z76 cs t).2=0) (h0:0 < t.length):0 < (z76 cs t).1.length:=by
 obtain ⟨_,h1,h2⟩:=qHD h
 rw [h2]
 cases t with
 | nil=>cases h0
 | cons c r =>
  rw [List.all_cons,Bool.and_eq_true] at h1
  rw [List.flatMap_cons,List.length_append]
  have:(z121 cs c).length≠0:=by simpa using h1.1
  omega
end Go.Av
