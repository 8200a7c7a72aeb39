import Derived.Test.YtopepdfipgfakaaGreatDoorEfSh
import Derived.Test.YtopepdfipgfakaaGreatDoorAvE
import Derived.Lib.IndexAny
import Derived.Lib.IndexMore
import Derived.Lib.IndexBytes
import Derived.IntWalk
import Derived.KernelRfl
namespace Go.Av
theorem qAz {α:Type} [DecidableEq α] {a b:List α} {i:Nat} (ha:i < a.length) (hb:i < b.length) (d:α):decide (a.drop i=b.drop i)=bif a.getD i d != b.getD i d then false else decide (a.drop (i+1)=b.drop (i+1)):=by
 rw [qT (d:=d) ha,qT (d:=d) hb]
 generalize a.getD i d=x
 generalize b.getD i d=y
 by_cases h:x=y
 ·subst h; simp
 ·simp [h]
theorem qlM (c:UInt8):decide (((UInt8.toNat c:Nat):Int) < (256:Nat))=true:=by
 have:=c.toNat_lt
 rw [decide_eq_true]
 omega
theorem qck (ret:List Bool→Bool→OA) (k0:List Bool→OA) (cs:LU) (ha:ascii cs=true) (hl:cs.length≤1048576):∀ (d i n:Nat) (a:List Bool),i+d=cs.length→d < n →
 qer ret k0 n cs a (i:Nat)=k0 (setOf (cs.drop i) a)
 | d,i,0,a,hi,hn=>by omega
 | 0,i,n+1,a,hi,hn=>by
  show qcN ret k0 (qer ret k0 n) n cs a _=_
  unfold qcN
  rw [decide_eq_false (by omega),cond_false,List.drop_eq_nil_of_le (by omega)]
  rfl
 | d+1,i,n+1,a,hi,hn=>by
  show qcN ret k0 (qer ret k0 n) n cs a _=_
  unfold qcN
  have hlt:i < cs.length:=by omega
  have hc:decide ((128:UInt8)≤List.getD cs i 0)=false:=by
   unfold ascii at ha
   rw [List.all_eq_true] at ha
   have:=ha (cs.getD i 0) (by simp [List.getD,hlt])
   rw [decide_eq_false_iff_not]
   simp only [decide_eq_true_eq] at this
   exact UInt8.not_le.2 this
  rw [qmb,decide_eq_true hlt,cond_true,qae,Bool.true_and,cond_true,qbQ,hc,cond_false,qae,qlM,Bool.true_and,cond_true,qj (by omega),
   qck ret k0 cs ha hl d (i+1) n _ (by omega) (by omega),qT (d:=0) hlt]
  rfl
theorem qAA:∀ (chars0:LU),(qhV chars0=true)→∃ n,qwg n chars0=qhw (z223 chars0).1 (z223 chars0).2:=fun cs h=>⟨cs.length+1,by
 unfold qhV at h
 rw [Bool.and_eq_true] at h
 exact qck qhw (qes (cs.length+1)) cs h.1 (qh h.2) cs.length 0 (cs.length+1) _ (by omega) (by omega)⟩
theorem qAB:∀ (as0:List Bool) (c1:UInt8),∃ n,qwi n as0 c1=qwh (z238 as0 c1):=fun as c=>⟨0,by
 unfold qwi
 rw [qae,qlM]
 rfl⟩
theorem qAC:∀ (c0:UInt8),∃ n,qvw n c0=qi (z214 c0):=fun c=>⟨0,by
 unfold qvw z214 qpM orI
 cases decide (c < (32:UInt8)) <;> cases (c==(127:UInt8)) <;> cases (c==(32:UInt8)) <;> cases (c==(9:UInt8)) <;> cases decide ((48:UInt8)≤c) <;> cases decide (c≤(57:UInt8)) <;> cases decide ((65:UInt8)≤c) <;> cases decide (c≤(90:UInt8)) <;> cases decide ((97:UInt8)≤c) <;> cases decide (c≤(122:UInt8)) <;> rfl⟩
theorem qAD:∀ (s0:LU) (c1:UInt8),∃ n,qBK n s0 c1=qvx (z229 s0 c1):=fun _ _=>⟨0,rfl⟩
theorem qAE:∀ (s0:LU) (c1:UInt8),∃ n,qBL n s0 c1=qvy (z192 s0 c1):=fun _ _=>⟨0,rfl⟩
theorem qAF:∀ (s0:LU) (c1:UInt8),∃ n,qBM n s0 c1=qvz (z215 s0 c1):=fun _ _=>⟨0,rfl⟩
theorem qAG:∀ (c0:UInt8),∃ n,qvA n c0=qaa (z180 c0):=fun c=>⟨0,by
 unfold qvA z180 qBp orI
 cases decide (c < (33:UInt8)) <;> cases decide ((126:UInt8) < c) <;> cases z215 [33,42,43,45,47] c <;> cases z215 [43,47] c <;> cases z215 [40,41,60,62,64,44,59,58,92,34,47,91,93,63,61] c <;> cases z215 [42,39,37] c <;> rfl⟩
theorem qAH:∀ (c0:UInt8) (kinds1:Int),∃ n,qBN n c0 kinds1=qvB (z129 c0 kinds1):=fun _ _=>⟨0,rfl⟩
theorem qCf (c:UInt8):c.toNat < 256:=c.toNat_lt
theorem qER (cs:LU) (x:UInt8):∀ (a:List Bool),a.length=256→(setOf cs a).getD x.toNat false=(cs.contains x||a.getD x.toNat false):=by
 induction cs with
 | nil=>intro a _; simp [setOf]
 | cons c cs ih =>
  intro a hl
  show (setOf cs (List.set a c.toNat true)).getD x.toNat false=_
  rw [ih _ (by simpa using hl)]
  have hx:=qCf x
  have hc:=qCf c
  by_cases e:c=x
  ·subst e
   have:(List.set a c.toNat true).getD c.toNat false=true:=by simp [List.getD,hl,hc]
   rw [this]
   simp
  ·have hne:c.toNat≠x.toNat:=fun h=>e (UInt8.toNat_inj.1 h)
   have:(List.set a c.toNat true).getD x.toNat false=a.getD x.toNat false:=by simp [List.getD,List.getElem?_set_ne hne]
   rw [this]
   have hb:¬ x=c:=fun h=>e h.symm
   simp [hb]
theorem dT {p:Prop} [Decidable p] (h:p):decide p=true:=decide_eq_true h
theorem dF {p:Prop} [Decidable p] (h:¬ p):decide p=false:=decide_eq_false h
theorem wr {x:Int} (h : -9223372036854775808≤x∧x≤9223372036854775807):IntKind.wrap .i64 x=x:=IntWalk.i64_in x h
theorem tn (i:Nat):Int.toNat (i:Int)=i:=Int.toNat_natCast i
theorem bneI {a b:Int} (h:a≠b):(a==b)=false:=by simp [h]
theorem ql {α:Type} {l:List α} (h:l.length≤1048576):lenOk l=true:=by unfold lenOk; rw [decide_eq_true_eq]; exact h
theorem qlN (p:UInt8→Bool) (t:LU) (x:UInt8):dropR p (t++[x])=bif p x then dropR p t else t++[x]:=by
 unfold dropR
 rw [List.reverse_append,List.reverse_singleton,List.singleton_append,List.dropWhile_cons]
 cases p x <;> simp
theorem qav (p:UInt8→Bool):∀ s:LU,(s.dropWhile p).length≤s.length
 | []=>by simp
 | c :: s=>by
  rw [List.dropWhile_cons]
  split
  ·have:=qav p s; simp only [List.length_cons]; omega
  ·exact Nat.le_refl _
theorem qnD (p:UInt8→Bool) (s:LU):(dropR p s).length≤s.length:=by
 have:=qav p s.reverse
 unfold dropR
 simpa using this
theorem qpG (p:UInt8→Bool) (s:LU):(qhW p s).length≤s.length:=Nat.le_trans (qav p _) (qnD p s)
theorem qAI:∀ (s0:LU) (c1:UInt8),(qxb s0 c1=true)→∃ n,qwd n s0 c1=qnq (z221 s0 c1):=fun _ _ h=>by cases h
theorem qAJ:∀ (s0:LU) (c1:UInt8),(qxc s0 c1=true)→∃ n,qwf n s0 c1=qwe (z222 s0 c1):=fun _ _ h=>by cases h
theorem qlO (k0:LU→OA) (as:List Bool):∀ (d:Nat) (s:LU) (n:Nat),s.length=d→d < n→s.length≤1048576 →
 qfN k0 n s as=k0 (z225 s as)
 | d,s,0,hd,hn,hl=>by omega
 | d,s,n+1,hd,hn,hl=>by
  show qgu k0 (qfN k0 n) n s as=_
  unfold qgu z225
  rcases List.eq_nil_or_concat s with rfl | ⟨t,x,rfl⟩
  ·rfl
  ·rw [List.concat_eq_append] at *
   have hlen:(t++[x]).length=t.length+1:=by simp
   have ih:=qlO k0 as t.length t n rfl (by omega) (by omega)
   have hg:(t++[x]).getD (Int.toNat (((t++[x]).length:Int) - 1)) 0=x:=by
    rw [show Int.toNat (((t++[x]).length:Int) - 1)=t.length by omega]; simp
   have ht:List.take (Int.toNat (((t++[x]).length:Int) - 1)) (t++[x])=t:=by
    rw [show Int.toNat (((t++[x]).length:Int) - 1)=t.length by omega]; simp
   simp (disch:=omega) only [wr,dT,cond_true,Bool.and_true,hg,ht,qlN]
   cases z238 as x with
   | true=>simpa [z225] using ih
   | false=>rfl
theorem qAK:∀ (s0:LU) (as1:List Bool),(qlU s0 as1=true)→∃ n,qpp n s0 as1=qwj (z225 s0 as1):=fun s as h=>⟨s.length+1,by
 unfold qpp
 rw [qlO _ as s.length s _ rfl (by omega) (qh h)]
 rfl⟩
theorem qlP (k0:LU→OA) (as:List Bool):∀ (d:Nat) (s:LU) (n:Nat),s.length=d→d < n→s.length≤1048576 →
 qfM k0 n s as=k0 (z224 s as)
 | d,s,0,hd,hn,hl=>by omega
 | d,[],n+1,hd,hn,hl=>rfl
 | d,x :: s,n+1,hd,hn,hl=>by
  show qgt k0 (qfM k0 n) n (x :: s) as=_
  unfold qgt z224
  have hlen:(x :: s).length=s.length+1:=rfl
  have ih:=qlP k0 as s.length s n rfl (by omega) (by omega)
  have hg:(x :: s).getD (Int.toNat 0) 0=x:=rfl
  have ht:List.drop (Int.toNat 1) (List.take (Int.toNat ((x :: s).length:Int)) (x :: s))=s:=by
   rw [tn,List.take_length]; rfl
  simp (disch:=omega) only [dT,cond_true,Bool.and_true,hg,ht,List.dropWhile_cons]
  cases z238 as x with
  | true=>simpa [z224] using ih
  | false=>rfl
theorem qAL:∀ (s0:LU) (as1:List Bool),(qlT s0 as1=true)→∃ n,qpo n s0 as1=qnr (z224 s0 as1):=fun s as h=>⟨s.length+1,by
 unfold qpo
 rw [qlP _ as s.length s _ rfl (by omega) (qh h)]
 unfold qet
 cases hc:z224 s as with
 | nil=>rfl
 | cons x r=>rfl⟩
theorem qnE (cs:LU) (c:UInt8):z238 (z223 cs).1 c=cs.contains c:=by
 have:=qER cs c (List.replicate 256 false) List.length_replicate
 unfold z238 z223
 have hc:c.toNat < 256:=c.toNat_lt
 rw [this,List.getD_eq_getElem?_getD,List.getElem?_replicate,if_pos hc]
 exact Bool.or_false _
theorem qJv (cs s:LU):z224 (z225 s (z223 cs).1) (z223 cs).1=z190 s cs:=by
 unfold z224 z225 z190 qhW
 have e:(fun c=>z238 (z223 cs).1 c)=fun c=>cs.contains c:=funext fun c=>qnE cs c
 rw [e]
theorem qAM:∀ (s0:LU) (cutset1:LU),(qiN s0 cutset1=true)→∃ n,qwk n s0 cutset1=qcC (z190 s0 cutset1):=fun s cs h=>⟨0,by
 unfold qiN at h
 simp only [Bool.and_eq_true,decide_eq_true_eq] at h
 obtain ⟨h1,h2,h3,h4⟩:=h
 have hls:=qh h1
 unfold qwk
 cases s with
 | nil=>rfl
 | cons x r =>
  have hcs:(cs==([]:LU))=false:=by cases cs with
   | nil=>simp at h2
   | cons a b=>rfl
  have hlen:(x :: r).length=r.length+1:=rfl
  have hm:qhV cs=true:=by unfold qhV; rw [h3,h4]; rfl
  have hr:qlT (z225 (x :: r) (z223 cs).1) (z223 cs).1=true:=ql (Nat.le_trans (qnD _ _) hls)
  rw [bneI (by omega),hcs,bneI (by omega),hm,show (z223 cs).2=true from rfl,show qlU (x :: r) (z223 cs).1=true from h1,hr,qJv]
  rfl⟩
theorem qAN:∀ (c0:UInt8),∃ n,qvv n c0=qkb (z126 c0):=fun c=>⟨0,by
 unfold qvv z126
 cases decide ((65:UInt8)≤c) <;> cases decide (c≤(90:UInt8)) <;> rfl⟩
theorem qJw (f:UInt8→UInt8) (s:LU) (i:Nat) (h:i < s.length):List.set (s.take i |>.map f |> fun l=>l++s.drop i) i (f (s.getD i 0))=(s.take (i+1)).map f++s.drop (i+1):=by
 have hg:=qT (d:=(0:UInt8)) h
 have hl:((s.take i).map f).length=i:=by simp; omega
 rw [hg,List.set_append_right _ _ (by omega),hl,Nat.sub_self,List.set_cons_zero]
 rw [show s.take (i+1)=s.take i++[s.getD i 0] by
  rw [List.take_add_one]; simp [List.getD,h]]
 simp
theorem qpH (k0:LU→OA) (s:LU) (hl:s.length≤1048576):∀ (d i n:Nat),i+d=s.length→d < n →
 qkc k0 n ((s.take i).map z126++s.drop i) (s.length:Nat) (i:Nat)=k0 (s.map z126)
 | d,i,0,hi,hn=>by omega
 | 0,i,n+1,hi,hn=>by
  show qfi k0 (qkc k0 n) n _ _ _=_
  unfold qfi
  rw [dF (by omega),cond_false,show i=s.length by omega,List.take_length,List.drop_length,List.append_nil]
 | d+1,i,n+1,hi,hn=>by
  show qfi k0 (qkc k0 n) n _ _ _=_
  unfold qfi
  have hlt:i < s.length:=by omega
  have ih:=qpH k0 s hl d (i+1) n (by omega) (by omega)
  have hlen:((s.take i).map z126++s.drop i).length=s.length:=by simp; omega
  have hg:((s.take i).map z126++s.drop i).getD i 0=s.getD i 0:=by
   rw [qT (d:=(0:UInt8)) hlt]
   simp [List.getD,Nat.min_eq_left (Nat.le_of_lt hlt)]
  have hs:=qJw z126 s i hlt
  simp only at hs
  simp (disch:=omega) only [dT,cond_true,Bool.and_true,tn,qj,hlen,hg]
  rw [hs]
  exact ih
theorem qES:∀ (s0:LU),(qrh s0=true)→∃ n,qAm n s0=qBJ (z79 s0):=fun s h=>⟨s.length+1,by
 unfold qAm
 rw [show qdP s=true from h,show z38 s=s from rfl]
 exact qpH (qho (s.length+1)) s (qh h) s.length 0 (s.length+1) (by omega) (by omega)⟩
theorem qhR (k0:Int→OA) (s:LU) (k:Int) (hl:s.length≤1048576):∀ (d i n m:Nat),i+d=s.length→d < n→m+d≤1048576 →
 qep k0 n k (m:Nat) s (s.length:Nat) (i:Nat)=k0 ((m+(s.drop i).countP (fun c=>z129 c k):Nat):Int)
 | d,i,0,m,hi,hn,hm=>by omega
 | 0,i,n+1,m,hi,hn,hm=>by
  show qcM k0 (qep k0 n) n _ _ _ _ _=_
  unfold qcM
  rw [dF (by omega),cond_false,List.drop_eq_nil_of_le (by omega)]
  rfl
 | d+1,i,n+1,m,hi,hn,hm=>by
  show qcM k0 (qep k0 n) n _ _ _ _ _=_
  unfold qcM
  have hlt:i < s.length:=by omega
  have ih:=qhR k0 s k hl d (i+1) n m (by omega) (by omega) (by omega)
  have ih2:=qhR k0 s k hl d (i+1) n (m+1) (by omega) (by omega) (by omega)
  rw [qT (d:=(0:UInt8)) hlt,List.countP_cons]
  simp (disch:=omega) only [dT,cond_true,Bool.and_true,tn,qj]
  cases z129 (s.getD i 0) k with
  | true=>rw [cond_true,ih2]; congr 2; simp; omega
  | false=>rw [cond_false,ih]; congr 2
theorem qAO:∀ (s0:LU) (kinds1:Int),(qpN s0 kinds1=true)→∃ n,qpe n s0 kinds1=qvC (z127 s0 kinds1):=fun s k h=>⟨s.length+1,by
 have hl:=qh h
 unfold qpe
 have:=qhR (qeq (s.length+1)) s k hl s.length 0 (s.length+1) 0 (by omega) (by omega) (by omega)
 refine Eq.trans this ?_
 rw [Nat.zero_add,List.drop_zero]
 rfl⟩
theorem qwO (p:UInt8→Bool) (s:LU):(((s.countP p:Nat):Int)==((s.length:Nat):Int))=s.all p:=by
 rw [Bool.eq_iff_iff]
 simp only [beq_iff_eq,List.all_eq_true]
 have:=List.countP_eq_length (p:=p) (l:=s)
 constructor
 ·intro h; exact this.1 (by omega)
 ·intro h; have:=this.2 h; omega
theorem qET:∀ (s0:LU) (kinds1:Int),(qri s0 kinds1=true)→∃ n,qEf n s0 kinds1=qvD (z80 s0 kinds1):=fun s k h=>⟨0,by
 unfold qEf
 rw [show qpN s k=true from h]
 show qvD (z127 s k==((s.length:Nat):Int))=_
 unfold z127
 rw [qwO]
 rfl⟩
theorem qAP:(fun c:UInt8=>([32,9]:LU).contains c)=blank:=by
 funext c
 unfold blank
 simp only [List.contains_cons,List.contains_nil,Bool.or_false]
theorem bneT {a b:Int} (h:a≠b):(a != b)=true:=by simp [bne,h]
theorem bneF {a b:Int} (h:a=b):(a != b)=false:=by simp [h]
theorem qwP (ret:Bool→OA) (k0:OA) (hk:k0=ret false) (s:LU) (c:UInt8) (hl:s.length≤1048576):∀ (d i n:Nat),i+d=s.length→d < n →
 qew ret k0 n s c (i:Nat)=ret ((s.drop i).contains c)
 | d,i,0,hi,hn=>by omega
 | 0,i,n+1,hi,hn=>by
  show qcP ret k0 (qew ret k0 n) n _ _ _=_
  unfold qcP
  rw [dF (by omega),cond_false,List.drop_eq_nil_of_le (by omega),hk]
  rfl
 | d+1,i,n+1,hi,hn=>by
  show qcP ret k0 (qew ret k0 n) n _ _ _=_
  unfold qcP
  have hlt:i < s.length:=by omega
  have ih:=qwP ret k0 hk s c hl d (i+1) n (by omega) (by omega)
  rw [qT (d:=(0:UInt8)) hlt,List.contains_cons]
  simp (disch:=omega) only [dT,cond_true,Bool.and_true,tn,qj]
  rw [ih,show (s.getD i 0==c)=(c==s.getD i 0) from Bool.beq_comm]
  cases (c==s.getD i 0) <;> rfl
theorem qAQ (s:LU) (c:UInt8) (hl:s.length≤1048576):∃ n,qlE n s c=qft (z179 s c):=⟨s.length+1,by
 unfold qlE
 have:=qwP qft (qex (s.length+1)) rfl s c hl s.length 0 (s.length+1) (by omega) (by omega)
 exact this⟩
theorem qAR:∀ (s0:LU) (c1:UInt8),(qCk s0 c1=true)→∃ n,qlE n s0 c1=qft (z179 s0 c1):=fun s c h=>qAQ s c (qh h)
theorem qEU:∀ (c0:UInt8) (kinds1:Int),∃ n,qJu n c0 kinds1=qCb (z82 c0 kinds1):=fun _ _=>⟨0,rfl⟩
theorem qcD (k0:Int→OA) (s:LU) (k:Int) (hl:s.length≤1048576):∀ (d i n m:Nat),i+d=s.length→d < n→m+d≤1048576 →
 qkg k0 n s k (m:Nat) (i:Nat)=k0 ((m+(s.drop i).countP (fun c=>z129 c k):Nat):Int)
 | d,i,0,m,hi,hn,hm=>by omega
 | 0,i,n+1,m,hi,hn,hm=>by
  show qfu k0 (qkg k0 n) n _ _ _ _=_
  unfold qfu
  rw [dF (by omega),cond_false,List.drop_eq_nil_of_le (by omega)]
  rfl
 | d+1,i,n+1,m,hi,hn,hm=>by
  show qfu k0 (qkg k0 n) n _ _ _ _=_
  unfold qfu
  have hlt:i < s.length:=by omega
  have ih:=qcD k0 s k hl d (i+1) n m (by omega) (by omega) (by omega)
  have ih2:=qcD k0 s k hl d (i+1) n (m+1) (by omega) (by omega) (by omega)
  rw [qT (d:=(0:UInt8)) hlt,List.countP_cons]
  simp (disch:=omega) only [dT,cond_true,Bool.and_true,tn,qj]
  rw [show z82 (s.getD i 0) k=z129 (s.getD i 0) k from rfl]
  cases z129 (s.getD i 0) k with
  | true=>rw [cond_true,ih2]; congr 2; simp; omega
  | false=>rw [cond_false,ih]; congr 2
theorem qEV:∀ (s0:LU) (kinds1:Int),(qrj s0 kinds1=true)→∃ n,qAv n s0 kinds1=qCc (z43 s0 kinds1):=fun s k h=>⟨s.length+1,by
 have hl:=qh h
 unfold qAv
 have:=qcD (qhD (s.length+1)) s k hl s.length 0 (s.length+1) 0 (by omega) (by omega) (by omega)
 refine Eq.trans this ?_
 rw [Nat.zero_add,List.drop_zero]
 rfl⟩
theorem qEW {P:UInt8→Prop} (h:∀ i:Fin 256,P (UInt8.ofNat i.val)) (c:UInt8):P c:=by
 have:=h ⟨c.toNat,c.toNat_lt⟩
 simpa using this
theorem qrc:∀ i:Fin 256,(bif decide ((65:UInt8)≤UInt8.ofNat i.val) then (bif decide (UInt8.ofNat i.val≤(90:UInt8)) then UInt8.ofNat i.val+32 else UInt8.ofNat i.val) else UInt8.ofNat i.val)=z126 (UInt8.ofNat i.val):=by decide +kernel
theorem qEX:∀ (c0:UInt8),∃ n,qEz n c0=qpr (z81 c0):=fun c=>⟨0,by
 have h:=qEW (P:=fun c=>(bif decide ((65:UInt8)≤c) then (bif decide (c≤(90:UInt8)) then c+32 else c) else c)=z126 c) qrc c
 unfold qEz z81
 rw [← h]
 cases decide ((65:UInt8)≤c) <;> cases decide (c≤(90:UInt8)) <;> rfl⟩
theorem qCg {s:LU} (h:s.length=1):∃ c,s=[c]:=List.length_eq_one_iff.1 h
theorem qAS:∀ (s0:LU) (sep1:LU),(qiL s0 sep1=true)→∃ n,qvu n s0 sep1=qhn (z124 s0 sep1):=fun s sep h=>⟨0,by
 unfold qiL at h
 simp only [Bool.and_eq_true,decide_eq_true_eq] at h
 obtain ⟨c,rfl⟩:=qCg h.2
 rfl⟩
theorem qeH (c:UInt8) (cur:LU) (x:UInt8) (r:LU):cutC c cur (x :: r)=bif x==c then cur :: cutC c [] r else cutC c (cur++[x]) r:=rfl
theorem qpI (c:UInt8):∀ (s cur:LU),c ∉ s→cutC c cur s=[cur++s]
 | [],cur,_=>by rw [List.append_nil]; rfl
 | x :: r,cur,h=>by
  have hx:(x==c)=false:=beq_eq_false_iff_ne.2 (fun e=>h (by rw [e]; exact List.mem_cons_self ..))
  rw [qeH,hx,cond_false,qpI c r _ (fun hm=>h (List.mem_cons_of_mem _ hm)),List.append_assoc]
  rfl
theorem qCh (c:UInt8) (r:LU):∀ (x cur:LU),c ∉ x→cutC c cur (x++c :: r)=(cur++x) :: cutC c [] r
 | [],cur,_=>by
  show cutC c cur (c :: r)=_
  rw [qeH,beq_self_eq_true,cond_true,List.append_nil]
 | y :: x,cur,h=>by
  have hx:(y==c)=false:=beq_eq_false_iff_ne.2 (fun e=>h (by rw [e]; exact List.mem_cons_self ..))
  show cutC c cur (y :: (x++c :: r))=_
  rw [qeH,hx,cond_false,qCh c r x _ (fun hm=>h (List.mem_cons_of_mem _ hm)),List.append_assoc]
  rfl
theorem qhS (c:UInt8) (r:LU):∀ (x:LU),c ∉ x→Lib.indexByte (x++c :: r) c=(x.length:Int)
 | [],_=>by simp [Lib.indexByte]
 | y :: x,h=>by
  have hx:(y==c)=false:=beq_eq_false_iff_ne.2 (fun e=>h (by rw [e]; exact List.mem_cons_self ..))
  have ih:=qhS c r x (fun hm=>h (List.mem_cons_of_mem _ hm))
  show Lib.indexByte (y :: (x++c :: r)) c=_
  unfold Lib.indexByte
  rw [ih,hx]
  have e:((x.length:Int) == -1)=false:=by simp
  simp [e]
theorem qwQ (m:Nat) (c:UInt8) (N:Nat) (hN:N≤1048576):∀ (d:Nat) (s:LU) (done:List LU) (n:Nat),s.count c=d→d < n→done.length+d=N→s.length≤1048576 →
 qdr (qai m) n s [c] 0 (N:Nat) (done++List.replicate (d+1) []) (done.length:Nat)=qly (done++cutC c [] s)
 | d,s,done,0,_,hn,_,_=>by omega
 | 0,s,done,n+1,hc,hn,hd,hs=>by
  show qcL (qai m) (qdr (qai m) n) n _ _ _ _ _ _=_
  unfold qcL
  have hmem:c ∉ s:=List.count_eq_zero.1 hc
  rw [dF (by omega),cond_false]
  unfold qai
  have hset:List.set (done++List.replicate (0+1) ([]:LU)) done.length s=done++[s]:=by
   rw [List.set_append_right _ _ (Nat.le_refl _),Nat.sub_self]
   rfl
  have hlen:(done++List.replicate (0+1) ([]:LU)).length=done.length+1:=by simp
  rw [tn,hset,hlen,qj (by omega)]
  have hl2:(done++[s]).length=done.length+1:=by simp
  rw [hl2]
  simp (disch:=omega) only [dT,cond_true,Bool.and_true,tn]
  rw [List.drop_zero,List.take_of_length_le (by omega),qpI c s [] hmem]
  rfl
 | d+1,s,done,n+1,hc,hn,hd,hs=>by
  show qcL (qai m) (qdr (qai m) n) n _ _ _ _ _ _=_
  unfold qcL
  have hmem:c∈s:=List.count_pos_iff.1 (by omega)
  obtain ⟨x,r,rfl,hx⟩:=List.eq_append_cons_of_mem hmem
  have hi:z125 (x++c :: r) [c]=(x.length:Int):=by
   unfold z125
   rw [Lib.index_one,qhS c r x hx]
  have hlen:(x++c :: r).length=x.length+(r.length+1):=by simp
  have hok:qiM (x++c :: r) [c]=true:=by
   unfold qiM
   rw [ql hs]
   rfl
  have hcr:r.count c=d:=by
   rw [List.count_append,List.count_eq_zero.2 hx,List.count_cons_self] at hc
   omega
  have hdl:(done++List.replicate (d+1+1) ([]:LU)).length=done.length+(d+2):=by simp
  have hset:List.set (done++List.replicate (d+1+1) ([]:LU)) done.length x=(done++[x])++List.replicate (d+1) []:=by
   rw [List.set_append_right _ _ (Nat.le_refl _),Nat.sub_self,List.append_assoc]
   rfl
  have h1:(([c]:LU).length:Nat)=1:=rfl
  have hw:IntKind.wrap .i64 ((x.length:Int)+0)=(x.length:Int):=by rw [wr (by omega)]; omega
  have hw2:IntKind.wrap .i64 ((x.length:Int)+((1:Nat):Int))=((x.length+1:Nat):Int):=by rw [wr (by omega)]; omega
  have ih:=qwQ m c N hN d r (done++[x]) n hcr (by omega) (by simp; omega) (by omega)
  rw [hi,hok,h1,hw,hw2,hdl,hlen]
  simp (disch:=omega) only [dT,dF,cond_true,cond_false,Bool.and_true,tn,qj]
  have e1:(x++c :: r).take (x.length+(r.length+1))=x++c :: r:=List.take_of_length_le (by omega)
  have e2:(x++c :: r).take x.length=x:=List.take_left
  have e3:(x++c :: r).drop (x.length+1)=r:=by
   rw [← List.drop_drop,List.drop_left]
   rfl
  rw [e1,e2,e3,List.drop_zero,hset,qCh c r x [] hx]
  rw [show (done++[x]).length=done.length+1 by simp] at ih
  rw [ih,List.append_assoc]
  rfl
theorem qEY:∀ (s0:LU) (sep1:LU) (sepSave2:Int) (n3:Int),(qrf s0 sep1 sepSave2 n3=true)→∃ n,qAl n s0 sep1 sepSave2 n3=qly (z78 s0 sep1 sepSave2 n3):=fun s sep save k h=>⟨s.length+1,by
 unfold qrf at h
 simp only [Bool.and_eq_true,decide_eq_true_eq,beq_iff_eq] at h
 obtain ⟨⟨h1,h2⟩,rfl,rfl⟩:=h
 obtain ⟨c,rfl⟩:=qCg h2
 have hl:=qh h1
 have hc:s.count c≤s.length:=List.count_le_length
 unfold qAl
 have hok:qiL s [c]=true:=by unfold qiL; rw [h1]; rfl
 have hcnt:z124 s [c]=((s.count c:Nat):Int):=rfl
 have hw1:IntKind.wrap .i64 (((s.length:Nat):Int)+1)=((s.length+1:Nat):Int):=by rw [wr (by omega)]; omega
 have hw2:IntKind.wrap .i64 (((s.count c:Nat):Int)+1)=((s.count c+1:Nat):Int):=by rw [wr (by omega)]; omega
 have hw3:IntKind.wrap .i64 (((s.count c+1:Nat):Int) - 1)=((s.count c:Nat):Int):=by rw [wr (by omega)]; omega
 have hroom:((s.count c+1:Nat):Int)≤(room:Int):=by unfold room; omega
 rw [show (((-1:Int))==0)=false from rfl,show ((((([c]:LU)).length:Nat):Int)==0)=false from rfl,show decide ((-1:Int) < 0)=true from rfl,hok,hcnt,hw1,hw2]
 simp only [cond_false,cond_true,Bool.and_true]
 rw [dF (show ¬ ((s.length+1:Nat):Int) < ((s.count c+1:Nat):Int) by omega),cond_false,hw3,dT hroom,tn]
 simp (disch:=omega) only [dT,cond_true,Bool.and_true]
 exact qwQ (s.length+1) c (s.count c) (by omega) (s.count c) s [] (s.length+1) rfl (by omega) (by simp) hl⟩
theorem qEZ:∀ (s0:LU) (sep1:LU),(qxa s0 sep1=true)→∃ n,qEd n s0 sep1=qBI (z37 s0 sep1):=fun s sep h=>⟨0,by
 unfold qEd
 have:qrf s sep 0 (-1)=true:=by
  unfold qrf
  rw [show (lenOk s&&decide (sep.length=1))=true from h]
  rfl
 rw [this]
 rfl⟩
theorem qwR (s:LU) (c:UInt8):(z79 s==[c])=(match s with | [x]=>z126 x==c | _=>false):=by
 unfold z79
 match s with
 | []=>rfl
 | [x]=>simp
 | x :: y :: r=>simp
theorem qFa:∀ (s0:LU),(qrg s0=true)→∃ n,qEe n s0=qlz (z39 s0):=fun s h=>⟨0,by
 unfold qEe
 rw [show qrh s=true from h,qwR,qwR]
 match s with
 | []=>rfl
 | [x] =>
  show (bif z126 x==98 then _ else bif z126 x==113 then _ else _)=qlz (bif z126 x==98 then 1 else bif z126 x==113 then 2 else 0)
  cases (z126 x==98) <;> cases (z126 x==113) <;> rfl
 | x :: y :: r=>rfl⟩
theorem qFb:∀ (s0:LU) (kinds1:Int),(qeI s0 kinds1=true)→∃ n,qEg n s0 kinds1=qvE (z40 s0 kinds1):=fun s k h=>⟨0,by
 unfold qEg
 rw [show qri s k=true from h]
 cases s with
 | nil=>rfl
 | cons x r =>
  rw [dT (by simp only [List.length_cons]; omega)]
  rfl⟩
theorem qFc:∀ (c0:UInt8),∃ n,qEA n c0=qps (z42 c0):=fun c=>⟨0,by
 unfold qEA z42 codeC z81
 cases (z126 c==98) <;> cases (z126 c==113) <;> rfl⟩
theorem qkl (c:UInt8):∀ (s cur x:LU),x∈cutC c cur s→x.length≤cur.length+s.length
 | [],cur,x,h=>by
  have:x∈[cur]:=h
  simp only [List.mem_singleton] at this
  subst this
  exact Nat.le_refl _
 | y :: r,cur,x,h=>by
  rw [qeH] at h
  cases hy:(y==c) with
  | true =>
   rw [hy,cond_true] at h
   rcases List.mem_cons.1 h with rfl | h
   ·exact Nat.le_add_right _ _
   ·have:=qkl c r [] x h
    simp only [List.length_nil,List.length_cons] at this ⊢
    omega
  | false =>
   rw [hy,cond_false] at h
   have:=qkl c r _ x h
   simp only [List.length_append,List.length_cons,List.length_nil] at this ⊢
   omega
theorem five {α:Type} {L:List α} (h:L.length=5):∃ a n c t b,L=[a,n,c,t,b]:=by
 match L,h with
 | [a,n,c,t,b],_=>exact ⟨a,n,c,t,b,rfl⟩
theorem qlQ (k:Nat) {L:List LU} (h:L.length≠5):qhU k L=(qlR,3):=by
 unfold qhU
 split
 ·exact absurd rfl h
 ·rfl
theorem qrd (k:Nat) (a name c text b:LU):qhU k [a,name,c,text,b]=bif decide (a=[61])&&decide (b=[61]) then (bif (codeL c==0)||(!(fullB name 64) || !(fullB text 4)) then (qlR,3) else bif decide (75 < k) then (qlR,12) else ((name,(codeL c,(text,()))),0)) else (qlR,3):=rfl
theorem qFd:∀ (s0:LU),(qie s0=true)→∃ n,qEh n s0=qA (z11 s0).1 (z11 s0).2:=fun s h=>⟨0,by
 have hl:=qh h
 have hok:qxa s [63]=true:=by unfold qxa; rw [show lenOk s=true from h]; rfl
 have hmem:∀ x∈cutC 63 [] s,x.length≤1048576:=fun x hx=>by
  have:=qkl 63 s [] x hx
  simp only [List.length_nil] at this
  omega
 unfold qEh z11
 rw [hok,show z37 s [63]=cutC 63 [] s from rfl]
 generalize cutC 63 [] s=L at hmem ⊢
 have h75:decide ((75:Int) < ((s.length:Nat):Int))=decide (75 < s.length):=by rw [Bool.eq_iff_iff]; simp only [decide_eq_true_eq]; omega
 rw [h75]
 generalize hk:s.length=k
 by_cases h5:L.length=5
 ·obtain ⟨a,n,c,t,b,rfl⟩:=five h5
  have okn:qdP n=true:=ql (hmem n (by simp))
  have okt:qdP t=true:=ql (hmem t (by simp))
  have okc:qrg c=true:=ql (hmem c (by simp))
  have okn2:qeI n 64=true:=ql (hmem n (by simp))
  have okt2:qeI t 4=true:=ql (hmem t (by simp))
  have c0:(decide ((0:Int)≤0)&&decide ((0:Int) < ((List.length [a,n,c,t,b]:Nat):Int)))=true:=rfl
  have c1:(decide ((0:Int)≤1)&&decide ((1:Int) < ((List.length [a,n,c,t,b]:Nat):Int)))=true:=rfl
  have c2:(decide ((0:Int)≤2)&&decide ((2:Int) < ((List.length [a,n,c,t,b]:Nat):Int)))=true:=rfl
  have c3:(decide ((0:Int)≤3)&&decide ((3:Int) < ((List.length [a,n,c,t,b]:Nat):Int)))=true:=rfl
  have c4:(decide ((0:Int)≤4)&&decide ((4:Int) < ((List.length [a,n,c,t,b]:Nat):Int)))=true:=rfl
  have g0:List.getD [a,n,c,t,b] (Int.toNat 0) []=a:=rfl
  have g1:List.getD [a,n,c,t,b] (Int.toNat 1) []=n:=rfl
  have g2:List.getD [a,n,c,t,b] (Int.toNat 2) []=c:=rfl
  have g3:List.getD [a,n,c,t,b] (Int.toNat 3) []=t:=rfl
  have g4:List.getD [a,n,c,t,b] (Int.toNat 4) []=b:=rfl
  have e5:((((List.length [a,n,c,t,b]:Nat)):Int) != 5)=false:=rfl
  have ecl:∀ x,z38 x=x:=fun _=>rfl
  simp only [e5,c0,c1,c2,c3,c4,g0,g1,g2,g3,g4,okn,okt,okc,okn2,okt2,ecl,qja,cond_true,cond_false,Bool.and_true]
  show _=qA (qhU k [a,n,c,t,b]).1 (qhU k [a,n,c,t,b]).2
  unfold qhU
  simp only [show z39 c=codeL c from rfl,show z40 n 64=fullB n 64 from rfl,show z40 t 4=fullB t 4 from rfl]
  by_cases ha:a=[61]
  ·by_cases hb:b=[61]
   ·subst ha hb
    simp only [decide_true,Bool.and_true,cond_true,bne_self_eq_false,cond_false]
    cases (codeL c==0) <;> cases fullB n 64 <;> cases fullB t 4 <;> cases decide (75 < k) <;> rfl
   ·rw [decide_eq_false hb,Bool.and_false,show (b != [61])=true from bne_iff_ne.2 hb,cond_true]
    subst ha
    rfl
  ·rw [decide_eq_false ha,Bool.false_and,show (a != [61])=true from bne_iff_ne.2 ha,cond_true]
   rfl
 ·rw [bneT (by omega),qlQ k h5]
  rfl⟩
theorem qFe:∀ (s0:LU),(qFv s0=true)→∃ n,qEi n s0=qBO (z14 s0):=fun s h=>⟨0,by
 unfold qEi
 rw [show qie s=true from h]
 rfl⟩
theorem qFf:∀ (s0:LU),(qlS s0=true)→∃ n,qEB n s0=qbf (z12 s0).1 (z12 s0).2:=fun s h=>⟨0,by
 have hl:=qh h
 have hmem:∀ x∈cutC 63 [] s,x.length≤1048576:=fun x hx=>by
  have:=qkl 63 s [] x hx
  simp only [List.length_nil] at this
  omega
 unfold qEB z12 z11
 rw [show qBo s=true from h,show z41 s=cutC 63 [] s from rfl]
 generalize cutC 63 [] s=L at hmem ⊢
 have h75:decide ((75:Int) < ((s.length:Nat):Int))=decide (75 < s.length):=by rw [Bool.eq_iff_iff]; simp only [decide_eq_true_eq]; omega
 rw [h75]
 generalize hk:s.length=k
 by_cases h5:L.length=5
 ·obtain ⟨a,n,c,t,b,rfl⟩:=five h5
  have okn2:qrj n 64=true:=ql (hmem n (by simp))
  have okt2:qrj t 4=true:=ql (hmem t (by simp))
  have c0:(decide ((0:Int)≤0)&&decide ((0:Int) < ((List.length [a,n,c,t,b]:Nat):Int)))=true:=rfl
  have c1:(decide ((0:Int)≤1)&&decide ((1:Int) < ((List.length [a,n,c,t,b]:Nat):Int)))=true:=rfl
  have c2:(decide ((0:Int)≤2)&&decide ((2:Int) < ((List.length [a,n,c,t,b]:Nat):Int)))=true:=rfl
  have c3:(decide ((0:Int)≤3)&&decide ((3:Int) < ((List.length [a,n,c,t,b]:Nat):Int)))=true:=rfl
  have c4:(decide ((0:Int)≤4)&&decide ((4:Int) < ((List.length [a,n,c,t,b]:Nat):Int)))=true:=rfl
  have g0:List.getD [a,n,c,t,b] (Int.toNat 0) []=a:=rfl
  have g1:List.getD [a,n,c,t,b] (Int.toNat 1) []=n:=rfl
  have g2:List.getD [a,n,c,t,b] (Int.toNat 2) []=c:=rfl
  have g3:List.getD [a,n,c,t,b] (Int.toNat 3) []=t:=rfl
  have g4:List.getD [a,n,c,t,b] (Int.toNat 4) []=b:=rfl
  have e5:((((List.length [a,n,c,t,b]:Nat)):Int) != 5)=false:=rfl
  have full:∀ (x:LU) (q:Int),fullB x q=(!((((x.length:Nat):Int))==0) && !(z43 x q != ((x.length:Nat):Int))):=fun x q=>by
   unfold fullB
   cases x with
   | nil=>rfl
   | cons y r =>
    rw [bneI (show (((y :: r).length:Nat):Int)≠0 by simp only [List.length_cons]; omega)]
    show (true&&List.all (y :: r) _)=(true&&_)
    rw [Bool.true_and,Bool.true_and,Bool.eq_iff_iff]
    show _↔(!((((y :: r).countP (fun c=>z129 c q):Nat):Int) != (((y :: r).length:Nat):Int)))=true
    rw [List.all_eq_true]
    constructor
    ·intro hh
     rw [bneF (by rw [List.countP_eq_length.2 hh])]
     rfl
    ·intro hh
     have:(y :: r).countP (fun c=>z129 c q)=(y :: r).length:=by
      rcases Decidable.em ((y :: r).countP (fun c=>z129 c q)=(y :: r).length) with e | e
      ·exact e
      ·rw [bneT (by omega)] at hh
       cases hh
     exact List.countP_eq_length.1 this
  show _=qbf (qhU k [a,n,c,t,b]).1 (qhU k [a,n,c,t,b]).2
  rw [qrd,full n 64,full t 4]
  simp only [e5,c0,c1,c2,c3,c4,g0,g1,g2,g3,g4,okn2,okt2,cond_true,cond_false,Bool.and_true]
  by_cases ha:a=[61]
  ·by_cases hb:b=[61]
   ·subst ha hb
    simp only [decide_true,Bool.and_true,cond_true,bne_self_eq_false,cond_false]
    match c with
    | []=>rfl
    | [x] =>
     show _=qbf _ _
     have q0:(((([x]:LU).length:Nat):Int) != 1)=false:=rfl
     have q1:(decide ((0:Int)≤0)&&decide ((0:Int) < ((List.length [x]:Nat):Int)))=true:=rfl
     have q2:List.getD [x] (Int.toNat 0) 0=x:=rfl
     have q3:codeL [x]=codeC x:=rfl
     simp only [q0,q1,q2,q3,show z42 x=codeC x from rfl,cond_true,cond_false]
     cases (codeC x==0) <;> cases ((((n.length:Nat)):Int)==0) <;> cases (z43 n 64 != ((n.length:Nat):Int)) <;> cases ((((t.length:Nat)):Int)==0) <;> cases (z43 t 4 != ((t.length:Nat):Int)) <;> cases decide (75 < k) <;> rfl
    | x :: y :: r =>
     have q0:((((x :: y :: r).length:Nat):Int) != 1)=true:=bneT (by simp only [List.length_cons]; omega)
     rw [q0]
     rfl
   ·rw [decide_eq_false hb,Bool.and_false,show (b != [61])=true from bne_iff_ne.2 hb,cond_true]
    subst ha
    rfl
  ·rw [decide_eq_false ha,Bool.false_and,show (a != [61])=true from bne_iff_ne.2 ha,cond_true]
   rfl
 ·rw [bneT (by omega),qlQ k h5]
  rfl⟩
theorem qAT {α:Type} (pre:List α) (x d:α):List.getD (pre++[x]) pre.length d=x:=by
 rw [List.getD_eq_getElem?_getD,List.getElem?_append_right (Nat.le_refl _),Nat.sub_self]
 rfl
theorem qFg {α:Type} (pre:List α) (x y:α):List.set (pre++[x]) pre.length y=pre++[y]:=by
 rw [List.set_append_right _ _ (Nat.le_refl _),Nat.sub_self]
 rfl
theorem qnF (k0:List LU→OA) (s:LU) (hl:s.length≤1048576):∀ (d i n:Nat) (pre:List LU) (cur:LU),i+d=s.length→d < n→pre.length+d≤1048576→cur.length+d≤1048576 →
 qkf k0 n s (pre++[cur]) (i:Nat)=k0 (pre++cutC 63 cur (s.drop i))
 | d,i,0,pre,cur,hi,hn,hp,hc=>by omega
 | 0,i,n+1,pre,cur,hi,hn,hp,hc=>by
  show qfs k0 (qkf k0 n) n _ _ _=_
  unfold qfs
  rw [dF (by omega),cond_false,List.drop_eq_nil_of_le (by omega)]
  rfl
 | d+1,i,n+1,pre,cur,hi,hn,hp,hc=>by
  show qfs k0 (qkf k0 n) n _ _ _=_
  unfold qfs
  have hlt:i < s.length:=by omega
  have h1:=qnF k0 s hl d (i+1) n (pre++[cur]) [] (by omega) (by omega) (by simp; omega) (by simp; omega)
  have h2:=qnF k0 s hl d (i+1) n pre (cur++[List.getD s i 0]) (by omega) (by omega) (by omega) (by simp; omega)
  have hlen:(pre++[cur]).length=pre.length+1:=by simp
  have hw:IntKind.wrap .i64 (((pre.length+1:Nat):Int) - 1)=((pre.length:Nat):Int):=by rw [wr (by omega)]; omega
  have r1:decide (pre.length+1+([[]]:List LU).length≤room)=true:=dT (by unfold room; simp; omega)
  have r2:decide (cur.length+([List.getD s i 0]:LU).length≤room)=true:=dT (by unfold room; simp; omega)
  rw [qT (d:=(0:UInt8)) hlt,qeH,hlen,hw]
  simp (disch:=omega) only [dT,cond_true,Bool.and_true,tn,qj,qAT,qFg,r1,r2,beq_self_eq_true]
  cases hx:(List.getD s i 0==63) with
  | true =>
   rw [cond_true,cond_true,h1,List.append_assoc]
   rfl
  | false=>rw [cond_false,cond_false,h2]
theorem qFh:∀ (s0:LU),(qBo s0=true)→∃ n,qAu n s0=qCa (z41 s0):=fun s h=>⟨s.length+1,by
 have hl:=qh h
 unfold qAu
 exact qnF (qhC (s.length+1)) s hl s.length 0 (s.length+1) [] [] (by omega) (by omega) (by simpa using hl) (by simpa using hl)⟩
theorem qAU:∀ (a0:LU) (b1:LU),∃ n,qBH n a0 b1=qvt (z175 a0 b1):=fun _ _=>⟨0,rfl⟩
theorem qAV:∀ (s0:LU),(qiO s0=true)→∃ n,qwm n s0=qwl (z148 s0):=fun s h=>⟨0,by
 have hl:=qh h
 have h1:qiN s [32,9]=true:=by unfold qiN; rw [show lenOk s=true from h]; rfl
 have e:z190 s [32,9]=z148 s:=by unfold z190 z148; rw [qAP]
 unfold qwm
 rw [h1,e,show qdP (z148 s)=true from ql (Nat.le_trans (qpG _ _) hl)]
 rfl⟩
theorem qkm (p:UInt8→Bool) (s:LU):dropR p (s.dropWhile p)=qhW p s:=by
 unfold qhW
 induction s with
 | nil=>rfl
 | cons c s ih =>
  rw [List.dropWhile_cons]
  cases hc:p c with
  | true =>
   rw [if_pos rfl,ih]
   rcases List.eq_nil_or_concat (dropR p s) with h0 | ⟨t,x,h0⟩
   ·have:dropR p (c :: s)=[]:=by
     unfold dropR at h0 ⊢
     rw [List.reverse_cons,List.dropWhile_append]
     have h1:s.reverse.dropWhile p=[]:=by simpa using h0
     rw [h1]
     simp [hc]
    rw [h0,this]
   ·have:dropR p (c :: s)=c :: dropR p s:=by
     unfold dropR at h0 ⊢
     rw [List.reverse_cons,List.dropWhile_append]
     have h1:(s.reverse.dropWhile p).isEmpty=false:=by
      cases hh:s.reverse.dropWhile p with
      | nil=>rw [hh] at h0; simp at h0
      | cons a b=>rfl
     rw [h1]
     simp
    rw [this,List.dropWhile_cons,hc]
    rfl
  | false =>
   simp only [Bool.false_eq_true,if_false]
   have:dropR p (c :: s)=c :: dropR p s∨dropR p (c :: s)=[c]∧dropR p s=[]:=by
    unfold dropR
    rw [List.reverse_cons,List.dropWhile_append]
    cases hh:s.reverse.dropWhile p with
    | nil=>right; simp [hc]
    | cons a b=>left; simp
   rcases this with h | ⟨h,_⟩
   ·rw [h,List.dropWhile_cons,hc]; rfl
   ·rw [h,List.dropWhile_cons,hc]; rfl
theorem qwT (x:UInt8) (s:LU) (c:UInt8):Lib.indexByte (x :: s) c=if (x==c)=true then 0 else if (Lib.indexByte s c == -1)=true then -1 else Lib.indexByte s c+1:=rfl
theorem ib_lt:∀ (s:LU) (c:UInt8),Lib.indexByte s c < (s.length:Int)
 | [],c=>by show (-1:Int) < ((0:Nat):Int); omega
 | x :: s,c=>by
  have:=ib_lt s c
  have hg:=Lib.indexByte_ge s c
  rw [qwT]
  simp only [List.length_cons]
  split
  ·omega
  ·split <;> omega
theorem qiI:∀ (s:LU) (c:UInt8),(Lib.indexByte s c != -1)=s.contains c
 | [],c=>rfl
 | x :: s,c=>by
  have ih:=qiI s c
  have hg:=Lib.indexByte_ge s c
  rw [List.contains_cons,← ih,qwT]
  cases hx:(x==c) with
  | true =>
   have:(c==x)=true:=by rw [Bool.beq_comm]; exact hx
   rw [this]; rfl
  | false =>
   have:(c==x)=false:=by rw [Bool.beq_comm]; exact hx
   rw [this,Bool.false_or]
   simp only [Bool.false_eq_true,if_false]
   by_cases h:Lib.indexByte s c = -1
   ·rw [h]; rfl
   ·rw [if_neg (by simpa using h),bneT (by omega),bneT h]
theorem qLO (s:LU) (c:UInt8):decide (Lib.indexByte s c < 0) = !s.contains c:=by
 have hg:=Lib.indexByte_ge s c
 rw [← qiI]
 by_cases h:Lib.indexByte s c = -1
 ·rw [h]; rfl
 ·rw [bneT h,dF (by omega)]; rfl
theorem and15 (n:Int):bits .and .i64 n 15=n % 16:=by
 have h:(BitVec.ofInt 64 n &&& BitVec.ofInt 64 15).toNat=(n % 16).toNat:=by
  rw [BitVec.toNat_and]
  have h1:(BitVec.ofInt 64 15).toNat=2 ^ 4 - 1:=by decide
  rw [h1,Nat.and_two_pow_sub_one_eq_mod,BitVec.toNat_ofInt]
  omega
 show IntKind.wrap .i64 (((BitVec.ofInt 64 n &&& BitVec.ofInt 64 15).toNat:Nat):Int)=_
 rw [h,IntWalk.i64_in _ (by omega)]
 omega
theorem qAW:∀ (n0:Int),(qdp n0=true)→∃ n,qvH n n0=qvG (z181 n0):=fun n _=>⟨0,by
 unfold qvH z181
 rw [and15]
 have h0:(0:Int)≤n % 16:=by omega
 have h1:n % 16 < (((([48,49,50,51,52,53,54,55,56,57,65,66,67,68,69,70]:LU).length:Nat)):Int):=by simp; omega
 rw [decide_eq_true h0,decide_eq_true h1]
 rfl⟩
theorem qLP (n:Int):Int.tmod (Int.tmod n 16+16) 16=n % 16:=by
 have h:Int.tmod n 16=n % 16∨Int.tmod n 16=n % 16 - 16:=by
  rcases Int.le_total 0 n with h | h
  ·exact .inl (Int.tmod_eq_emod_of_nonneg h)
  ·have h2:Int.tmod n 16 = -((-n) % 16):=by
    have:=Int.neg_tmod (-n) 16
    rw [Int.neg_neg] at this
    rw [this,Int.tmod_eq_emod_of_nonneg (by omega)]
   omega
 have h3:0≤Int.tmod n 16+16:=by omega
 rw [Int.tmod_eq_emod_of_nonneg h3]
 omega
theorem qnG (n:Int) : -16 < Int.tmod n 16∧Int.tmod n 16 < 16:=by
 have h:Int.tmod n 16=n % 16∨Int.tmod n 16=n % 16 - 16∧n % 16≠0:=by
  rcases Int.le_total 0 n with h | h
  ·exact .inl (Int.tmod_eq_emod_of_nonneg h)
  ·have h2:Int.tmod n 16 = -((-n) % 16):=by
    have:=Int.neg_tmod (-n) 16
    rw [Int.neg_neg] at this
    rw [this,Int.tmod_eq_emod_of_nonneg (by omega)]
   omega
 omega
theorem qnH:∀ j:Fin 16,(bif decide (((j.val:Nat):Int) < 10) then UInt8.ofNat (Int.toNat (IntKind.wrap .u8 (IntKind.wrap .i64 ((48:Int)+((j.val:Nat):Int)))))
 else UInt8.ofNat (Int.toNat (IntKind.wrap .u8 (IntKind.wrap .i64 ((IntKind.wrap .i64 ((65:Int)+((j.val:Nat):Int))) - (10:Int))))))=List.getD hexD j.val 0:=by decide +kernel
theorem qAX:∀ (n0:Int),(qci n0=true)→∃ n,qwG n n0=qnx (z184 n0):=fun n _=>⟨0,by
 unfold qwG z184
 have hr:=qnG n
 rw [IntWalk.i64_in (Int.tmod n 16+16) (by omega),qLP]
 have hj:(n % 16).toNat < 16:=by omega
 have:=qnH ⟨(n % 16).toNat,hj⟩
 simp only [Int.toNat_of_nonneg (show 0≤n % 16 by omega)] at this
 rw [← this]
 cases decide (n % 16 < 10) <;> rfl⟩
theorem qwU (c:UInt8):IntKind.wrap .i64 ((UInt8.toNat c:Nat):Int)=((UInt8.toNat c:Nat):Int):=by
 have:=c.toNat_lt
 exact IntWalk.i64_in _ (by omega)
theorem qAY:∀ (c0:UInt8),∃ n,qwr n c0=qhy (z237 c0).1 (z237 c0).2:=fun c=>⟨0,by
 unfold qwr z237
 have h:=(z126 c - 97).toNat_lt
 rw [qwU,qwU,IntWalk.i64_in (((z126 c - 97).toNat:Int)+10) (by omega)]
 cases z129 (z126 c) 8 <;> cases decide ((97:UInt8)≤z126 c) <;> cases decide (z126 c≤(102:UInt8)) <;> rfl⟩
theorem qpJ (ret:Int→Bool→OA) (k0:OA) (hk:k0=ret 0 false) (c:UInt8):∀ (d:Nat) (i:Int) (n:Nat),i+d=16→0≤i→d < n →
 qeF ret k0 n c i=ret (qnc d i c).1 (qnc d i c).2
 | d,i,0,hi,h0,hn=>by omega
 | 0,i,n+1,hi,h0,hn=>by
  show qde ret k0 (qeF ret k0 n) n c i=_
  unfold qde
  rw [decide_eq_false (by omega),cond_false,hk]
  rfl
 | d+1,i,n+1,hi,h0,hn=>by
  show qde ret k0 (qeF ret k0 n) n c i=_
  unfold qde
  have hok:qci i=true:=by unfold qci; rw [decide_eq_true_eq]; omega
  rw [decide_eq_true (by omega),cond_true,hok,IntWalk.i64_in (i+1) (by omega),qpJ ret k0 hk c d (i+1) n (by omega) (by omega) (by omega)]
  show _=ret (bif z184 i==c then (i,true) else bif decide ((10:Int)≤i)&&(z184 i+32==c) then (i,true) else qnc d (i+1) c).1 (bif z184 i==c then (i,true) else bif decide ((10:Int)≤i)&&(z184 i+32==c) then (i,true) else qnc d (i+1) c).2
  generalize qnc d (i+1) c=z
  cases z184 i==c <;> cases decide ((10:Int)≤i) <;> cases z184 i+32==c <;> rfl
theorem qAZ:∀ (c0:UInt8),∃ n,qwH n c0=qhP (z146 c0).1 (z146 c0).2:=fun c=>⟨17,qpJ qhP (qeG 17) rfl c 16 0 17 (by omega) (by omega) (by omega)⟩
theorem qwV:∀ i:Fin 256,z237 (UInt8.ofNat i.val)=z146 (UInt8.ofNat i.val):=by decide +kernel
theorem qnI:∀ i:Fin 256,0≤(z237 (UInt8.ofNat i.val)).1∧(z237 (UInt8.ofNat i.val)).1 < 16:=by decide +kernel
theorem qBa {P:UInt8→Prop} (h:∀ i:Fin 256,P (UInt8.ofNat i.val)) (c:UInt8):P c:=by
 have:=h ⟨c.toNat,c.toNat_lt⟩
 simpa using this
theorem qJx (c:UInt8):z146 c=z237 c:=(qBa (P:=fun c=>z237 c=z146 c) qwV c).symm
theorem qdg (c:UInt8):0≤(z237 c).1∧(z237 c).1 < 16:=qBa (P:=fun c=>0≤(z237 c).1∧(z237 c).1 < 16) qnI c
theorem qFi:∀ a b:Fin 16,UInt8.ofNat (Int.toNat (IntKind.wrap .u8 (bits .or .i64 (IntKind.wrap .i64 (((a.val:Nat):Int)*2 ^ (min (Int.toNat (4:Int)) (IntKind.bits .i64)))) ((b.val:Nat):Int))))=UInt8.ofNat (Int.toNat (((a.val:Nat):Int)*16+((b.val:Nat):Int))):=by decide +kernel
theorem qBb:∀ a b:Fin 16,UInt8.ofNat (Int.toNat (IntKind.wrap .u8 (IntKind.wrap .i64 ((IntKind.wrap .i64 ((16:Int)*((a.val:Nat):Int)))+((b.val:Nat):Int)))))=UInt8.ofNat (Int.toNat (((a.val:Nat):Int)*16+((b.val:Nat):Int))):=by decide +kernel
theorem qwW {P:Int→Int→Prop} (h:∀ a b:Fin 16,P ((a.val:Nat):Int) ((b.val:Nat):Int)) {x y:Int} (hx:0≤x∧x < 16) (hy:0≤y∧y < 16):P x y:=by
 have:=h ⟨x.toNat,by omega⟩ ⟨y.toNat,by omega⟩
 simp only [Int.toNat_of_nonneg hx.1,Int.toNat_of_nonneg hy.1] at this
 exact this
theorem qBc:∀ (a0:UInt8) (b1:UInt8),∃ n,qws n a0 b1=qke (z220 a0 b1).1 (z220 a0 b1).2:=fun a b=>⟨0,by
 unfold qws z220
 have h:=qwW (P:=fun x y=>UInt8.ofNat (Int.toNat (IntKind.wrap .u8 (bits .or .i64 (IntKind.wrap .i64 (x*2 ^ (min (Int.toNat (4:Int)) (IntKind.bits .i64)))) y)))=UInt8.ofNat (Int.toNat (x*16+y))) qFi (qdg a) (qdg b)
 rw [← h]
 cases (z237 a).2 <;> cases (z237 b).2 <;> rfl⟩
theorem qiJ (s:LU) (at1:Int) (hl:s.length≤1048576) (h0:¬ at1 < 0) (h1:¬ IntKind.wrap .i64 (((List.length s:Nat):Int) - 3) < at1):∃ i:Nat,at1=i∧i+2 < s.length:=by
 rw [IntWalk.i64_in _ (by omega)] at h1
 exact ⟨at1.toNat,by omega,by omega⟩
theorem qBd:∀ (s0:LU) (at1:Int) (sign2:UInt8),(qoF s0 at1 sign2=true)→∃ n,qwt n s0 at1 sign2=qhz (z189 s0 at1 sign2).1 (z189 s0 at1 sign2).2:=fun s at1 sign h=>⟨0,by
 have hl:=qh h
 unfold qwt z189
 by_cases h0:at1 < 0
 ·rw [decide_eq_true h0,decide_eq_false (show ¬ 0≤at1 by omega)]; rfl
 by_cases h1:IntKind.wrap .i64 (((List.length s:Nat):Int) - 3) < at1
 ·have h2:¬ at1≤(s.length:Int) - 3:=by rw [IntWalk.i64_in _ (by omega)] at h1; omega
  rw [decide_eq_false h0,decide_eq_true h1,decide_eq_false h2,Bool.and_false]; rfl
 obtain ⟨i,rfl,hi⟩:=qiJ s at1 hl h0 h1
 rw [decide_eq_false h0,decide_eq_false h1,cond_false,cond_false,qae,qmb,decide_eq_true (show i < s.length by omega),Bool.and_true,cond_true,qbQ,qj (by omega),
  show IntKind.wrap .i64 ((i:Int)+2)=((i+2:Nat):Int) by rw [IntWalk.i64_in _ (by omega)]; omega,qae,qae,qmb,qmb,decide_eq_true (show i+1 < s.length by omega),decide_eq_true hi,qbQ,qbQ,
  decide_eq_true (show (i:Int)≤(s.length:Int) - 3 by omega),Bool.and_true,cond_true]
 unfold qll
 cases he:(List.getD s i 0==sign) with
 | true=>rw [show (List.getD s i 0 != sign)=false by simp only [bne,he,Bool.not_true]]; rfl
 | false=>rw [show (List.getD s i 0 != sign)=true by simp only [bne,he,Bool.not_false]]; rfl⟩
theorem qBe:∀ (s0:LU) (at1:Int) (sign2:UInt8),(qoG s0 at1 sign2=true)→∃ n,qwI n s0 at1 sign2=qdM (z103 s0 at1 sign2).1 (z103 s0 at1 sign2).2:=fun s at1 sign h=>⟨0,by
 have hl:=qh h
 unfold qwI z103 z189
 by_cases h0:at1 < 0
 ·rw [decide_eq_true h0,decide_eq_false (show ¬ 0≤at1 by omega)]; rfl
 by_cases h1:IntKind.wrap .i64 (((List.length s:Nat):Int) - 3) < at1
 ·have h2:¬ at1≤(s.length:Int) - 3:=by rw [IntWalk.i64_in _ (by omega)] at h1; omega
  rw [decide_eq_false h0,decide_eq_true h1,decide_eq_false h2,Bool.and_false]; rfl
 obtain ⟨i,rfl,hi⟩:=qiJ s at1 hl h0 h1
 rw [decide_eq_false h0,decide_eq_false h1,cond_false,cond_false,qae,qmb,decide_eq_true (show i < s.length by omega),Bool.and_true,cond_true,qbQ,qj (by omega),
  show IntKind.wrap .i64 ((i:Int)+2)=((i+2:Nat):Int) by rw [IntWalk.i64_in _ (by omega)]; omega,qae,qae,qmb,qmb,decide_eq_true (show i+1 < s.length by omega),decide_eq_true hi,qbQ,qbQ,
  decide_eq_true (show (i:Int)≤(s.length:Int) - 3 by omega),Bool.and_true,cond_true]
 rw [qJx,qJx]
 have h:=qwW (P:=fun x y=>UInt8.ofNat (Int.toNat (IntKind.wrap .u8 (IntKind.wrap .i64 ((IntKind.wrap .i64 ((16:Int)*x))+y))))=UInt8.ofNat (Int.toNat (x*16+y))) qBb (qdg (List.getD s (i+1) 0)) (qdg (List.getD s (i+2) 0))
 rw [h]
 unfold qll z220
 cases he:(List.getD s i 0==sign) with
 | true =>
  rw [show (List.getD s i 0 != sign)=false by simp only [bne,he,Bool.not_true]]
  cases (z237 (List.getD s (i+1) 0)).2 <;> cases (z237 (List.getD s (i+2) 0)).2 <;> rfl
 | false=>rw [show (List.getD s i 0 != sign)=true by simp only [bne,he,Bool.not_false]]; rfl⟩
theorem qwX:∀ i:Fin 256,[z181 (IntKind.wrap .i64 ((UInt8.toNat (UInt8.ofNat (UInt8.toNat (UInt8.ofNat i.val) / 2 ^ (min (Int.toNat (4:Int)) 8))):Nat):Int)),z181 (IntKind.wrap .i64 ((UInt8.toNat (UInt8.ofNat i.val):Nat):Int))]=z130 (UInt8.ofNat i.val):=by decide +kernel
theorem qre:∀ i:Fin 256,qci (IntKind.wrap .i64 (Int.tdiv (IntKind.wrap .i64 ((UInt8.toNat (UInt8.ofNat i.val):Nat):Int)) (16:Int)))=true∧qci (Int.tmod (IntKind.wrap .i64 ((UInt8.toNat (UInt8.ofNat i.val):Nat):Int)) (16:Int))=true ∧
 qdp (IntKind.wrap .i64 ((UInt8.toNat (UInt8.ofNat (UInt8.toNat (UInt8.ofNat i.val) / 2 ^ (min (Int.toNat (4:Int)) 8))):Nat):Int))=true∧qdp (IntKind.wrap .i64 ((UInt8.toNat (UInt8.ofNat i.val):Nat):Int))=true:=by decide +kernel
theorem boths (c:UInt8):[z181 (IntKind.wrap .i64 ((UInt8.toNat (UInt8.ofNat (UInt8.toNat c / 2 ^ (min (Int.toNat (4:Int)) 8))):Nat):Int)),z181 (IntKind.wrap .i64 ((UInt8.toNat c:Nat):Int))]=z130 c:=qBa (P:=fun c=>[z181 (IntKind.wrap .i64 ((UInt8.toNat (UInt8.ofNat (UInt8.toNat c / 2 ^ (min (Int.toNat (4:Int)) 8))):Nat):Int)),z181 (IntKind.wrap .i64 ((UInt8.toNat c:Nat):Int))]=z130 c) qwX c
theorem qLQ (c:UInt8):qci (IntKind.wrap .i64 (Int.tdiv (IntKind.wrap .i64 ((UInt8.toNat c:Nat):Int)) (16:Int)))=true∧qci (Int.tmod (IntKind.wrap .i64 ((UInt8.toNat c:Nat):Int)) (16:Int))=true ∧
 qdp (IntKind.wrap .i64 ((UInt8.toNat (UInt8.ofNat (UInt8.toNat c / 2 ^ (min (Int.toNat (4:Int)) 8))):Nat):Int))=true∧qdp (IntKind.wrap .i64 ((UInt8.toNat c:Nat):Int))=true:=qBa (P:=fun c=>qci (IntKind.wrap .i64 (Int.tdiv (IntKind.wrap .i64 ((UInt8.toNat c:Nat):Int)) (16:Int)))=true∧qci (Int.tmod (IntKind.wrap .i64 ((UInt8.toNat c:Nat):Int)) (16:Int))=true ∧
 qdp (IntKind.wrap .i64 ((UInt8.toNat (UInt8.ofNat (UInt8.toNat c / 2 ^ (min (Int.toNat (4:Int)) 8))):Nat):Int))=true∧qdp (IntKind.wrap .i64 ((UInt8.toNat c:Nat):Int))=true) qre c
theorem qBf:∀ (c0:UInt8),∃ n,qvJ n c0=qvI (z130 c0):=fun c=>⟨0,by
 obtain ⟨_,_,h1,h2⟩:=qLQ c
 unfold qvJ
 rw [h1,h2,boths]
 rfl⟩
theorem qFj:∀ (b0:LU) (sign1:UInt8) (c2:UInt8),(qzd b0 sign1 c2=true)→∃ n,qEm n b0 sign1 c2=qBQ (z85 b0 sign1 c2):=fun b sign c h=>⟨0,by
 have hl:=qh h
 unfold qEm z85 qdP z38
 rw [show lenOk b=true from h,Bool.and_true,cond_true,decide_eq_true (by unfold room; simp; omega),cond_true,decide_eq_true (by unfold room z130; simp; omega),cond_true,List.append_assoc]
 rfl⟩
def okc (c:UInt8):Bool:=(c==13)||(c==10)||(c==9)||(decide (32≤c)&&decide (c≤126))
theorem qBg:∀ (s0:LU) (suffix1:LU),(qoR s0 suffix1=true)→∃ n,qwK n s0 suffix1=qnz (z228 s0 suffix1):=fun s t h=>⟨0,by
 have hl:=qh h
 unfold qwK z228
 by_cases hc:t.length≤s.length
 ·have e:IntKind.wrap .i64 ((s.length:Int) - (t.length:Int))=((s.length - t.length:Nat):Int):=by rw [IntWalk.i64_in _ (by omega)]; omega
  rw [e,tn,tn,List.take_length,dT hc]
  simp (disch:=omega) only [dT,cond_true,Bool.and_true]
  rfl
 ·rw [dF hc,dF (by omega)]; rfl⟩
theorem qdO (l:LU) (i k:Nat):(l.drop i).getD k 0=l.getD (i+k) 0:=by
 simp [List.getD,List.getElem?_drop]
theorem qBh:∀ (n0:Int),∃ n,qwa n n0=qhu (z218 n0):=fun c=>⟨0,by
 unfold qwa z218
 cases (c==(2:Int)) <;> cases (c==(3:Int)) <;> cases (c==(4:Int)) <;> rfl⟩
theorem qBi:∃ n,qBS n  = qvS z185:=⟨0,rfl⟩
theorem qBj:∃ n,qBU n  = qvT z186:=⟨0,rfl⟩
theorem qFk {α β:Type} (f:α→β) (t:List α) (z:β) (i:Nat) (h:i < t.length) (d:α) :
 ((t.take i).map f++List.replicate (t.length - i) z).set i (f (t.getD i d))=(t.take (i+1)).map f++List.replicate (t.length - (i+1)) z:=by
 rw [List.set_append_right _ _ (by simp; omega)]
 have h1:((t.take i).map f).length=i:=by simp; omega
 rw [h1,Nat.sub_self,show t.length - i=(t.length - (i+1))+1 by omega,List.replicate_succ,List.set_cons_zero,List.take_succ_eq_append_getElem h,List.map_append,List.append_assoc]
 simp [List.getD,h]
theorem qfD (x:UInt8):IntKind.wrap .i32 ((UInt8.toNat x:Nat):Int)=((UInt8.toNat x:Nat):Int):=IntWalk.i32_in _ (by have:=x.toNat_lt; omega)
theorem qFl:∀ (x0:UInt8),∃ n,qEF n x0=qds (z64 x0):=fun x=>⟨0,by
 unfold qEF z64
 rw [qfD]
 cases (x==(164:UInt8)) <;> cases (x==(166:UInt8)) <;> cases (x==(168:UInt8)) <;> cases (x==(180:UInt8)) <;> cases (x==(184:UInt8)) <;> cases (x==(188:UInt8)) <;> cases (x==(189:UInt8)) <;> cases (x==(190:UInt8)) <;> rfl⟩
theorem qFm:∀ (x0:UInt8),∃ n,qEG n x0=qpz (z65 x0):=fun x=>⟨0,by
 unfold qEG z65
 rw [qfD]
 have hx:=x.toNat_lt
 by_cases h1:x < 128
 ·rw [dT h1]; rfl
 ·by_cases h2:159 < x
  ·rw [dF h1,dT h2]; rfl
  ·rw [dF h1,dF h2]
   have h3:128≤x.toNat:=by have:=UInt8.not_lt.1 h1; exact UInt8.le_iff_toNat_le.1 this
   have h4:x.toNat≤159:=by have:=UInt8.not_lt.1 h2; exact UInt8.le_iff_toNat_le.1 this
   have h5:(x - 128).toNat=x.toNat - 128:=UInt8.toNat_sub_of_le _ _ (UInt8.not_lt.1 h1)
   rw [h5]
   simp (disch:=(first | omega | (simp; omega))) only [dT,Bool.and_true,cond_true,cond_false,Bool.or_false,tn]
   rfl⟩
theorem qhT {α β:Type} {t:List α} {dv:α} {f:α→List β} {q:α→Bool} {k0:List β→OA} {R:OA} {L:Nat→List β→Int→OA} {b:Nat} (hf:∀ x,(f x).length≤b)
 (hL:∀ (n i:Nat) (out:List β),i < t.length→out.length+b≤room→L (n+1) out (i:Int)=bif q (t.getD i dv) then L n (out++f (t.getD i dv)) ((i+1:Nat):Int) else R) (hE:∀ n out,L (n+1) out ((t.length:Nat):Int)=k0 out) :
 ∀ (d i n:Nat) (out:List β),i+d=t.length→d < n→out.length+b*d≤room→L n out (i:Int)=bif (t.drop i).all q then k0 (out++(t.drop i).flatMap f) else R
 | d,i,0,out,hi,hn,_=>by omega
 | 0,i,n+1,out,hi,hn,_=>by
  obtain rfl:i=t.length:=by omega
  rw [hE,List.drop_eq_nil_of_le (by omega)]
  simp
 | d+1,i,n+1,out,hi,hn,hb=>by
  have hlt:i < t.length:=by omega
  have hx:=hf (t.getD i dv)
  have hb':b*(d+1)=b*d+b:=by rw [Nat.mul_succ]
  have h0:0≤b*d:=Nat.zero_le _
  rw [hL n i out hlt (by omega),qhT (α:=α) (β:=β) hf hL hE d (i+1) n _ (by omega) (by omega) (by rw [List.length_append]; omega),qT (d:=dv) hlt]
  simp only [List.all_cons,List.flatMap_cons,List.append_assoc]
  cases q (t.getD i dv) <;> rfl
theorem qBk:∀ (charset0:Int),∃ n,qvN n charset0=qdH (z133 charset0):=fun cs=>⟨0,by
 unfold qvN z133
 cases (cs==(1:Int)) <;> cases (cs==(2:Int)) <;> cases (cs==(3:Int)) <;> cases (cs==(4:Int)) <;> cases (cs==(5:Int)) <;> rfl⟩
theorem qFn:∀ (charset0:Int),∃ n,qEC n charset0=qhE (z92 charset0):=fun cs=>⟨0,by
 unfold qEC z92 z133
 cases (cs==(1:Int)) <;> cases (cs==(2:Int)) <;> cases (cs==(3:Int)) <;> cases (cs==(4:Int)) <;> cases (cs==(5:Int)) <;> rfl⟩
theorem qFo:∀ (charset0:Int),∃ n,qEn n charset0=qvO (z89 charset0):=fun cs=>⟨0,by
 unfold qEn z89 z133
 cases (cs==(1:Int)) <;> cases (cs==(2:Int)) <;> cases (cs==(3:Int)) <;> cases (cs==(4:Int)) <;> cases (cs==(5:Int)) <;> rfl⟩
theorem qFp:∀ (n0:Int),∃ n,qEj n n0=qvF (z44 n0):=fun cs=>⟨0,by
 unfold qEj z44
 cases decide ((1:Int)≤cs) <;> rfl⟩
theorem qFq:∀ (n0:Int),∃ n,qEk n n0=qpf (z45 n0):=fun cs=>⟨0,by
 unfold qEk z45
 cases (cs==(1:Int)) <;> cases (cs==(2:Int)) <;> rfl⟩
theorem qwY (cs:Int):(z89 cs).length≤12:=by
 unfold z89 z133
 cases (cs==(1:Int)) <;> cases (cs==(2:Int)) <;> cases (cs==(3:Int)) <;> cases (cs==(4:Int)) <;> cases (cs==(5:Int)) <;> decide
theorem qwZ (n:Int):(z45 n).length≤1:=by
 unfold z45
 cases (n==(1:Int)) <;> cases (n==(2:Int)) <;> decide
theorem qFr:∀ (charset0:Int) (code1:Int),∃ n,qEo n charset0 code1=qBR (z48 charset0 code1):=fun cs n=>⟨0,by
 unfold qEo z48
 have h1:=qwY cs
 have h2:=qwZ n
 simp (disch:=(simp; omega)) only [dT,cond_true]⟩
theorem qFs:∀ (charset0:Int),∃ n,qEq n charset0=qlC (z17 charset0):=fun cs=>⟨0,by
 unfold qEq z17 z48
 have h1:=qwY cs
 cases z44 cs with
 | false=>rfl
 | true =>
  show qlC _=qlC _
  congr 1
  rw [show z45 2=[81] from rfl]
  simp only [List.length_append,List.length_cons,List.length_nil]
  have e:∀ k:Nat,k≤100→IntKind.wrap .i64 (IntKind.wrap .i64 ((k:Int)+1)+1)=((k+2:Nat):Int):=fun k hk=>by
   rw [IntWalk.i64_in ((k:Int)+1) (by omega),IntWalk.i64_in _ (by omega)]; omega
  rw [e _ (by omega)]
  simp only [Bool.not_true,cond_false]
  omega⟩
theorem qFt:∀ (c0:UInt8),∃ n,qEl n c0=qpg (z84 c0):=fun c=>⟨0,by
 unfold qEl z84
 cases (c==(32:UInt8)) <;> cases z129 c 128 <;> rfl⟩
theorem qBl (c:UInt8):(z84 c).toNat≤3∧z84 c=((z84 c).toNat:Int):=by
 unfold z84
 cases (c==(32:UInt8)) <;> cases z129 c 128 <;> decide
theorem qpK (k0:Int→OA) (s:LU) (hl:s.length≤4194304):∀ (d i n m:Nat),i+d=s.length→d < n→m+3*d≤100000000 →
 qnh k0 n (m:Nat) s ((s.length:Nat):Int) (i:Nat)=k0 ((m+qLen (s.drop i):Nat):Int)
 | d,i,0,m,hi,hn,_=>by omega
 | 0,i,n+1,m,hi,hn,_=>by
  show qfj _ _ n _ _ _ _=_
  unfold qfj
  rw [dF (by omega),cond_false,List.drop_eq_nil_of_le (by omega)]
  rfl
 | d+1,i,n+1,m,hi,hn,hm=>by
  show qfj _ _ n _ _ _ _=_
  unfold qfj
  have hlt:i < s.length:=by omega
  have h1:=qBl (s.getD i 0)
  rw [qT (d:=(0:UInt8)) hlt]
  simp (disch:=omega) only [dT,cond_true,Bool.and_true,tn,qj]
  rw [h1.2,show IntKind.wrap .i64 ((m:Int)+(((z84 (s.getD i 0)).toNat:Nat):Int))=((m+(z84 (s.getD i 0)).toNat:Nat):Int) from by rw [IntWalk.i64_in _ (by omega)]; omega,
   qpK k0 s hl d (i+1) n _ (by omega) (by omega) (by omega)]
  congr 1
  unfold qLen
  simp only [List.map_cons,List.sum_cons]
  omega
theorem qFu:∀ (s0:LU),(qqL s0=true)→∃ n,qAn n s0=qBP (z83 s0):=fun s h=>⟨s.length+1,by
 unfold qqL at h
 have hl:s.length≤4194304:=by simpa using h
 unfold qAn
 refine (qpK (qhp (s.length+1)) s hl s.length 0 (s.length+1) 0 (by omega) (by omega) (by omega)).trans ?_
 rw [List.drop_zero,Nat.zero_add]
 rfl⟩
theorem qpL (c:UInt8):(z91 c).length=(z84 c).toNat:=by
 unfold z91 z84 z137 z82
 cases (c==(32:UInt8)) <;> cases z129 c 128 <;> rfl
theorem qBm:∀ (n0:Int),∃ n,qwB n n0=qdJ (z135 n0):=fun n=>⟨0,by
 unfold qwB z135
 generalize Int.tmod (IntKind.wrap .i64 (Int.tmod n 64+64)) 64=k
 show _=qdJ (bif decide (k < 26) then _ else _)
 cases decide (k < 26) <;> cases decide (k < 52) <;> cases decide (k < 62) <;> cases (k==62) <;> rfl⟩
theorem qiK (k0:Int→OA) (l:LI) (hl:l.length≤1048576):∀ (d i n:Nat) (m:Int),i+d=l.length→d < n →
 qhN k0 n l m (i:Nat)=k0 ((l.drop i).foldl (fun n b=>IntKind.wrap .i64 (IntKind.wrap .i64 (2*n)+b)) m)
 | d,i,0,m,hi,hn=>by omega
 | 0,i,n+1,m,hi,hn=>by
  show qdb _ _ n _ _ _=_
  unfold qdb
  rw [dF (by omega),cond_false,List.drop_eq_nil_of_le (by omega)]
  rfl
 | d+1,i,n+1,m,hi,hn=>by
  show qdb _ _ n _ _ _=_
  unfold qdb
  have hlt:i < l.length:=by omega
  rw [qT (d:=(0:Int)) hlt]
  simp (disch:=omega) only [dT,cond_true,Bool.and_true,tn,qj]
  rw [qiK k0 l hl d (i+1) n _ (by omega) (by omega)]
  rfl
theorem qBn:∀ (l0:LI),(qeo l0=true)→∃ n,qpB n l0=qwE (z136 l0):=fun l h=>⟨l.length+1,by
 unfold qeo at h
 have hl:l.length≤1048576:=by simpa using h
 unfold qpB z136
 refine (qiK (qeE (l.length+1)) l hl l.length 0 (l.length+1) 0 (by omega) (by omega)).trans ?_
 rw [List.drop_zero]
 rfl⟩
end Go.Av
