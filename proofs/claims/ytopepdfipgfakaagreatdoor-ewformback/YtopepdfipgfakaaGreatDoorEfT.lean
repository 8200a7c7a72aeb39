import Derived.Test.YtopepdfipgfakaaGreatDoorEfSh
import Derived.Test.YtopepdfipgfakaaGreatDoorAvE
import Derived.Lib.IndexAny
import Derived.Lib.IndexMore
import Derived.Lib.IndexBytes
import Derived.IntWalk
import Derived.KernelRfl
namespace Go.Av
set_option linter.unusedVariables false
theorem qwo {α:Type} [DecidableEq α] {a b:List α} {i:Nat} (ha:i < a.length) (hb:i < b.length) (d:α):decide (a.drop i=b.drop i)=bif a.getD i d != b.getD i d then false else decide (a.drop (i+1)=b.drop (i+1)):=by
 rw [qaM (d:=d) ha,qaM (d:=d) hb]
 generalize a.getD i d=x
 generalize b.getD i d=y
 by_cases h:x=y
 ·subst h; simp
 ·simp [h]
theorem qjD (c:UInt8):decide (((UInt8.toNat c:Nat):Int) < (256:Nat))=true:=by
 have:=c.toNat_lt
 rw [decide_eq_true]
 omega
theorem qbJ (ret:List Bool→Bool→Option AV) (k0:List Bool→Option AV) (cs:List UInt8) (ha:ascii cs=true) (hl:cs.length≤1048576):∀ (d i n:Nat) (a:List Bool),i+d=cs.length→d < n →
 qdC ret k0 n cs a (i:Nat)=k0 (setOf (cs.drop i) a)
 | d,i,0,a,hi,hn=>by omega
 | 0,i,n+1,a,hi,hn=>by
  show qco ret k0 (qdC ret k0 n) n cs a _=_
  unfold qco
  rw [decide_eq_false (by omega),cond_false,List.drop_eq_nil_of_le (by omega)]
  rfl
 | d+1,i,n+1,a,hi,hn=>by
  show qco ret k0 (qdC ret k0 n) n cs a _=_
  unfold qco
  have hlt:i < cs.length:=by omega
  have hc:decide ((128:UInt8)≤List.getD cs i 0)=false:=by
   unfold ascii at ha
   rw [List.all_eq_true] at ha
   have:=ha (cs.getD i 0) (by simp [List.getD,hlt])
   rw [decide_eq_false_iff_not]
   simp only [decide_eq_true_eq] at this
   exact UInt8.not_le.2 this
  rw [qtB,decide_eq_true hlt,cond_true,qbl,Bool.true_and,cond_true,qeR,hc,cond_false,qbl,qjD,Bool.true_and,cond_true,qv (by omega),
   qbJ ret k0 cs ha hl d (i+1) n _ (by omega) (by omega),qaM (d:=0) hlt]
  rfl
theorem qwp:∀ (chars0:List UInt8),(qgs chars0=true)→∃ n,qsG n chars0=qgi (z223 chars0).1 (z223 chars0).2:=fun cs h=>⟨cs.length+1,by
 unfold qgs at h
 rw [Bool.and_eq_true] at h
 exact qbJ qgi (qdD (cs.length+1)) cs h.1 (qm h.2) cs.length 0 (cs.length+1) _ (by omega) (by omega)⟩
theorem qwq:∀ (as0:List Bool) (c1:UInt8),∃ n,qsI n as0 c1=qsH (z238 as0 c1):=fun as c=>⟨0,by
 unfold qsI
 rw [qbl,qjD]
 rfl⟩
theorem qwr:∀ (c0:UInt8),∃ n,qrW n c0=qg (z214 c0):=fun c=>⟨0,by
 unfold qrW z214 qmW orI
 cases decide (c < (32:UInt8)) <;> cases (c==(127:UInt8)) <;> cases (c==(32:UInt8)) <;> cases (c==(9:UInt8)) <;> cases decide ((48:UInt8)≤c) <;> cases decide (c≤(57:UInt8)) <;> cases decide ((65:UInt8)≤c) <;> cases decide (c≤(90:UInt8)) <;> cases decide ((97:UInt8)≤c) <;> cases decide (c≤(122:UInt8)) <;> rfl⟩
theorem qws:∀ (s0:List UInt8) (c1:UInt8),∃ n,qxq n s0 c1=qrX (z229 s0 c1):=fun _ _=>⟨0,rfl⟩
theorem qwt:∀ (s0:List UInt8) (c1:UInt8),∃ n,qxr n s0 c1=qrY (z192 s0 c1):=fun _ _=>⟨0,rfl⟩
theorem qwu:∀ (s0:List UInt8) (c1:UInt8),∃ n,qxs n s0 c1=qrZ (z215 s0 c1):=fun _ _=>⟨0,rfl⟩
theorem qwv:∀ (c0:UInt8),∃ n,qsa n c0=qV (z180 c0):=fun c=>⟨0,by
 unfold qsa z180 qwU orI
 cases decide (c < (33:UInt8)) <;> cases decide ((126:UInt8) < c) <;> cases z215 [33,42,43,45,47] c <;> cases z215 [43,47] c <;> cases z215 [40,41,60,62,64,44,59,58,92,34,47,91,93,63,61] c <;> cases z215 [42,39,37] c <;> rfl⟩
theorem qww:∀ (c0:UInt8) (kinds1:Int),∃ n,qxt n c0 kinds1=qsb (z129 c0 kinds1):=fun _ _=>⟨0,rfl⟩
theorem qxH (c:UInt8):c.toNat < 256:=c.toNat_lt
theorem qzV (cs:List UInt8) (x:UInt8):∀ (a:List Bool),a.length=256→(setOf cs a).getD x.toNat false=(cs.contains x||a.getD x.toNat false):=by
 induction cs with
 | nil=>intro a _; simp [setOf]
 | cons c cs ih =>
  intro a hl
  show (setOf cs (List.set a c.toNat true)).getD x.toNat false=_
  rw [ih _ (by simpa using hl)]
  have hx:=qxH x
  have hc:=qxH c
  by_cases e:c=x
  ·subst e
   have:(List.set a c.toNat true).getD c.toNat false=true:=by simp [List.getD,hl,hc]
   rw [this]
   simp
  ·have hne:c.toNat≠x.toNat:=fun h=>e (UInt8.toNat_inj.1 h)
   have:(List.set a c.toNat true).getD x.toNat false=a.getD x.toNat false:=by simp [List.getD,List.getElem?_set_ne hne]
   rw [this]
   have hb:¬ x=c:=fun h=>e h.symm
   simp [hb]
theorem dT {p:Prop} [Decidable p] (h:p):decide p=true:=decide_eq_true h
theorem dF {p:Prop} [Decidable p] (h:¬ p):decide p=false:=decide_eq_false h
theorem wr {x:Int} (h : -9223372036854775808≤x∧x≤9223372036854775807):IntKind.wrap .i64 x=x:=IntWalk.i64_in x h
theorem tn (i:Nat):Int.toNat (i:Int)=i:=Int.toNat_natCast i
theorem bneI {a b:Int} (h:a≠b):(a==b)=false:=by simp [h]
theorem qt {α:Type} {l:List α} (h:l.length≤1048576):lenOk l=true:=by unfold lenOk; rw [decide_eq_true_eq]; exact h
theorem qtd (p:UInt8→Bool) (t:List UInt8) (x:UInt8):dropR p (t++[x])=bif p x then dropR p t else t++[x]:=by
 unfold dropR
 rw [List.reverse_append,List.reverse_singleton,List.singleton_append,List.dropWhile_cons]
 cases p x <;> simp
theorem qcW (p:UInt8→Bool):∀ s:List UInt8,(s.dropWhile p).length≤s.length
 | []=>by simp
 | c :: s=>by
  rw [List.dropWhile_cons]
  split
  ·have:=qcW p s; simp only [List.length_cons]; omega
  ·exact Nat.le_refl _
theorem qte (p:UInt8→Bool) (s:List UInt8):(dropR p s).length≤s.length:=by
 have:=qcW p s.reverse
 unfold dropR
 simpa using this
theorem qmR (p:UInt8→Bool) (s:List UInt8):(qwV p s).length≤s.length:=Nat.le_trans (qcW p _) (qte p s)
theorem qwx:∀ (s0:List UInt8) (c1:UInt8),(qtq s0 c1=true)→∃ n,qsD n s0 c1=qkY (z221 s0 c1):=fun _ _ h=>by cases h
theorem qwy:∀ (s0:List UInt8) (c1:UInt8),(qtr s0 c1=true)→∃ n,qsF n s0 c1=qsE (z222 s0 c1):=fun _ _ h=>by cases h
theorem qjE (k0:List UInt8→Option AV) (as:List Bool):∀ (d:Nat) (s:List UInt8) (n:Nat),s.length=d→d < n→s.length≤1048576 →
 qeC k0 n s as=k0 (z225 s as)
 | d,s,0,hd,hn,hl=>by omega
 | d,s,n+1,hd,hn,hl=>by
  show qfl k0 (qeC k0 n) n s as=_
  unfold qfl z225
  rcases List.eq_nil_or_concat s with rfl | ⟨t,x,rfl⟩
  ·rfl
  ·rw [List.concat_eq_append] at *
   have hlen:(t++[x]).length=t.length+1:=by simp
   have ih:=qjE k0 as t.length t n rfl (by omega) (by omega)
   have hg:(t++[x]).getD (Int.toNat (((t++[x]).length:Int) - 1)) 0=x:=by
    rw [show Int.toNat (((t++[x]).length:Int) - 1)=t.length by omega]; simp
   have ht:List.take (Int.toNat (((t++[x]).length:Int) - 1)) (t++[x])=t:=by
    rw [show Int.toNat (((t++[x]).length:Int) - 1)=t.length by omega]; simp
   simp (disch:=omega) only [wr,dT,cond_true,Bool.and_true,hg,ht,qtd]
   cases z238 as x with
   | true=>simpa [z225] using ih
   | false=>rfl
theorem qwz:∀ (s0:List UInt8) (as1:List Bool),(qjJ s0 as1=true)→∃ n,qmJ n s0 as1=qsJ (z225 s0 as1):=fun s as h=>⟨s.length+1,by
 unfold qmJ
 rw [qjE _ as s.length s _ rfl (by omega) (qm h)]
 rfl⟩
theorem qjF (k0:List UInt8→Option AV) (as:List Bool):∀ (d:Nat) (s:List UInt8) (n:Nat),s.length=d→d < n→s.length≤1048576 →
 qeB k0 n s as=k0 (z224 s as)
 | d,s,0,hd,hn,hl=>by omega
 | d,[],n+1,hd,hn,hl=>rfl
 | d,x :: s,n+1,hd,hn,hl=>by
  show qfk k0 (qeB k0 n) n (x :: s) as=_
  unfold qfk z224
  have hlen:(x :: s).length=s.length+1:=rfl
  have ih:=qjF k0 as s.length s n rfl (by omega) (by omega)
  have hg:(x :: s).getD (Int.toNat 0) 0=x:=rfl
  have ht:List.drop (Int.toNat 1) (List.take (Int.toNat ((x :: s).length:Int)) (x :: s))=s:=by
   rw [tn,List.take_length]; rfl
  simp (disch:=omega) only [dT,cond_true,Bool.and_true,hg,ht,List.dropWhile_cons]
  cases z238 as x with
  | true=>simpa [z224] using ih
  | false=>rfl
theorem qwA:∀ (s0:List UInt8) (as1:List Bool),(qjI s0 as1=true)→∃ n,qmI n s0 as1=qkZ (z224 s0 as1):=fun s as h=>⟨s.length+1,by
 unfold qmI
 rw [qjF _ as s.length s _ rfl (by omega) (qm h)]
 unfold qdE
 cases hc:z224 s as with
 | nil=>rfl
 | cons x r=>rfl⟩
theorem qlg (cs:List UInt8) (c:UInt8):z238 (z223 cs).1 c=cs.contains c:=by
 have:=qzV cs c (List.replicate 256 false) List.length_replicate
 unfold z238 z223
 have hc:c.toNat < 256:=c.toNat_lt
 rw [this,List.getD_eq_getElem?_getD,List.getElem?_replicate,if_pos hc]
 exact Bool.or_false _
theorem qDQ (cs s:List UInt8):z224 (z225 s (z223 cs).1) (z223 cs).1=z190 s cs:=by
 unfold z224 z225 z190 qwV
 have e:(fun c=>z238 (z223 cs).1 c)=fun c=>cs.contains c:=funext fun c=>qlg cs c
 rw [e]
theorem qwB:∀ (s0:List UInt8) (cutset1:List UInt8),(qhc s0 cutset1=true)→∃ n,qsK n s0 cutset1=qcb (z190 s0 cutset1):=fun s cs h=>⟨0,by
 unfold qhc at h
 simp only [Bool.and_eq_true,decide_eq_true_eq] at h
 obtain ⟨h1,h2,h3,h4⟩:=h
 have hls:=qm h1
 unfold qsK
 cases s with
 | nil=>rfl
 | cons x r =>
  have hcs:(cs==([]:List UInt8))=false:=by cases cs with
   | nil=>simp at h2
   | cons a b=>rfl
  have hlen:(x :: r).length=r.length+1:=rfl
  have hm:qgs cs=true:=by unfold qgs; rw [h3,h4]; rfl
  have hr:qjI (z225 (x :: r) (z223 cs).1) (z223 cs).1=true:=qt (Nat.le_trans (qte _ _) hls)
  rw [bneI (by omega),hcs,bneI (by omega),hm,show (z223 cs).2=true from rfl,show qjJ (x :: r) (z223 cs).1=true from h1,hr,qDQ]
  rfl⟩
theorem qwC:∀ (c0:UInt8),∃ n,qrV n c0=qif (z126 c0):=fun c=>⟨0,by
 unfold qrV z126
 cases decide ((65:UInt8)≤c) <;> cases decide (c≤(90:UInt8)) <;> rfl⟩
theorem qDR (f:UInt8→UInt8) (s:List UInt8) (i:Nat) (h:i < s.length):List.set (s.take i |>.map f |> fun l=>l++s.drop i) i (f (s.getD i 0))=(s.take (i+1)).map f++s.drop (i+1):=by
 have hg:=qaM (d:=(0:UInt8)) h
 have hl:((s.take i).map f).length=i:=by simp; omega
 rw [hg,List.set_append_right _ _ (by omega),hl,Nat.sub_self,List.set_cons_zero]
 rw [show s.take (i+1)=s.take i++[s.getD i 0] by
  rw [List.take_add_one]; simp [List.getD,h]]
 simp
theorem qmS (k0:List UInt8→Option AV) (s:List UInt8) (hl:s.length≤1048576):∀ (d i n:Nat),i+d=s.length→d < n →
 qig k0 n ((s.take i).map z126++s.drop i) (s.length:Nat) (i:Nat)=k0 (s.map z126)
 | d,i,0,hi,hn=>by omega
 | 0,i,n+1,hi,hn=>by
  show qed k0 (qig k0 n) n _ _ _=_
  unfold qed
  rw [dF (by omega),cond_false,show i=s.length by omega,List.take_length,List.drop_length,List.append_nil]
 | d+1,i,n+1,hi,hn=>by
  show qed k0 (qig k0 n) n _ _ _=_
  unfold qed
  have hlt:i < s.length:=by omega
  have ih:=qmS k0 s hl d (i+1) n (by omega) (by omega)
  have hlen:((s.take i).map z126++s.drop i).length=s.length:=by simp; omega
  have hg:((s.take i).map z126++s.drop i).getD i 0=s.getD i 0:=by
   rw [qaM (d:=(0:UInt8)) hlt]
   simp [List.getD,Nat.min_eq_left (Nat.le_of_lt hlt)]
  have hs:=qDR z126 s i hlt
  simp only at hs
  simp (disch:=omega) only [dT,cond_true,Bool.and_true,tn,qv,hlen,hg]
  rw [hs]
  exact ih
theorem qzW:∀ (s0:List UInt8),(qoi s0=true)→∃ n,qwe n s0=qxp (z79 s0):=fun s h=>⟨s.length+1,by
 unfold qwe
 rw [show qcY s=true from h,show z38 s=s from rfl]
 exact qmS (qga (s.length+1)) s (qm h) s.length 0 (s.length+1) (by omega) (by omega)⟩
theorem qgq (k0:Int→Option AV) (s:List UInt8) (k:Int) (hl:s.length≤1048576):∀ (d i n m:Nat),i+d=s.length→d < n→m+d≤1048576 →
 qdA k0 n k (m:Nat) s (s.length:Nat) (i:Nat)=k0 ((m+(s.drop i).countP (fun c=>z129 c k):Nat):Int)
 | d,i,0,m,hi,hn,hm=>by omega
 | 0,i,n+1,m,hi,hn,hm=>by
  show qcn k0 (qdA k0 n) n _ _ _ _ _=_
  unfold qcn
  rw [dF (by omega),cond_false,List.drop_eq_nil_of_le (by omega)]
  rfl
 | d+1,i,n+1,m,hi,hn,hm=>by
  show qcn k0 (qdA k0 n) n _ _ _ _ _=_
  unfold qcn
  have hlt:i < s.length:=by omega
  have ih:=qgq k0 s k hl d (i+1) n m (by omega) (by omega) (by omega)
  have ih2:=qgq k0 s k hl d (i+1) n (m+1) (by omega) (by omega) (by omega)
  rw [qaM (d:=(0:UInt8)) hlt,List.countP_cons]
  simp (disch:=omega) only [dT,cond_true,Bool.and_true,tn,qv]
  cases z129 (s.getD i 0) k with
  | true=>rw [cond_true,ih2]; congr 2; simp; omega
  | false=>rw [cond_false,ih]; congr 2
theorem qwD:∀ (s0:List UInt8) (kinds1:Int),(qmX s0 kinds1=true)→∃ n,qmy n s0 kinds1=qsc (z127 s0 kinds1):=fun s k h=>⟨s.length+1,by
 have hl:=qm h
 unfold qmy
 have:=qgq (qdB (s.length+1)) s k hl s.length 0 (s.length+1) 0 (by omega) (by omega) (by omega)
 refine Eq.trans this ?_
 rw [Nat.zero_add,List.drop_zero]
 rfl⟩
theorem qtf (p:UInt8→Bool) (s:List UInt8):(((s.countP p:Nat):Int)==((s.length:Nat):Int))=s.all p:=by
 rw [Bool.eq_iff_iff]
 simp only [beq_iff_eq,List.all_eq_true]
 have:=List.countP_eq_length (p:=p) (l:=s)
 constructor
 ·intro h; exact this.1 (by omega)
 ·intro h; have:=this.2 h; omega
theorem qzX:∀ (s0:List UInt8) (kinds1:Int),(qoj s0 kinds1=true)→∃ n,qzu n s0 kinds1=qsd (z80 s0 kinds1):=fun s k h=>⟨0,by
 unfold qzu
 rw [show qmX s k=true from h]
 show qsd (z127 s k==((s.length:Nat):Int))=_
 unfold z127
 rw [qtf]
 rfl⟩
theorem qwE:(fun c:UInt8=>([32,9]:List UInt8).contains c)=blank:=by
 funext c
 unfold blank
 simp only [List.contains_cons,List.contains_nil,Bool.or_false]
theorem bneT {a b:Int} (h:a≠b):(a != b)=true:=by simp [bne,h]
theorem qxI {s:List UInt8} (h:s.length=1):∃ c,s=[c]:=List.length_eq_one_iff.1 h
theorem qwF:∀ (s0:List UInt8) (sep1:List UInt8),(qha s0 sep1=true)→∃ n,qrU n s0 sep1=qfZ (z124 s0 sep1):=fun s sep h=>⟨0,by
 unfold qha at h
 simp only [Bool.and_eq_true,decide_eq_true_eq] at h
 obtain ⟨c,rfl⟩:=qxI h.2
 rfl⟩
theorem qfp (c:UInt8) (cur:List UInt8) (x:UInt8) (r:List UInt8):cutC c cur (x :: r)=bif x==c then cur :: cutC c [] r else cutC c (cur++[x]) r:=rfl
theorem qmT (c:UInt8):∀ (s cur:List UInt8),c ∉ s→cutC c cur s=[cur++s]
 | [],cur,_=>by rw [List.append_nil]; rfl
 | x :: r,cur,h=>by
  have hx:(x==c)=false:=beq_eq_false_iff_ne.2 (fun e=>h (by rw [e]; exact List.mem_cons_self ..))
  rw [qfp,hx,cond_false,qmT c r _ (fun hm=>h (List.mem_cons_of_mem _ hm)),List.append_assoc]
  rfl
theorem qxJ (c:UInt8) (r:List UInt8):∀ (x cur:List UInt8),c ∉ x→cutC c cur (x++c :: r)=(cur++x) :: cutC c [] r
 | [],cur,_=>by
  show cutC c cur (c :: r)=_
  rw [qfp,beq_self_eq_true,cond_true,List.append_nil]
 | y :: x,cur,h=>by
  have hx:(y==c)=false:=beq_eq_false_iff_ne.2 (fun e=>h (by rw [e]; exact List.mem_cons_self ..))
  show cutC c cur (y :: (x++c :: r))=_
  rw [qfp,hx,cond_false,qxJ c r x _ (fun hm=>h (List.mem_cons_of_mem _ hm)),List.append_assoc]
  rfl
theorem qgr (c:UInt8) (r:List UInt8):∀ (x:List UInt8),c ∉ x→Lib.indexByte (x++c :: r) c=(x.length:Int)
 | [],_=>by simp [Lib.indexByte]
 | y :: x,h=>by
  have hx:(y==c)=false:=beq_eq_false_iff_ne.2 (fun e=>h (by rw [e]; exact List.mem_cons_self ..))
  have ih:=qgr c r x (fun hm=>h (List.mem_cons_of_mem _ hm))
  show Lib.indexByte (y :: (x++c :: r)) c=_
  unfold Lib.indexByte
  rw [ih,hx]
  have e:((x.length:Int) == -1)=false:=by simp
  simp [e]
theorem qtg (m:Nat) (c:UInt8) (N:Nat) (hN:N≤1048576):∀ (d:Nat) (s:List UInt8) (done:List (List UInt8)) (n:Nat),s.count c=d→d < n→done.length+d=N→s.length≤1048576 →
 qcF (qae m) n s [c] 0 (N:Nat) (done++List.replicate (d+1) []) (done.length:Nat)=qjt (done++cutC c [] s)
 | d,s,done,0,_,hn,_,_=>by omega
 | 0,s,done,n+1,hc,hn,hd,hs=>by
  show qcm (qae m) (qcF (qae m) n) n _ _ _ _ _ _=_
  unfold qcm
  have hmem:c ∉ s:=List.count_eq_zero.1 hc
  rw [dF (by omega),cond_false]
  unfold qae
  have hset:List.set (done++List.replicate (0+1) ([]:List UInt8)) done.length s=done++[s]:=by
   rw [List.set_append_right _ _ (Nat.le_refl _),Nat.sub_self]
   rfl
  have hlen:(done++List.replicate (0+1) ([]:List UInt8)).length=done.length+1:=by simp
  rw [tn,hset,hlen,qv (by omega)]
  have hl2:(done++[s]).length=done.length+1:=by simp
  rw [hl2]
  simp (disch:=omega) only [dT,cond_true,Bool.and_true,tn]
  rw [List.drop_zero,List.take_of_length_le (by omega),qmT c s [] hmem]
  rfl
 | d+1,s,done,n+1,hc,hn,hd,hs=>by
  show qcm (qae m) (qcF (qae m) n) n _ _ _ _ _ _=_
  unfold qcm
  have hmem:c∈s:=List.count_pos_iff.1 (by omega)
  obtain ⟨x,r,rfl,hx⟩:=List.eq_append_cons_of_mem hmem
  have hi:z125 (x++c :: r) [c]=(x.length:Int):=by
   unfold z125
   rw [Lib.index_one,qgr c r x hx]
  have hlen:(x++c :: r).length=x.length+(r.length+1):=by simp
  have hok:qhb (x++c :: r) [c]=true:=by
   unfold qhb
   rw [qt hs]
   rfl
  have hcr:r.count c=d:=by
   rw [List.count_append,List.count_eq_zero.2 hx,List.count_cons_self] at hc
   omega
  have hdl:(done++List.replicate (d+1+1) ([]:List UInt8)).length=done.length+(d+2):=by simp
  have hset:List.set (done++List.replicate (d+1+1) ([]:List UInt8)) done.length x=(done++[x])++List.replicate (d+1) []:=by
   rw [List.set_append_right _ _ (Nat.le_refl _),Nat.sub_self,List.append_assoc]
   rfl
  have h1:(([c]:List UInt8).length:Nat)=1:=rfl
  have hw:IntKind.wrap .i64 ((x.length:Int)+0)=(x.length:Int):=by rw [wr (by omega)]; omega
  have hw2:IntKind.wrap .i64 ((x.length:Int)+((1:Nat):Int))=((x.length+1:Nat):Int):=by rw [wr (by omega)]; omega
  have ih:=qtg m c N hN d r (done++[x]) n hcr (by omega) (by simp; omega) (by omega)
  rw [hi,hok,h1,hw,hw2,hdl,hlen]
  simp (disch:=omega) only [dT,dF,cond_true,cond_false,Bool.and_true,tn,qv]
  have e1:(x++c :: r).take (x.length+(r.length+1))=x++c :: r:=List.take_of_length_le (by omega)
  have e2:(x++c :: r).take x.length=x:=List.take_left
  have e3:(x++c :: r).drop (x.length+1)=r:=by
   rw [← List.drop_drop,List.drop_left]
   rfl
  rw [e1,e2,e3,List.drop_zero,hset,qxJ c r x [] hx]
  rw [show (done++[x]).length=done.length+1 by simp] at ih
  rw [ih,List.append_assoc]
  rfl
theorem qzY:∀ (s0:List UInt8) (sep1:List UInt8) (sepSave2:Int) (n3:Int),(qog s0 sep1 sepSave2 n3=true)→∃ n,qwd n s0 sep1 sepSave2 n3=qjt (z78 s0 sep1 sepSave2 n3):=fun s sep save k h=>⟨s.length+1,by
 unfold qog at h
 simp only [Bool.and_eq_true,decide_eq_true_eq,beq_iff_eq] at h
 obtain ⟨⟨h1,h2⟩,rfl,rfl⟩:=h
 obtain ⟨c,rfl⟩:=qxI h2
 have hl:=qm h1
 have hc:s.count c≤s.length:=List.count_le_length
 unfold qwd
 have hok:qha s [c]=true:=by unfold qha; rw [h1]; rfl
 have hcnt:z124 s [c]=((s.count c:Nat):Int):=rfl
 have hw1:IntKind.wrap .i64 (((s.length:Nat):Int)+1)=((s.length+1:Nat):Int):=by rw [wr (by omega)]; omega
 have hw2:IntKind.wrap .i64 (((s.count c:Nat):Int)+1)=((s.count c+1:Nat):Int):=by rw [wr (by omega)]; omega
 have hw3:IntKind.wrap .i64 (((s.count c+1:Nat):Int) - 1)=((s.count c:Nat):Int):=by rw [wr (by omega)]; omega
 have hroom:((s.count c+1:Nat):Int)≤(room:Int):=by unfold room; omega
 rw [show (((-1:Int))==0)=false from rfl,show ((((([c]:List UInt8)).length:Nat):Int)==0)=false from rfl,show decide ((-1:Int) < 0)=true from rfl,hok,hcnt,hw1,hw2]
 simp only [cond_false,cond_true,Bool.and_true]
 rw [dF (show ¬ ((s.length+1:Nat):Int) < ((s.count c+1:Nat):Int) by omega),cond_false,hw3,dT hroom,tn]
 simp (disch:=omega) only [dT,cond_true,Bool.and_true]
 exact qtg (s.length+1) c (s.count c) (by omega) (s.count c) s [] (s.length+1) rfl (by omega) (by simp) hl⟩
theorem qzZ:∀ (s0:List UInt8) (sep1:List UInt8),(qto s0 sep1=true)→∃ n,qzs n s0 sep1=qxo (z37 s0 sep1):=fun s sep h=>⟨0,by
 unfold qzs
 have:qog s sep 0 (-1)=true:=by
  unfold qog
  rw [show (lenOk s&&decide (sep.length=1))=true from h]
  rfl
 rw [this]
 rfl⟩
theorem qth (s:List UInt8) (c:UInt8):(z79 s==[c])=(match s with | [x]=>z126 x==c | _=>false):=by
 unfold z79
 match s with
 | []=>rfl
 | [x]=>simp
 | x :: y :: r=>simp
theorem qAa:∀ (s0:List UInt8),(qoh s0=true)→∃ n,qzt n s0=qju (z39 s0):=fun s h=>⟨0,by
 unfold qzt
 rw [show qoi s=true from h,qth,qth]
 match s with
 | []=>rfl
 | [x] =>
  show (bif z126 x==98 then _ else bif z126 x==113 then _ else _)=qju (bif z126 x==98 then 1 else bif z126 x==113 then 2 else 0)
  cases (z126 x==98) <;> cases (z126 x==113) <;> rfl
 | x :: y :: r=>rfl⟩
theorem qAb:∀ (s0:List UInt8) (kinds1:Int),(qdI s0 kinds1=true)→∃ n,qzv n s0 kinds1=qse (z40 s0 kinds1):=fun s k h=>⟨0,by
 unfold qzv
 rw [show qoj s k=true from h]
 cases s with
 | nil=>rfl
 | cons x r =>
  rw [dT (by simp only [List.length_cons]; omega)]
  rfl⟩
theorem qlh (c:UInt8):∀ (s cur x:List UInt8),x∈cutC c cur s→x.length≤cur.length+s.length
 | [],cur,x,h=>by
  have:x∈[cur]:=h
  simp only [List.mem_singleton] at this
  subst this
  exact Nat.le_refl _
 | y :: r,cur,x,h=>by
  rw [qfp] at h
  cases hy:(y==c) with
  | true =>
   rw [hy,cond_true] at h
   rcases List.mem_cons.1 h with rfl | h
   ·exact Nat.le_add_right _ _
   ·have:=qlh c r [] x h
    simp only [List.length_nil,List.length_cons] at this ⊢
    omega
  | false =>
   rw [hy,cond_false] at h
   have:=qlh c r _ x h
   simp only [List.length_append,List.length_cons,List.length_nil] at this ⊢
   omega
theorem five {α:Type} {L:List α} (h:L.length=5):∃ a n c t b,L=[a,n,c,t,b]:=by
 match L,h with
 | [a,n,c,t,b],_=>exact ⟨a,n,c,t,b,rfl⟩
theorem qti (k:Nat) {L:List (List UInt8)} (h:L.length≠5):qjH k L=(qjG,3):=by
 unfold qjH
 split
 ·exact absurd rfl h
 ·rfl
theorem qAc:∀ (s0:List UInt8),(qgz s0=true)→∃ n,qzw n s0=qA (z11 s0).1 (z11 s0).2:=fun s h=>⟨0,by
 have hl:=qm h
 have hok:qto s [63]=true:=by unfold qto; rw [show lenOk s=true from h]; rfl
 have hmem:∀ x∈cutC 63 [] s,x.length≤1048576:=fun x hx=>by
  have:=qlh 63 s [] x hx
  simp only [List.length_nil] at this
  omega
 unfold qzw z11
 rw [hok,show z37 s [63]=cutC 63 [] s from rfl]
 generalize cutC 63 [] s=L at hmem ⊢
 have h75:decide ((75:Int) < ((s.length:Nat):Int))=decide (75 < s.length):=by rw [Bool.eq_iff_iff]; simp only [decide_eq_true_eq]; omega
 rw [h75]
 generalize hk:s.length=k
 by_cases h5:L.length=5
 ·obtain ⟨a,n,c,t,b,rfl⟩:=five h5
  have okn:qcY n=true:=qt (hmem n (by simp))
  have okt:qcY t=true:=qt (hmem t (by simp))
  have okc:qoh c=true:=qt (hmem c (by simp))
  have okn2:qdI n 64=true:=qt (hmem n (by simp))
  have okt2:qdI t 4=true:=qt (hmem t (by simp))
  have c0:(decide ((0:Int)≤0)&&decide ((0:Int) < ((List.length [a,n,c,t,b]:Nat):Int)))=true:=rfl
  have c1:(decide ((0:Int)≤1)&&decide ((1:Int) < ((List.length [a,n,c,t,b]:Nat):Int)))=true:=rfl
  have c2:(decide ((0:Int)≤2)&&decide ((2:Int) < ((List.length [a,n,c,t,b]:Nat):Int)))=true:=rfl
  have c3:(decide ((0:Int)≤3)&&decide ((3:Int) < ((List.length [a,n,c,t,b]:Nat):Int)))=true:=rfl
  have c4:(decide ((0:Int)≤4)&&decide ((4:Int) < ((List.length [a,n,c,t,b]:Nat):Int)))=true:=rfl
  have g0:List.getD [a,n,c,t,b] (Int.toNat 0) []=a:=rfl
  have g1:List.getD [a,n,c,t,b] (Int.toNat 1) []=n:=rfl
  have g2:List.getD [a,n,c,t,b] (Int.toNat 2) []=c:=rfl
  have g3:List.getD [a,n,c,t,b] (Int.toNat 3) []=t:=rfl
  have g4:List.getD [a,n,c,t,b] (Int.toNat 4) []=b:=rfl
  have e5:((((List.length [a,n,c,t,b]:Nat)):Int) != 5)=false:=rfl
  have ecl:∀ x,z38 x=x:=fun _=>rfl
  simp only [e5,c0,c1,c2,c3,c4,g0,g1,g2,g3,g4,okn,okt,okc,okn2,okt2,ecl,qhp,cond_true,cond_false,Bool.and_true]
  show _=qA (qjH k [a,n,c,t,b]).1 (qjH k [a,n,c,t,b]).2
  unfold qjH
  simp only [show z39 c=codeL c from rfl,show z40 n 64=fullB n 64 from rfl,show z40 t 4=fullB t 4 from rfl]
  by_cases ha:a=[61]
  ·by_cases hb:b=[61]
   ·subst ha hb
    simp only [decide_true,Bool.and_true,cond_true,bne_self_eq_false,cond_false]
    cases (codeL c==0) <;> cases fullB n 64 <;> cases fullB t 4 <;> cases decide (75 < k) <;> rfl
   ·rw [decide_eq_false hb,Bool.and_false,show (b != [61])=true from bne_iff_ne.2 hb,cond_true]
    subst ha
    rfl
  ·rw [decide_eq_false ha,Bool.false_and,show (a != [61])=true from bne_iff_ne.2 ha,cond_true]
   rfl
 ·rw [bneT (by omega),qti k h5]
  rfl⟩
theorem qAd:∀ (s0:List UInt8),(qtp s0=true)→∃ n,qzx n s0=qxu (z14 s0):=fun s h=>⟨0,by
 unfold qzx
 rw [show qgz s=true from h]
 rfl⟩
theorem qwG:∀ (a0:List UInt8) (b1:List UInt8),∃ n,qxn n a0 b1=qrT (z175 a0 b1):=fun _ _=>⟨0,rfl⟩
theorem qwH:∀ (s0:List UInt8),(qhd s0=true)→∃ n,qsM n s0=qsL (z148 s0):=fun s h=>⟨0,by
 have hl:=qm h
 have h1:qhc s [32,9]=true:=by unfold qhc; rw [show lenOk s=true from h]; rfl
 have e:z190 s [32,9]=z148 s:=by unfold z190 z148; rw [qwE]
 unfold qsM
 rw [h1,e,show qcY (z148 s)=true from qt (Nat.le_trans (qmR _ _) hl)]
 rfl⟩
theorem qtj (x:UInt8) (s:List UInt8) (c:UInt8):Lib.indexByte (x :: s) c=if (x==c)=true then 0 else if (Lib.indexByte s c == -1)=true then -1 else Lib.indexByte s c+1:=rfl
theorem ib_lt:∀ (s:List UInt8) (c:UInt8),Lib.indexByte s c < (s.length:Int)
 | [],c=>by show (-1:Int) < ((0:Nat):Int); omega
 | x :: s,c=>by
  have:=ib_lt s c
  have hg:=Lib.indexByte_ge s c
  rw [qtj]
  simp only [List.length_cons]
  split
  ·omega
  ·split <;> omega
theorem qgY:∀ (s:List UInt8) (c:UInt8),(Lib.indexByte s c != -1)=s.contains c
 | [],c=>rfl
 | x :: s,c=>by
  have ih:=qgY s c
  have hg:=Lib.indexByte_ge s c
  rw [List.contains_cons,← ih,qtj]
  cases hx:(x==c) with
  | true =>
   have:(c==x)=true:=by rw [Bool.beq_comm]; exact hx
   rw [this]; rfl
  | false =>
   have:(c==x)=false:=by rw [Bool.beq_comm]; exact hx
   rw [this,Bool.false_or]
   simp only [Bool.false_eq_true,if_false]
   by_cases h:Lib.indexByte s c = -1
   ·rw [h]; rfl
   ·rw [if_neg (by simpa using h),bneT (by omega),bneT h]
theorem qFI (s:List UInt8) (c:UInt8):decide (Lib.indexByte s c < 0) = !s.contains c:=by
 have hg:=Lib.indexByte_ge s c
 rw [← qgY]
 by_cases h:Lib.indexByte s c = -1
 ·rw [h]; rfl
 ·rw [bneT h,dF (by omega)]; rfl
theorem and15 (n:Int):bits .and .i64 n 15=n % 16:=by
 have h:(BitVec.ofInt 64 n &&& BitVec.ofInt 64 15).toNat=(n % 16).toNat:=by
  rw [BitVec.toNat_and]
  have h1:(BitVec.ofInt 64 15).toNat=2 ^ 4 - 1:=by decide
  rw [h1,Nat.and_two_pow_sub_one_eq_mod,BitVec.toNat_ofInt]
  omega
 show IntKind.wrap .i64 (((BitVec.ofInt 64 n &&& BitVec.ofInt 64 15).toNat:Nat):Int)=_
 rw [h,IntWalk.i64_in _ (by omega)]
 omega
theorem qwI:∀ (n0:Int),(qcD n0=true)→∃ n,qsh n n0=qsg (z181 n0):=fun n _=>⟨0,by
 unfold qsh z181
 rw [and15]
 have h0:(0:Int)≤n % 16:=by omega
 have h1:n % 16 < (((([48,49,50,51,52,53,54,55,56,57,65,66,67,68,69,70]:List UInt8).length:Nat)):Int):=by simp; omega
 rw [decide_eq_true h0,decide_eq_true h1]
 rfl⟩
theorem qtk (c:UInt8):IntKind.wrap .i64 ((UInt8.toNat c:Nat):Int)=((UInt8.toNat c:Nat):Int):=by
 have:=c.toNat_lt
 exact IntWalk.i64_in _ (by omega)
theorem qwJ:∀ (c0:UInt8),∃ n,qsR n c0=qgk (z237 c0).1 (z237 c0).2:=fun c=>⟨0,by
 unfold qsR z237
 have h:=(z126 c - 97).toNat_lt
 rw [qtk,qtk,IntWalk.i64_in (((z126 c - 97).toNat:Int)+10) (by omega)]
 cases z129 (z126 c) 8 <;> cases decide ((97:UInt8)≤z126 c) <;> cases decide (z126 c≤(102:UInt8)) <;> rfl⟩
theorem qli:∀ i:Fin 256,0≤(z237 (UInt8.ofNat i.val)).1∧(z237 (UInt8.ofNat i.val)).1 < 16:=by decide +kernel
theorem qAe {P:UInt8→Prop} (h:∀ i:Fin 256,P (UInt8.ofNat i.val)) (c:UInt8):P c:=by
 have:=h ⟨c.toNat,c.toNat_lt⟩
 simpa using this
theorem qgZ (c:UInt8):0≤(z237 c).1∧(z237 c).1 < 16:=qAe (P:=fun c=>0≤(z237 c).1∧(z237 c).1 < 16) qli c
theorem qAf:∀ a b:Fin 16,UInt8.ofNat (Int.toNat (IntKind.wrap .u8 (bits .or .i64 (IntKind.wrap .i64 (((a.val:Nat):Int)*2 ^ (min (Int.toNat (4:Int)) (IntKind.bits .i64)))) ((b.val:Nat):Int))))=UInt8.ofNat (Int.toNat (((a.val:Nat):Int)*16+((b.val:Nat):Int))):=by decide +kernel
theorem qAg {P:Int→Int→Prop} (h:∀ a b:Fin 16,P ((a.val:Nat):Int) ((b.val:Nat):Int)) {x y:Int} (hx:0≤x∧x < 16) (hy:0≤y∧y < 16):P x y:=by
 have:=h ⟨x.toNat,by omega⟩ ⟨y.toNat,by omega⟩
 simp only [Int.toNat_of_nonneg hx.1,Int.toNat_of_nonneg hy.1] at this
 exact this
theorem qwK:∀ (a0:UInt8) (b1:UInt8),∃ n,qsS n a0 b1=qii (z220 a0 b1).1 (z220 a0 b1).2:=fun a b=>⟨0,by
 unfold qsS z220
 have h:=qAg (P:=fun x y=>UInt8.ofNat (Int.toNat (IntKind.wrap .u8 (bits .or .i64 (IntKind.wrap .i64 (x*2 ^ (min (Int.toNat (4:Int)) (IntKind.bits .i64)))) y)))=UInt8.ofNat (Int.toNat (x*16+y))) qAf (qgZ a) (qgZ b)
 rw [← h]
 cases (z237 a).2 <;> cases (z237 b).2 <;> rfl⟩
theorem qoe (s:List UInt8) (at1:Int) (hl:s.length≤1048576) (h0:¬ at1 < 0) (h1:¬ IntKind.wrap .i64 (((List.length s:Nat):Int) - 3) < at1):∃ i:Nat,at1=i∧i+2 < s.length:=by
 rw [IntWalk.i64_in _ (by omega)] at h1
 exact ⟨at1.toNat,by omega,by omega⟩
theorem qwL:∀ (s0:List UInt8) (at1:Int) (sign2:UInt8),(qme s0 at1 sign2=true)→∃ n,qsT n s0 at1 sign2=qgl (z189 s0 at1 sign2).1 (z189 s0 at1 sign2).2:=fun s at1 sign h=>⟨0,by
 have hl:=qm h
 unfold qsT z189
 by_cases h0:at1 < 0
 ·rw [decide_eq_true h0,decide_eq_false (show ¬ 0≤at1 by omega)]; rfl
 by_cases h1:IntKind.wrap .i64 (((List.length s:Nat):Int) - 3) < at1
 ·have h2:¬ at1≤(s.length:Int) - 3:=by rw [IntWalk.i64_in _ (by omega)] at h1; omega
  rw [decide_eq_false h0,decide_eq_true h1,decide_eq_false h2,Bool.and_false]; rfl
 obtain ⟨i,rfl,hi⟩:=qoe s at1 hl h0 h1
 rw [decide_eq_false h0,decide_eq_false h1,cond_false,cond_false,qbl,qtB,decide_eq_true (show i < s.length by omega),Bool.and_true,cond_true,qeR,qv (by omega),
  show IntKind.wrap .i64 ((i:Int)+2)=((i+2:Nat):Int) by rw [IntWalk.i64_in _ (by omega)]; omega,qbl,qbl,qtB,qtB,decide_eq_true (show i+1 < s.length by omega),decide_eq_true hi,qeR,qeR,
  decide_eq_true (show (i:Int)≤(s.length:Int) - 3 by omega),Bool.and_true,cond_true]
 unfold qkH
 cases he:(List.getD s i 0==sign) with
 | true=>rw [show (List.getD s i 0 != sign)=false by simp only [bne,he,Bool.not_true]]; rfl
 | false=>rw [show (List.getD s i 0 != sign)=true by simp only [bne,he,Bool.not_false]]; rfl⟩
theorem qtl:∀ i:Fin 256,[z181 (IntKind.wrap .i64 ((UInt8.toNat (UInt8.ofNat (UInt8.toNat (UInt8.ofNat i.val) / 2 ^ (min (Int.toNat (4:Int)) 8))):Nat):Int)),z181 (IntKind.wrap .i64 ((UInt8.toNat (UInt8.ofNat i.val):Nat):Int))]=z130 (UInt8.ofNat i.val):=by decide +kernel
theorem qof:∀ i:Fin 256,qgJ (IntKind.wrap .i64 (Int.tdiv (IntKind.wrap .i64 ((UInt8.toNat (UInt8.ofNat i.val):Nat):Int)) (16:Int)))=true∧qgJ (Int.tmod (IntKind.wrap .i64 ((UInt8.toNat (UInt8.ofNat i.val):Nat):Int)) (16:Int))=true ∧
 qcD (IntKind.wrap .i64 ((UInt8.toNat (UInt8.ofNat (UInt8.toNat (UInt8.ofNat i.val) / 2 ^ (min (Int.toNat (4:Int)) 8))):Nat):Int))=true∧qcD (IntKind.wrap .i64 ((UInt8.toNat (UInt8.ofNat i.val):Nat):Int))=true:=by decide +kernel
theorem boths (c:UInt8):[z181 (IntKind.wrap .i64 ((UInt8.toNat (UInt8.ofNat (UInt8.toNat c / 2 ^ (min (Int.toNat (4:Int)) 8))):Nat):Int)),z181 (IntKind.wrap .i64 ((UInt8.toNat c:Nat):Int))]=z130 c:=qAe (P:=fun c=>[z181 (IntKind.wrap .i64 ((UInt8.toNat (UInt8.ofNat (UInt8.toNat c / 2 ^ (min (Int.toNat (4:Int)) 8))):Nat):Int)),z181 (IntKind.wrap .i64 ((UInt8.toNat c:Nat):Int))]=z130 c) qtl c
theorem qFJ (c:UInt8):qgJ (IntKind.wrap .i64 (Int.tdiv (IntKind.wrap .i64 ((UInt8.toNat c:Nat):Int)) (16:Int)))=true∧qgJ (Int.tmod (IntKind.wrap .i64 ((UInt8.toNat c:Nat):Int)) (16:Int))=true ∧
 qcD (IntKind.wrap .i64 ((UInt8.toNat (UInt8.ofNat (UInt8.toNat c / 2 ^ (min (Int.toNat (4:Int)) 8))):Nat):Int))=true∧qcD (IntKind.wrap .i64 ((UInt8.toNat c:Nat):Int))=true:=qAe (P:=fun c=>qgJ (IntKind.wrap .i64 (Int.tdiv (IntKind.wrap .i64 ((UInt8.toNat c:Nat):Int)) (16:Int)))=true∧qgJ (Int.tmod (IntKind.wrap .i64 ((UInt8.toNat c:Nat):Int)) (16:Int))=true ∧
 qcD (IntKind.wrap .i64 ((UInt8.toNat (UInt8.ofNat (UInt8.toNat c / 2 ^ (min (Int.toNat (4:Int)) 8))):Nat):Int))=true∧qcD (IntKind.wrap .i64 ((UInt8.toNat c:Nat):Int))=true) qof c
theorem qwM:∀ (c0:UInt8),∃ n,qsj n c0=qsi (z130 c0):=fun c=>⟨0,by
 obtain ⟨_,_,h1,h2⟩:=qFJ c
 unfold qsj
 rw [h1,h2,boths]
 rfl⟩
theorem qAh:∀ (b0:List UInt8) (sign1:UInt8) (c2:UInt8),(qvf b0 sign1 c2=true)→∃ n,qzB n b0 sign1 c2=qxw (z85 b0 sign1 c2):=fun b sign c h=>⟨0,by
 have hl:=qm h
 unfold qzB z85 qcY z38
 rw [show lenOk b=true from h,Bool.and_true,cond_true,decide_eq_true (by unfold room; simp; omega),cond_true,decide_eq_true (by unfold room z130; simp; omega),cond_true,List.append_assoc]
 rfl⟩
def okc (c:UInt8):Bool:=(c==13)||(c==10)||(c==9)||(decide (32≤c)&&decide (c≤126))
theorem qwN:∀ (s0:List UInt8) (suffix1:List UInt8),(qmn s0 suffix1=true)→∃ n,qsX n s0 suffix1=qlc (z228 s0 suffix1):=fun s t h=>⟨0,by
 have hl:=qm h
 unfold qsX z228
 by_cases hc:t.length≤s.length
 ·have e:IntKind.wrap .i64 ((s.length:Int) - (t.length:Int))=((s.length - t.length:Nat):Int):=by rw [IntWalk.i64_in _ (by omega)]; omega
  rw [e,tn,tn,List.take_length,dT hc]
  simp (disch:=omega) only [dT,cond_true,Bool.and_true]
  rfl
 ·rw [dF hc,dF (by omega)]; rfl⟩
theorem qcX (l:List UInt8) (i k:Nat):(l.drop i).getD k 0=l.getD (i+k) 0:=by
 simp [List.getD,List.getElem?_drop]
set_option linter.unusedSimpArgs false
theorem qwO:∀ (n0:Int),∃ n,qsA n n0=qgg (z218 n0):=fun c=>⟨0,by
 unfold qsA z218
 cases (c==(2:Int)) <;> cases (c==(3:Int)) <;> cases (c==(4:Int)) <;> rfl⟩
theorem qwP:∃ n,qxy n  = qss z185:=⟨0,rfl⟩
theorem qwQ:∃ n,qxA n  = qst z186:=⟨0,rfl⟩
theorem qAi {α β:Type} (f:α→β) (t:List α) (z:β) (i:Nat) (h:i < t.length) (d:α) :
 ((t.take i).map f++List.replicate (t.length - i) z).set i (f (t.getD i d))=(t.take (i+1)).map f++List.replicate (t.length - (i+1)) z:=by
 rw [List.set_append_right _ _ (by simp; omega)]
 have h1:((t.take i).map f).length=i:=by simp; omega
 rw [h1,Nat.sub_self,show t.length - i=(t.length - (i+1))+1 by omega,List.replicate_succ,List.set_cons_zero,List.take_succ_eq_append_getElem h,List.map_append,List.append_assoc]
 simp [List.getD,h]
theorem qes (x:UInt8):IntKind.wrap .i32 ((UInt8.toNat x:Nat):Int)=((UInt8.toNat x:Nat):Int):=IntWalk.i32_in _ (by have:=x.toNat_lt; omega)
theorem qAj:∀ (x0:UInt8),∃ n,qzT n x0=qcH (z64 x0):=fun x=>⟨0,by
 unfold qzT z64
 rw [qes]
 cases (x==(164:UInt8)) <;> cases (x==(166:UInt8)) <;> cases (x==(168:UInt8)) <;> cases (x==(180:UInt8)) <;> cases (x==(184:UInt8)) <;> cases (x==(188:UInt8)) <;> cases (x==(189:UInt8)) <;> cases (x==(190:UInt8)) <;> rfl⟩
theorem qAk:∀ (x0:UInt8),∃ n,qzU n x0=qmQ (z65 x0):=fun x=>⟨0,by
 unfold qzU z65
 rw [qes]
 have hx:=x.toNat_lt
 by_cases h1:x < 128
 ·rw [dT h1]; rfl
 ·by_cases h2:159 < x
  ·rw [dF h1,dT h2]; rfl
  ·rw [dF h1,dF h2]
   have h3:128≤x.toNat:=by have:=UInt8.not_lt.1 h1; exact UInt8.le_iff_toNat_le.1 this
   have h4:x.toNat≤159:=by have:=UInt8.not_lt.1 h2; exact UInt8.le_iff_toNat_le.1 this
   have h5:(x - 128).toNat=x.toNat - 128:=UInt8.toNat_sub_of_le _ _ (UInt8.not_lt.1 h1)
   rw [h5]
   simp (disch:=(first | omega | (simp; omega))) only [dT,Bool.and_true,cond_true,cond_false,Bool.or_false,tn]
   rfl⟩
theorem qim {α β:Type} {t:List α} {dv:α} {f:α→List β} {q:α→Bool} {k0:List β→Option AV} {R:Option AV} {L:Nat→List β→Int→Option AV} {b:Nat} (hf:∀ x,(f x).length≤b)
 (hL:∀ (n i:Nat) (out:List β),i < t.length→out.length+b≤room→L (n+1) out (i:Int)=bif q (t.getD i dv) then L n (out++f (t.getD i dv)) ((i+1:Nat):Int) else R) (hE:∀ n out,L (n+1) out ((t.length:Nat):Int)=k0 out) :
 ∀ (d i n:Nat) (out:List β),i+d=t.length→d < n→out.length+b*d≤room→L n out (i:Int)=bif (t.drop i).all q then k0 (out++(t.drop i).flatMap f) else R
 | d,i,0,out,hi,hn,_=>by omega
 | 0,i,n+1,out,hi,hn,_=>by
  obtain rfl:i=t.length:=by omega
  rw [hE,List.drop_eq_nil_of_le (by omega)]
  simp
 | d+1,i,n+1,out,hi,hn,hb=>by
  have hlt:i < t.length:=by omega
  have hx:=hf (t.getD i dv)
  have hb':b*(d+1)=b*d+b:=by rw [Nat.mul_succ]
  have h0:0≤b*d:=Nat.zero_le _
  rw [hL n i out hlt (by omega),qim (α:=α) (β:=β) hf hL hE d (i+1) n _ (by omega) (by omega) (by rw [List.length_append]; omega),qaM (d:=dv) hlt]
  simp only [List.all_cons,List.flatMap_cons,List.append_assoc]
  cases q (t.getD i dv) <;> rfl
theorem qwR:∀ (charset0:Int),∃ n,qsn n charset0=qcU (z133 charset0):=fun cs=>⟨0,by
 unfold qsn z133
 cases (cs==(1:Int)) <;> cases (cs==(2:Int)) <;> cases (cs==(3:Int)) <;> cases (cs==(4:Int)) <;> cases (cs==(5:Int)) <;> rfl⟩
theorem qAl:∀ (charset0:Int),∃ n,qzC n charset0=qso (z89 charset0):=fun cs=>⟨0,by
 unfold qzC z89 z133
 cases (cs==(1:Int)) <;> cases (cs==(2:Int)) <;> cases (cs==(3:Int)) <;> cases (cs==(4:Int)) <;> cases (cs==(5:Int)) <;> rfl⟩
theorem qAm:∀ (n0:Int),∃ n,qzy n n0=qsf (z44 n0):=fun cs=>⟨0,by
 unfold qzy z44
 cases decide ((1:Int)≤cs) <;> rfl⟩
theorem qAn:∀ (n0:Int),∃ n,qzz n n0=qmz (z45 n0):=fun cs=>⟨0,by
 unfold qzz z45
 cases (cs==(1:Int)) <;> cases (cs==(2:Int)) <;> rfl⟩
theorem qtm (cs:Int):(z89 cs).length≤12:=by
 unfold z89 z133
 cases (cs==(1:Int)) <;> cases (cs==(2:Int)) <;> cases (cs==(3:Int)) <;> cases (cs==(4:Int)) <;> cases (cs==(5:Int)) <;> decide
theorem qtn (n:Int):(z45 n).length≤1:=by
 unfold z45
 cases (n==(1:Int)) <;> cases (n==(2:Int)) <;> decide
theorem qAo:∀ (charset0:Int) (code1:Int),∃ n,qzD n charset0 code1=qxx (z48 charset0 code1):=fun cs n=>⟨0,by
 unfold qzD z48
 have h1:=qtm cs
 have h2:=qtn n
 simp (disch:=(simp; omega)) only [dT,cond_true]⟩
theorem qAp:∀ (charset0:Int),∃ n,qzF n charset0=qjx (z17 charset0):=fun cs=>⟨0,by
 unfold qzF z17 z48
 have h1:=qtm cs
 cases z44 cs with
 | false=>rfl
 | true =>
  show qjx _=qjx _
  congr 1
  rw [show z45 2=[81] from rfl]
  simp only [List.length_append,List.length_cons,List.length_nil]
  have e:∀ k:Nat,k≤100→IntKind.wrap .i64 (IntKind.wrap .i64 ((k:Int)+1)+1)=((k+2:Nat):Int):=fun k hk=>by
   rw [IntWalk.i64_in ((k:Int)+1) (by omega),IntWalk.i64_in _ (by omega)]; omega
  rw [e _ (by omega)]
  simp only [Bool.not_true,cond_false]
  omega⟩
theorem qAq:∀ (c0:UInt8),∃ n,qzA n c0=qmA (z84 c0):=fun c=>⟨0,by
 unfold qzA z84
 cases (c==(32:UInt8)) <;> cases z129 c 128 <;> rfl⟩
theorem qwT (c:UInt8):(z84 c).toNat≤3∧z84 c=((z84 c).toNat:Int):=by
 unfold z84
 cases (c==(32:UInt8)) <;> cases z129 c 128 <;> decide
theorem qmU (k0:Int→Option AV) (s:List UInt8) (hl:s.length≤4194304):∀ (d i n m:Nat),i+d=s.length→d < n→m+3*d≤100000000 →
 qkP k0 n (m:Nat) s ((s.length:Nat):Int) (i:Nat)=k0 ((m+qLen (s.drop i):Nat):Int)
 | d,i,0,m,hi,hn,_=>by omega
 | 0,i,n+1,m,hi,hn,_=>by
  show qee _ _ n _ _ _ _=_
  unfold qee
  rw [dF (by omega),cond_false,List.drop_eq_nil_of_le (by omega)]
  rfl
 | d+1,i,n+1,m,hi,hn,hm=>by
  show qee _ _ n _ _ _ _=_
  unfold qee
  have hlt:i < s.length:=by omega
  have h1:=qwT (s.getD i 0)
  rw [qaM (d:=(0:UInt8)) hlt]
  simp (disch:=omega) only [dT,cond_true,Bool.and_true,tn,qv]
  rw [h1.2,show IntKind.wrap .i64 ((m:Int)+(((z84 (s.getD i 0)).toNat:Nat):Int))=((m+(z84 (s.getD i 0)).toNat:Nat):Int) from by rw [IntWalk.i64_in _ (by omega)]; omega,
   qmU k0 s hl d (i+1) n _ (by omega) (by omega) (by omega)]
  congr 1
  unfold qLen
  simp only [List.map_cons,List.sum_cons]
  omega
theorem qAr:∀ (s0:List UInt8),(qnP s0=true)→∃ n,qwf n s0=qxv (z83 s0):=fun s h=>⟨s.length+1,by
 unfold qnP at h
 have hl:s.length≤4194304:=by simpa using h
 unfold qwf
 refine (qmU (qgb (s.length+1)) s hl s.length 0 (s.length+1) 0 (by omega) (by omega) (by omega)).trans ?_
 rw [List.drop_zero,Nat.zero_add]
 rfl⟩
theorem qmV (c:UInt8):(z91 c).length=(z84 c).toNat:=by
 unfold z91 z84 z137 z82
 cases (c==(32:UInt8)) <;> cases z129 c 128 <;> rfl
end Go.Av
