import Derived.Test.YtopepdfipgfakaaGreatDoorEfSh
import Derived.Test.YtopepdfipgfakaaGreatDoorAvE
import Derived.Lib.IndexAny
import Derived.Lib.IndexMore
import Derived.Lib.IndexBytes
import Derived.IntWalk
import Derived.KernelRfl
namespace Go.Av
set_option linter.unusedVariables false
theorem qtV {α:Type} [DecidableEq α] {a b:List α} {i:Nat} (ha:i < a.length) (hb:i < b.length) (d:α):decide (a.drop i=b.drop i)=bif a.getD i d != b.getD i d then false else decide (a.drop (i+1)=b.drop (i+1)):=by
 rw [qY (d:=d) ha,qY (d:=d) hb]
 generalize a.getD i d=x
 generalize b.getD i d=y
 by_cases h:x=y
 ·subst h; simp
 ·simp [h]
theorem qrc (ret:Bool→Option AV) (a b:List UInt8) (hab:a.length=b.length) (hl:a.length≤1048576):∀ (d i n:Nat),i+d=a.length→d < n →
 qhE ret (ret true) n a b (i:Nat)=ret (decide (a.drop i=b.drop i))
 | d,i,0,hi,hn=>by omega
 | 0,i,n+1,hi,hn=>by
  show qeg ret (ret true) (qhE ret (ret true) n) n a b _=_
  unfold qeg
  rw [decide_eq_false (by omega),cond_false,List.drop_eq_nil_of_le (by omega),List.drop_eq_nil_of_le (by omega)]
  rfl
 | d+1,i,n+1,hi,hn=>by
  show qeg ret (ret true) (qhE ret (ret true) n) n a b _=_
  unfold qeg
  have hlt:i < a.length:=by omega
  have hlt':i < b.length:=by omega
  have ih:=qrc ret a b hab hl d (i+1) n (by omega) (by omega)
  rw [qlK,decide_eq_true hlt,cond_true,qaw,Bool.true_and,cond_true,Bool.true_and,qlK,decide_eq_true hlt',cond_true,qw (by omega),qcQ,ih,qtV hlt hlt' 0]
  cases (a.getD i 0 != b.getD i 0) <;> rfl
theorem qxA:∀ (a0:List UInt8) (b1:List UInt8),(qmP a0 b1=true)→∃ n,qtU n a0 b1=qgv (z13 a0 b1):=fun a b h=>⟨a.length+1,by
 unfold qtU z13
 by_cases hab:a.length=b.length
 ·rw [show (((a.length:Nat):Int) != ((b.length:Nat):Int))=false by simp [hab],cond_false]
  exact qrc qgv a b hab (qo h) a.length 0 (a.length+1) (by omega) (by omega)
 ·rw [show (((a.length:Nat):Int) != ((b.length:Nat):Int))=true by simp only [bne_iff_ne,ne_eq]; omega,cond_true,decide_eq_false (fun e=>hab (by rw [e]))]⟩
theorem qiO (c:UInt8):decide (((UInt8.toNat c:Nat):Int) < (256:Nat))=true:=by
 have:=c.toNat_lt
 rw [decide_eq_true]
 omega
theorem qbD (ret:List Bool→Bool→Option AV) (k0:List Bool→Option AV) (cs:List UInt8) (ha:ascii cs=true) (hl:cs.length≤1048576):∀ (d i n:Nat) (a:List Bool),i+d=cs.length→d < n →
 qdp ret k0 n cs a (i:Nat)=k0 (setOf (cs.drop i) a)
 | d,i,0,a,hi,hn=>by omega
 | 0,i,n+1,a,hi,hn=>by
  show qch ret k0 (qdp ret k0 n) n cs a _=_
  unfold qch
  rw [decide_eq_false (by omega),cond_false,List.drop_eq_nil_of_le (by omega)]
  rfl
 | d+1,i,n+1,a,hi,hn=>by
  show qch ret k0 (qdp ret k0 n) n cs a _=_
  unfold qch
  have hlt:i < cs.length:=by omega
  have hc:decide ((128:UInt8)≤List.getD cs i 0)=false:=by
   unfold ascii at ha
   rw [List.all_eq_true] at ha
   have:=ha (cs.getD i 0) (by simp [List.getD,hlt])
   rw [decide_eq_false_iff_not]
   simp only [decide_eq_true_eq] at this
   exact UInt8.not_le.2 this
  rw [qlK,decide_eq_true hlt,cond_true,qaw,Bool.true_and,cond_true,qcQ,hc,cond_false,qaw,qiO,Bool.true_and,cond_true,qw (by omega),
   qbD ret k0 cs ha hl d (i+1) n _ (by omega) (by omega),qY (d:=0) hlt]
  rfl
theorem qtW:∀ (chars0:List UInt8),(qfV chars0=true)→∃ n,qqM n chars0=qfK (z223 chars0).1 (z223 chars0).2:=fun cs h=>⟨cs.length+1,by
 unfold qfV at h
 rw [Bool.and_eq_true] at h
 exact qbD qfK (qdq (cs.length+1)) cs h.1 (qo h.2) cs.length 0 (cs.length+1) _ (by omega) (by omega)⟩
theorem qtX:∀ (as0:List Bool) (c1:UInt8),∃ n,qqO n as0 c1=qqN (z238 as0 c1):=fun as c=>⟨0,by
 unfold qqO
 rw [qaw,qiO]
 rfl⟩
theorem qtY:∀ (c0:UInt8),∃ n,qqc n c0=qf (z214 c0):=fun c=>⟨0,by
 unfold qqc z214 qlF orI
 cases decide (c < (32:UInt8)) <;> cases (c==(127:UInt8)) <;> cases (c==(32:UInt8)) <;> cases (c==(9:UInt8)) <;> cases decide ((48:UInt8)≤c) <;> cases decide (c≤(57:UInt8)) <;> cases decide ((65:UInt8)≤c) <;> cases decide (c≤(90:UInt8)) <;> cases decide ((97:UInt8)≤c) <;> cases decide (c≤(122:UInt8)) <;> rfl⟩
theorem qtZ:∀ (s0:List UInt8) (c1:UInt8),∃ n,quX n s0 c1=qqd (z229 s0 c1):=fun _ _=>⟨0,rfl⟩
theorem qua:∀ (s0:List UInt8) (c1:UInt8),∃ n,quY n s0 c1=qqe (z192 s0 c1):=fun _ _=>⟨0,rfl⟩
theorem qub:∀ (s0:List UInt8) (c1:UInt8),∃ n,quZ n s0 c1=qqf (z215 s0 c1):=fun _ _=>⟨0,rfl⟩
theorem quc:∀ (c0:UInt8),∃ n,qqg n c0=qU (z180 c0):=fun c=>⟨0,by
 unfold qqg z180 quE orI
 cases decide (c < (33:UInt8)) <;> cases decide ((126:UInt8) < c) <;> cases z215 [33,42,43,45,47] c <;> cases z215 [43,47] c <;> cases z215 [40,41,60,62,64,44,59,58,92,34,47,91,93,63,61] c <;> cases z215 [42,39,37] c <;> rfl⟩
theorem qud:∀ (c0:UInt8) (kinds1:Int),∃ n,qva n c0 kinds1=qqh (z129 c0 kinds1):=fun _ _=>⟨0,rfl⟩
theorem qvq (c:UInt8):c.toNat < 256:=c.toNat_lt
theorem qxB (cs:List UInt8) (x:UInt8):∀ (a:List Bool),a.length=256→(setOf cs a).getD x.toNat false=(cs.contains x||a.getD x.toNat false):=by
 induction cs with
 | nil=>intro a _; simp [setOf]
 | cons c cs ih =>
  intro a hl
  show (setOf cs (List.set a c.toNat true)).getD x.toNat false=_
  rw [ih _ (by simpa using hl)]
  have hx:=qvq x
  have hc:=qvq c
  by_cases e:c=x
  ·subst e
   have:(List.set a c.toNat true).getD c.toNat false=true:=by simp [List.getD,hl,hc]
   rw [this]
   simp
  ·have hne:c.toNat≠x.toNat:=fun h=>e (UInt8.toNat_inj.1 h)
   have:(List.set a c.toNat true).getD x.toNat false=a.getD x.toNat false:=by simp [List.getD,List.getElem?_set_ne hne]
   rw [this]
   have hb:¬ x=c:=fun h=>e h.symm
   simp [hb]
theorem dT {p:Prop} [Decidable p] (h:p):decide p=true:=decide_eq_true h
theorem dF {p:Prop} [Decidable p] (h:¬ p):decide p=false:=decide_eq_false h
theorem wr {x:Int} (h : -9223372036854775808≤x∧x≤9223372036854775807):IntKind.wrap .i64 x=x:=IntWalk.i64_in x h
theorem tn (i:Nat):Int.toNat (i:Int)=i:=Int.toNat_natCast i
theorem bneI {a b:Int} (h:a≠b):(a==b)=false:=by simp [h]
theorem qy {α:Type} {l:List α} (h:l.length≤1048576):lenOk l=true:=by unfold lenOk; rw [decide_eq_true_eq]; exact h
theorem qrd (p:UInt8→Bool) (t:List UInt8) (x:UInt8):dropR p (t++[x])=bif p x then dropR p t else t++[x]:=by
 unfold dropR
 rw [List.reverse_append,List.reverse_singleton,List.singleton_append,List.dropWhile_cons]
 cases p x <;> simp
theorem qcI (p:UInt8→Bool):∀ s:List UInt8,(s.dropWhile p).length≤s.length
 | []=>by simp
 | c :: s=>by
  rw [List.dropWhile_cons]
  split
  ·have:=qcI p s; simp only [List.length_cons]; omega
  ·exact Nat.le_refl _
theorem qre (p:UInt8→Bool) (s:List UInt8):(dropR p s).length≤s.length:=by
 have:=qcI p s.reverse
 unfold dropR
 simpa using this
theorem qlA (p:UInt8→Bool) (s:List UInt8):(quF p s).length≤s.length:=Nat.le_trans (qcI p _) (qre p s)
theorem que:∀ (s0:List UInt8) (c1:UInt8),(qrp s0 c1=true)→∃ n,qqJ n s0 c1=qkb (z221 s0 c1):=fun _ _ h=>by cases h
theorem quf:∀ (s0:List UInt8) (c1:UInt8),(qrq s0 c1=true)→∃ n,qqL n s0 c1=qqK (z222 s0 c1):=fun _ _ h=>by cases h
theorem qiP (k0:List UInt8→Option AV) (as:List Bool):∀ (d:Nat) (s:List UInt8) (n:Nat),s.length=d→d < n→s.length≤1048576 →
 qeq k0 n s as=k0 (z225 s as)
 | d,s,0,hd,hn,hl=>by omega
 | d,s,n+1,hd,hn,hl=>by
  show qeS k0 (qeq k0 n) n s as=_
  unfold qeS z225
  rcases List.eq_nil_or_concat s with rfl | ⟨t,x,rfl⟩
  ·rfl
  ·rw [List.concat_eq_append] at *
   have hlen:(t++[x]).length=t.length+1:=by simp
   have ih:=qiP k0 as t.length t n rfl (by omega) (by omega)
   have hg:(t++[x]).getD (Int.toNat (((t++[x]).length:Int) - 1)) 0=x:=by
    rw [show Int.toNat (((t++[x]).length:Int) - 1)=t.length by omega]; simp
   have ht:List.take (Int.toNat (((t++[x]).length:Int) - 1)) (t++[x])=t:=by
    rw [show Int.toNat (((t++[x]).length:Int) - 1)=t.length by omega]; simp
   simp (disch:=omega) only [wr,dT,cond_true,Bool.and_true,hg,ht,qrd]
   cases z238 as x with
   | true=>simpa [z225] using ih
   | false=>rfl
theorem qug:∀ (s0:List UInt8) (as1:List Bool),(qiV s0 as1=true)→∃ n,qlw n s0 as1=qqP (z225 s0 as1):=fun s as h=>⟨s.length+1,by
 unfold qlw
 rw [qiP _ as s.length s _ rfl (by omega) (qo h)]
 rfl⟩
theorem qiQ (k0:List UInt8→Option AV) (as:List Bool):∀ (d:Nat) (s:List UInt8) (n:Nat),s.length=d→d < n→s.length≤1048576 →
 qep k0 n s as=k0 (z224 s as)
 | d,s,0,hd,hn,hl=>by omega
 | d,[],n+1,hd,hn,hl=>rfl
 | d,x :: s,n+1,hd,hn,hl=>by
  show qeR k0 (qep k0 n) n (x :: s) as=_
  unfold qeR z224
  have hlen:(x :: s).length=s.length+1:=rfl
  have ih:=qiQ k0 as s.length s n rfl (by omega) (by omega)
  have hg:(x :: s).getD (Int.toNat 0) 0=x:=rfl
  have ht:List.drop (Int.toNat 1) (List.take (Int.toNat ((x :: s).length:Int)) (x :: s))=s:=by
   rw [tn,List.take_length]; rfl
  simp (disch:=omega) only [dT,cond_true,Bool.and_true,hg,ht,List.dropWhile_cons]
  cases z238 as x with
  | true=>simpa [z224] using ih
  | false=>rfl
theorem quh:∀ (s0:List UInt8) (as1:List Bool),(qiU s0 as1=true)→∃ n,qlv n s0 as1=qkc (z224 s0 as1):=fun s as h=>⟨s.length+1,by
 unfold qlv
 rw [qiQ _ as s.length s _ rfl (by omega) (qo h)]
 unfold qdr
 cases hc:z224 s as with
 | nil=>rfl
 | cons x r=>rfl⟩
theorem qkf (cs:List UInt8) (c:UInt8):z238 (z223 cs).1 c=cs.contains c:=by
 have:=qxB cs c (List.replicate 256 false) List.length_replicate
 unfold z238 z223
 have hc:c.toNat < 256:=c.toNat_lt
 rw [this,List.getD_eq_getElem?_getD,List.getElem?_replicate,if_pos hc]
 exact Bool.or_false _
theorem qBp (cs s:List UInt8):z224 (z225 s (z223 cs).1) (z223 cs).1=z190 s cs:=by
 unfold z224 z225 z190 quF
 have e:(fun c=>z238 (z223 cs).1 c)=fun c=>cs.contains c:=funext fun c=>qkf cs c
 rw [e]
theorem qui:∀ (s0:List UInt8) (cutset1:List UInt8),(qgz s0 cutset1=true)→∃ n,qqQ n s0 cutset1=qbU (z190 s0 cutset1):=fun s cs h=>⟨0,by
 unfold qgz at h
 simp only [Bool.and_eq_true,decide_eq_true_eq] at h
 obtain ⟨h1,h2,h3,h4⟩:=h
 have hls:=qo h1
 unfold qqQ
 cases s with
 | nil=>rfl
 | cons x r =>
  have hcs:(cs==([]:List UInt8))=false:=by cases cs with
   | nil=>simp at h2
   | cons a b=>rfl
  have hlen:(x :: r).length=r.length+1:=rfl
  have hm:qfV cs=true:=by unfold qfV; rw [h3,h4]; rfl
  have hr:qiU (z225 (x :: r) (z223 cs).1) (z223 cs).1=true:=qy (Nat.le_trans (qre _ _) hls)
  rw [bneI (by omega),hcs,bneI (by omega),hm,show (z223 cs).2=true from rfl,show qiV (x :: r) (z223 cs).1=true from h1,hr,qBp]
  rfl⟩
theorem quj:∀ (c0:UInt8),∃ n,qqb n c0=qhy (z126 c0):=fun c=>⟨0,by
 unfold qqb z126
 cases decide ((65:UInt8)≤c) <;> cases decide (c≤(90:UInt8)) <;> rfl⟩
theorem qBq (f:UInt8→UInt8) (s:List UInt8) (i:Nat) (h:i < s.length):List.set (s.take i |>.map f |> fun l=>l++s.drop i) i (f (s.getD i 0))=(s.take (i+1)).map f++s.drop (i+1):=by
 have hg:=qY (d:=(0:UInt8)) h
 have hl:((s.take i).map f).length=i:=by simp; omega
 rw [hg,List.set_append_right _ _ (by omega),hl,Nat.sub_self,List.set_cons_zero]
 rw [show s.take (i+1)=s.take i++[s.getD i 0] by
  rw [List.take_add_one]; simp [List.getD,h]]
 simp
theorem qlB (k0:List UInt8→Option AV) (s:List UInt8) (hl:s.length≤1048576):∀ (d i n:Nat),i+d=s.length→d < n →
 qhz k0 n ((s.take i).map z126++s.drop i) (s.length:Nat) (i:Nat)=k0 (s.map z126)
 | d,i,0,hi,hn=>by omega
 | 0,i,n+1,hi,hn=>by
  show qdT k0 (qhz k0 n) n _ _ _=_
  unfold qdT
  rw [dF (by omega),cond_false,show i=s.length by omega,List.take_length,List.drop_length,List.append_nil]
 | d+1,i,n+1,hi,hn=>by
  show qdT k0 (qhz k0 n) n _ _ _=_
  unfold qdT
  have hlt:i < s.length:=by omega
  have ih:=qlB k0 s hl d (i+1) n (by omega) (by omega)
  have hlen:((s.take i).map z126++s.drop i).length=s.length:=by simp; omega
  have hg:((s.take i).map z126++s.drop i).getD i 0=s.getD i 0:=by
   rw [qY (d:=(0:UInt8)) hlt]
   simp [List.getD,Nat.min_eq_left (Nat.le_of_lt hlt)]
  have hs:=qBq z126 s i hlt
  simp only at hs
  simp (disch:=omega) only [dT,cond_true,Bool.and_true,tn,qw,hlen,hg]
  rw [hs]
  exact ih
theorem qxC:∀ (s0:List UInt8),(qmQ s0=true)→∃ n,qtK n s0=quW (z79 s0):=fun s h=>⟨s.length+1,by
 unfold qtK
 rw [show qcK s=true from h,show z38 s=s from rfl]
 exact qlB (qfC (s.length+1)) s (qo h) s.length 0 (s.length+1) (by omega) (by omega)⟩
theorem qfS (k0:Int→Option AV) (s:List UInt8) (k:Int) (hl:s.length≤1048576):∀ (d i n m:Nat),i+d=s.length→d < n→m+d≤1048576 →
 qdn k0 n k (m:Nat) s (s.length:Nat) (i:Nat)=k0 ((m+(s.drop i).countP (fun c=>z129 c k):Nat):Int)
 | d,i,0,m,hi,hn,hm=>by omega
 | 0,i,n+1,m,hi,hn,hm=>by
  show qcg k0 (qdn k0 n) n _ _ _ _ _=_
  unfold qcg
  rw [dF (by omega),cond_false,List.drop_eq_nil_of_le (by omega)]
  rfl
 | d+1,i,n+1,m,hi,hn,hm=>by
  show qcg k0 (qdn k0 n) n _ _ _ _ _=_
  unfold qcg
  have hlt:i < s.length:=by omega
  have ih:=qfS k0 s k hl d (i+1) n m (by omega) (by omega) (by omega)
  have ih2:=qfS k0 s k hl d (i+1) n (m+1) (by omega) (by omega) (by omega)
  rw [qY (d:=(0:UInt8)) hlt,List.countP_cons]
  simp (disch:=omega) only [dT,cond_true,Bool.and_true,tn,qw]
  cases z129 (s.getD i 0) k with
  | true=>rw [cond_true,ih2]; congr 2; simp; omega
  | false=>rw [cond_false,ih]; congr 2
theorem quk:∀ (s0:List UInt8) (kinds1:Int),(qlG s0 kinds1=true)→∃ n,qll n s0 kinds1=qqi (z127 s0 kinds1):=fun s k h=>⟨s.length+1,by
 have hl:=qo h
 unfold qll
 have:=qfS (qdo (s.length+1)) s k hl s.length 0 (s.length+1) 0 (by omega) (by omega) (by omega)
 refine Eq.trans this ?_
 rw [Nat.zero_add,List.drop_zero]
 rfl⟩
theorem qrf (p:UInt8→Bool) (s:List UInt8):(((s.countP p:Nat):Int)==((s.length:Nat):Int))=s.all p:=by
 rw [Bool.eq_iff_iff]
 simp only [beq_iff_eq,List.all_eq_true]
 have:=List.countP_eq_length (p:=p) (l:=s)
 constructor
 ·intro h; exact this.1 (by omega)
 ·intro h; have:=this.2 h; omega
theorem qxD:∀ (s0:List UInt8) (kinds1:Int),(quG s0 kinds1=true)→∃ n,qxd n s0 kinds1=qqj (z80 s0 kinds1):=fun s k h=>⟨0,by
 unfold qxd
 rw [show qlG s k=true from h]
 show qqj (z127 s k==((s.length:Nat):Int))=_
 unfold z127
 rw [qrf]
 rfl⟩
theorem qul:(fun c:UInt8=>([32,9]:List UInt8).contains c)=blank:=by
 funext c
 unfold blank
 simp only [List.contains_cons,List.contains_nil,Bool.or_false]
theorem bneT {a b:Int} (h:a≠b):(a != b)=true:=by simp [bne,h]
theorem bneF {a b:Int} (h:a=b):(a != b)=false:=by simp [h]
theorem qrg (ret:Bool→Option AV) (k0:Option AV) (hk:k0=ret false) (s:List UInt8) (c:UInt8) (hl:s.length≤1048576):∀ (d i n:Nat),i+d=s.length→d < n →
 qdu ret k0 n s c (i:Nat)=ret ((s.drop i).contains c)
 | d,i,0,hi,hn=>by omega
 | 0,i,n+1,hi,hn=>by
  show qcj ret k0 (qdu ret k0 n) n _ _ _=_
  unfold qcj
  rw [dF (by omega),cond_false,List.drop_eq_nil_of_le (by omega),hk]
  rfl
 | d+1,i,n+1,hi,hn=>by
  show qcj ret k0 (qdu ret k0 n) n _ _ _=_
  unfold qcj
  have hlt:i < s.length:=by omega
  have ih:=qrg ret k0 hk s c hl d (i+1) n (by omega) (by omega)
  rw [qY (d:=(0:UInt8)) hlt,List.contains_cons]
  simp (disch:=omega) only [dT,cond_true,Bool.and_true,tn,qw]
  rw [ih,show (s.getD i 0==c)=(c==s.getD i 0) from Bool.beq_comm]
  cases (c==s.getD i 0) <;> rfl
theorem qum (s:List UInt8) (c:UInt8) (hl:s.length≤1048576):∃ n,qiM n s c=qee (z179 s c):=⟨s.length+1,by
 unfold qiM
 have:=qrg qee (qdv (s.length+1)) rfl s c hl s.length 0 (s.length+1) (by omega) (by omega)
 exact this⟩
theorem qun:∀ (s0:List UInt8) (c1:UInt8),(qvw s0 c1=true)→∃ n,qiM n s0 c1=qee (z179 s0 c1):=fun s c h=>qum s c (qo h)
theorem qxE:∀ (c0:UInt8) (kinds1:Int),∃ n,qBo n c0 kinds1=qvo (z82 c0 kinds1):=fun _ _=>⟨0,rfl⟩
theorem qbV (k0:Int→Option AV) (s:List UInt8) (k:Int) (hl:s.length≤1048576):∀ (d i n m:Nat),i+d=s.length→d < n→m+d≤1048576 →
 qhD k0 n s k (m:Nat) (i:Nat)=k0 ((m+(s.drop i).countP (fun c=>z129 c k):Nat):Int)
 | d,i,0,m,hi,hn,hm=>by omega
 | 0,i,n+1,m,hi,hn,hm=>by
  show qef k0 (qhD k0 n) n _ _ _ _=_
  unfold qef
  rw [dF (by omega),cond_false,List.drop_eq_nil_of_le (by omega)]
  rfl
 | d+1,i,n+1,m,hi,hn,hm=>by
  show qef k0 (qhD k0 n) n _ _ _ _=_
  unfold qef
  have hlt:i < s.length:=by omega
  have ih:=qbV k0 s k hl d (i+1) n m (by omega) (by omega) (by omega)
  have ih2:=qbV k0 s k hl d (i+1) n (m+1) (by omega) (by omega) (by omega)
  rw [qY (d:=(0:UInt8)) hlt,List.countP_cons]
  simp (disch:=omega) only [dT,cond_true,Bool.and_true,tn,qw]
  rw [show z82 (s.getD i 0) k=z129 (s.getD i 0) k from rfl]
  cases z129 (s.getD i 0) k with
  | true=>rw [cond_true,ih2]; congr 2; simp; omega
  | false=>rw [cond_false,ih]; congr 2
theorem qxF:∀ (s0:List UInt8) (kinds1:Int),(qmR s0 kinds1=true)→∃ n,qtT n s0 kinds1=qvp (z43 s0 kinds1):=fun s k h=>⟨s.length+1,by
 have hl:=qo h
 unfold qtT
 have:=qbV (qfR (s.length+1)) s k hl s.length 0 (s.length+1) 0 (by omega) (by omega) (by omega)
 refine Eq.trans this ?_
 rw [Nat.zero_add,List.drop_zero]
 rfl⟩
theorem qBr {P:UInt8→Prop} (h:∀ i:Fin 256,P (UInt8.ofNat i.val)) (c:UInt8):P c:=by
 have:=h ⟨c.toNat,c.toNat_lt⟩
 simpa using this
theorem qmJ:∀ i:Fin 256,(bif decide ((65:UInt8)≤UInt8.ofNat i.val) then (bif decide (UInt8.ofNat i.val≤(90:UInt8)) then UInt8.ofNat i.val+32 else UInt8.ofNat i.val) else UInt8.ofNat i.val)=z126 (UInt8.ofNat i.val):=by decide +kernel
theorem qxG:∀ (c0:UInt8),∃ n,qxx n c0=qly (z81 c0):=fun c=>⟨0,by
 have h:=qBr (P:=fun c=>(bif decide ((65:UInt8)≤c) then (bif decide (c≤(90:UInt8)) then c+32 else c) else c)=z126 c) qmJ c
 unfold qxx z81
 rw [← h]
 cases decide ((65:UInt8)≤c) <;> cases decide (c≤(90:UInt8)) <;> rfl⟩
theorem qvr {s:List UInt8} (h:s.length=1):∃ c,s=[c]:=List.length_eq_one_iff.1 h
theorem qup:∀ (s0:List UInt8) (sep1:List UInt8),(qgx s0 sep1=true)→∃ n,qqa n s0 sep1=qfB (z124 s0 sep1):=fun s sep h=>⟨0,by
 unfold qgx at h
 simp only [Bool.and_eq_true,decide_eq_true_eq] at h
 obtain ⟨c,rfl⟩:=qvr h.2
 rfl⟩
theorem qdw (c:UInt8) (cur:List UInt8) (x:UInt8) (r:List UInt8):cutC c cur (x :: r)=bif x==c then cur :: cutC c [] r else cutC c (cur++[x]) r:=rfl
theorem qlC (c:UInt8):∀ (s cur:List UInt8),c ∉ s→cutC c cur s=[cur++s]
 | [],cur,_=>by rw [List.append_nil]; rfl
 | x :: r,cur,h=>by
  have hx:(x==c)=false:=beq_eq_false_iff_ne.2 (fun e=>h (by rw [e]; exact List.mem_cons_self ..))
  rw [qdw,hx,cond_false,qlC c r _ (fun hm=>h (List.mem_cons_of_mem _ hm)),List.append_assoc]
  rfl
theorem qvs (c:UInt8) (r:List UInt8):∀ (x cur:List UInt8),c ∉ x→cutC c cur (x++c :: r)=(cur++x) :: cutC c [] r
 | [],cur,_=>by
  show cutC c cur (c :: r)=_
  rw [qdw,beq_self_eq_true,cond_true,List.append_nil]
 | y :: x,cur,h=>by
  have hx:(y==c)=false:=beq_eq_false_iff_ne.2 (fun e=>h (by rw [e]; exact List.mem_cons_self ..))
  show cutC c cur (y :: (x++c :: r))=_
  rw [qdw,hx,cond_false,qvs c r x _ (fun hm=>h (List.mem_cons_of_mem _ hm)),List.append_assoc]
  rfl
theorem qfT (c:UInt8) (r:List UInt8):∀ (x:List UInt8),c ∉ x→Lib.indexByte (x++c :: r) c=(x.length:Int)
 | [],_=>by simp [Lib.indexByte]
 | y :: x,h=>by
  have hx:(y==c)=false:=beq_eq_false_iff_ne.2 (fun e=>h (by rw [e]; exact List.mem_cons_self ..))
  have ih:=qfT c r x (fun hm=>h (List.mem_cons_of_mem _ hm))
  show Lib.indexByte (y :: (x++c :: r)) c=_
  unfold Lib.indexByte
  rw [ih,hx]
  have e:((x.length:Int) == -1)=false:=by simp
  simp [e]
theorem qrh (m:Nat) (c:UInt8) (N:Nat) (hN:N≤1048576):∀ (d:Nat) (s:List UInt8) (done:List (List UInt8)) (n:Nat),s.count c=d→d < n→done.length+d=N→s.length≤1048576 →
 qct (qaa m) n s [c] 0 (N:Nat) (done++List.replicate (d+1) []) (done.length:Nat)=qiG (done++cutC c [] s)
 | d,s,done,0,_,hn,_,_=>by omega
 | 0,s,done,n+1,hc,hn,hd,hs=>by
  show qcf (qaa m) (qct (qaa m) n) n _ _ _ _ _ _=_
  unfold qcf
  have hmem:c ∉ s:=List.count_eq_zero.1 hc
  rw [dF (by omega),cond_false]
  unfold qaa
  have hset:List.set (done++List.replicate (0+1) ([]:List UInt8)) done.length s=done++[s]:=by
   rw [List.set_append_right _ _ (Nat.le_refl _),Nat.sub_self]
   rfl
  have hlen:(done++List.replicate (0+1) ([]:List UInt8)).length=done.length+1:=by simp
  rw [tn,hset,hlen,qw (by omega)]
  have hl2:(done++[s]).length=done.length+1:=by simp
  rw [hl2]
  simp (disch:=omega) only [dT,cond_true,Bool.and_true,tn]
  rw [List.drop_zero,List.take_of_length_le (by omega),qlC c s [] hmem]
  rfl
 | d+1,s,done,n+1,hc,hn,hd,hs=>by
  show qcf (qaa m) (qct (qaa m) n) n _ _ _ _ _ _=_
  unfold qcf
  have hmem:c∈s:=List.count_pos_iff.1 (by omega)
  obtain ⟨x,r,rfl,hx⟩:=List.eq_append_cons_of_mem hmem
  have hi:z125 (x++c :: r) [c]=(x.length:Int):=by
   unfold z125
   rw [Lib.index_one,qfT c r x hx]
  have hlen:(x++c :: r).length=x.length+(r.length+1):=by simp
  have hok:qgy (x++c :: r) [c]=true:=by
   unfold qgy
   rw [qy hs]
   rfl
  have hcr:r.count c=d:=by
   rw [List.count_append,List.count_eq_zero.2 hx,List.count_cons_self] at hc
   omega
  have hdl:(done++List.replicate (d+1+1) ([]:List UInt8)).length=done.length+(d+2):=by simp
  have hset:List.set (done++List.replicate (d+1+1) ([]:List UInt8)) done.length x=(done++[x])++List.replicate (d+1) []:=by
   rw [List.set_append_right _ _ (Nat.le_refl _),Nat.sub_self,List.append_assoc]
   rfl
  have h1:(([c]:List UInt8).length:Nat)=1:=rfl
  have hw:IntKind.wrap .i64 ((x.length:Int)+0)=(x.length:Int):=by rw [wr (by omega)]; omega
  have hw2:IntKind.wrap .i64 ((x.length:Int)+((1:Nat):Int))=((x.length+1:Nat):Int):=by rw [wr (by omega)]; omega
  have ih:=qrh m c N hN d r (done++[x]) n hcr (by omega) (by simp; omega) (by omega)
  rw [hi,hok,h1,hw,hw2,hdl,hlen]
  simp (disch:=omega) only [dT,dF,cond_true,cond_false,Bool.and_true,tn,qw]
  have e1:(x++c :: r).take (x.length+(r.length+1))=x++c :: r:=List.take_of_length_le (by omega)
  have e2:(x++c :: r).take x.length=x:=List.take_left
  have e3:(x++c :: r).drop (x.length+1)=r:=by
   rw [← List.drop_drop,List.drop_left]
   rfl
  rw [e1,e2,e3,List.drop_zero,hset,qvs c r x [] hx]
  rw [show (done++[x]).length=done.length+1 by simp] at ih
  rw [ih,List.append_assoc]
  rfl
theorem qxH:∀ (s0:List UInt8) (sep1:List UInt8) (sepSave2:Int) (n3:Int),(qmN s0 sep1 sepSave2 n3=true)→∃ n,qtJ n s0 sep1 sepSave2 n3=qiG (z78 s0 sep1 sepSave2 n3):=fun s sep save k h=>⟨s.length+1,by
 unfold qmN at h
 simp only [Bool.and_eq_true,decide_eq_true_eq,beq_iff_eq] at h
 obtain ⟨⟨h1,h2⟩,rfl,rfl⟩:=h
 obtain ⟨c,rfl⟩:=qvr h2
 have hl:=qo h1
 have hc:s.count c≤s.length:=List.count_le_length
 unfold qtJ
 have hok:qgx s [c]=true:=by unfold qgx; rw [h1]; rfl
 have hcnt:z124 s [c]=((s.count c:Nat):Int):=rfl
 have hw1:IntKind.wrap .i64 (((s.length:Nat):Int)+1)=((s.length+1:Nat):Int):=by rw [wr (by omega)]; omega
 have hw2:IntKind.wrap .i64 (((s.count c:Nat):Int)+1)=((s.count c+1:Nat):Int):=by rw [wr (by omega)]; omega
 have hw3:IntKind.wrap .i64 (((s.count c+1:Nat):Int) - 1)=((s.count c:Nat):Int):=by rw [wr (by omega)]; omega
 have hroom:((s.count c+1:Nat):Int)≤(room:Int):=by unfold room; omega
 rw [show (((-1:Int))==0)=false from rfl,show ((((([c]:List UInt8)).length:Nat):Int)==0)=false from rfl,show decide ((-1:Int) < 0)=true from rfl,hok,hcnt,hw1,hw2]
 simp only [cond_false,cond_true,Bool.and_true]
 rw [dF (show ¬ ((s.length+1:Nat):Int) < ((s.count c+1:Nat):Int) by omega),cond_false,hw3,dT hroom,tn]
 simp (disch:=omega) only [dT,cond_true,Bool.and_true]
 exact qrh (s.length+1) c (s.count c) (by omega) (s.count c) s [] (s.length+1) rfl (by omega) (by simp) hl⟩
theorem qxI:∀ (s0:List UInt8) (sep1:List UInt8),(qrn s0 sep1=true)→∃ n,qxb n s0 sep1=quV (z37 s0 sep1):=fun s sep h=>⟨0,by
 unfold qxb
 have:qmN s sep 0 (-1)=true:=by
  unfold qmN
  rw [show (lenOk s&&decide (sep.length=1))=true from h]
  rfl
 rw [this]
 rfl⟩
theorem qri (s:List UInt8) (c:UInt8):(z79 s==[c])=(match s with | [x]=>z126 x==c | _=>false):=by
 unfold z79
 match s with
 | []=>rfl
 | [x]=>simp
 | x :: y :: r=>simp
theorem qxJ:∀ (s0:List UInt8),(qmO s0=true)→∃ n,qxc n s0=qiH (z39 s0):=fun s h=>⟨0,by
 unfold qxc
 rw [show qmQ s=true from h,qri,qri]
 match s with
 | []=>rfl
 | [x] =>
  show (bif z126 x==98 then _ else bif z126 x==113 then _ else _)=qiH (bif z126 x==98 then 1 else bif z126 x==113 then 2 else 0)
  cases (z126 x==98) <;> cases (z126 x==113) <;> rfl
 | x :: y :: r=>rfl⟩
theorem qxK:∀ (s0:List UInt8) (kinds1:Int),(qdx s0 kinds1=true)→∃ n,qxe n s0 kinds1=qqk (z40 s0 kinds1):=fun s k h=>⟨0,by
 unfold qxe
 rw [show quG s k=true from h]
 cases s with
 | nil=>rfl
 | cons x r =>
  rw [dT (by simp only [List.length_cons]; omega)]
  rfl⟩
theorem qxL:∀ (c0:UInt8),∃ n,qxy n c0=qlz (z42 c0):=fun c=>⟨0,by
 unfold qxy z42 codeC z81
 cases (z126 c==98) <;> cases (z126 c==113) <;> rfl⟩
theorem qhG (c:UInt8):∀ (s cur x:List UInt8),x∈cutC c cur s→x.length≤cur.length+s.length
 | [],cur,x,h=>by
  have:x∈[cur]:=h
  simp only [List.mem_singleton] at this
  subst this
  exact Nat.le_refl _
 | y :: r,cur,x,h=>by
  rw [qdw] at h
  cases hy:(y==c) with
  | true =>
   rw [hy,cond_true] at h
   rcases List.mem_cons.1 h with rfl | h
   ·exact Nat.le_add_right _ _
   ·have:=qhG c r [] x h
    simp only [List.length_nil,List.length_cons] at this ⊢
    omega
  | false =>
   rw [hy,cond_false] at h
   have:=qhG c r _ x h
   simp only [List.length_append,List.length_cons,List.length_nil] at this ⊢
   omega
theorem five {α:Type} {L:List α} (h:L.length=5):∃ a n c t b,L=[a,n,c,t,b]:=by
 match L,h with
 | [a,n,c,t,b],_=>exact ⟨a,n,c,t,b,rfl⟩
theorem qiR (k:Nat) {L:List (List UInt8)} (h:L.length≠5):qfU k L=(qiS,3):=by
 unfold qfU
 split
 ·exact absurd rfl h
 ·rfl
theorem qmK (k:Nat) (a name c text b:List UInt8):qfU k [a,name,c,text,b]=bif decide (a=[61])&&decide (b=[61]) then (bif (codeL c==0)||(!(fullB name 64) || !(fullB text 4)) then (qiS,3) else bif decide (75 < k) then (qiS,12) else ((name,(codeL c,(text,()))),0)) else (qiS,3):=rfl
theorem qxM:∀ (s0:List UInt8),(qiT s0=true)→∃ n,qxf n s0=qA (z11 s0).1 (z11 s0).2:=fun s h=>⟨0,by
 have hl:=qo h
 have hok:qrn s [63]=true:=by unfold qrn; rw [show lenOk s=true from h]; rfl
 have hmem:∀ x∈cutC 63 [] s,x.length≤1048576:=fun x hx=>by
  have:=qhG 63 s [] x hx
  simp only [List.length_nil] at this
  omega
 unfold qxf z11
 rw [hok,show z37 s [63]=cutC 63 [] s from rfl]
 generalize cutC 63 [] s=L at hmem ⊢
 have h75:decide ((75:Int) < ((s.length:Nat):Int))=decide (75 < s.length):=by rw [Bool.eq_iff_iff]; simp only [decide_eq_true_eq]; omega
 rw [h75]
 generalize hk:s.length=k
 by_cases h5:L.length=5
 ·obtain ⟨a,n,c,t,b,rfl⟩:=five h5
  have okn:qcK n=true:=qy (hmem n (by simp))
  have okt:qcK t=true:=qy (hmem t (by simp))
  have okc:qmO c=true:=qy (hmem c (by simp))
  have okn2:qdx n 64=true:=qy (hmem n (by simp))
  have okt2:qdx t 4=true:=qy (hmem t (by simp))
  have c0:(decide ((0:Int)≤0)&&decide ((0:Int) < ((List.length [a,n,c,t,b]:Nat):Int)))=true:=rfl
  have c1:(decide ((0:Int)≤1)&&decide ((1:Int) < ((List.length [a,n,c,t,b]:Nat):Int)))=true:=rfl
  have c2:(decide ((0:Int)≤2)&&decide ((2:Int) < ((List.length [a,n,c,t,b]:Nat):Int)))=true:=rfl
  have c3:(decide ((0:Int)≤3)&&decide ((3:Int) < ((List.length [a,n,c,t,b]:Nat):Int)))=true:=rfl
  have c4:(decide ((0:Int)≤4)&&decide ((4:Int) < ((List.length [a,n,c,t,b]:Nat):Int)))=true:=rfl
  have g0:List.getD [a,n,c,t,b] (Int.toNat 0) []=a:=rfl
  have g1:List.getD [a,n,c,t,b] (Int.toNat 1) []=n:=rfl
  have g2:List.getD [a,n,c,t,b] (Int.toNat 2) []=c:=rfl
  have g3:List.getD [a,n,c,t,b] (Int.toNat 3) []=t:=rfl
  have g4:List.getD [a,n,c,t,b] (Int.toNat 4) []=b:=rfl
  have e5:((((List.length [a,n,c,t,b]:Nat)):Int) != 5)=false:=rfl
  have ecl:∀ x,z38 x=x:=fun _=>rfl
  simp only [e5,c0,c1,c2,c3,c4,g0,g1,g2,g3,g4,okn,okt,okc,okn2,okt2,ecl,qgM,cond_true,cond_false,Bool.and_true]
  show _=qA (qfU k [a,n,c,t,b]).1 (qfU k [a,n,c,t,b]).2
  unfold qfU
  simp only [show z39 c=codeL c from rfl,show z40 n 64=fullB n 64 from rfl,show z40 t 4=fullB t 4 from rfl]
  by_cases ha:a=[61]
  ·by_cases hb:b=[61]
   ·subst ha hb
    simp only [decide_true,Bool.and_true,cond_true,bne_self_eq_false,cond_false]
    cases (codeL c==0) <;> cases fullB n 64 <;> cases fullB t 4 <;> cases decide (75 < k) <;> rfl
   ·rw [decide_eq_false hb,Bool.and_false,show (b != [61])=true from bne_iff_ne.2 hb,cond_true]
    subst ha
    rfl
  ·rw [decide_eq_false ha,Bool.false_and,show (a != [61])=true from bne_iff_ne.2 ha,cond_true]
   rfl
 ·rw [bneT (by omega),qiR k h5]
  rfl⟩
theorem qxN:∀ (s0:List UInt8),(qro s0=true)→∃ n,qxg n s0=qvb (z14 s0):=fun s h=>⟨0,by
 unfold qxg
 rw [show qiT s=true from h]
 rfl⟩
theorem qxO:∀ (s0:List UInt8),(quD s0=true)→∃ n,qxz n s0=qaP (z12 s0).1 (z12 s0).2:=fun s h=>⟨0,by
 have hl:=qo h
 have hmem:∀ x∈cutC 63 [] s,x.length≤1048576:=fun x hx=>by
  have:=qhG 63 s [] x hx
  simp only [List.length_nil] at this
  omega
 unfold qxz z12 z11
 rw [show quC s=true from h,show z41 s=cutC 63 [] s from rfl]
 generalize cutC 63 [] s=L at hmem ⊢
 have h75:decide ((75:Int) < ((s.length:Nat):Int))=decide (75 < s.length):=by rw [Bool.eq_iff_iff]; simp only [decide_eq_true_eq]; omega
 rw [h75]
 generalize hk:s.length=k
 by_cases h5:L.length=5
 ·obtain ⟨a,n,c,t,b,rfl⟩:=five h5
  have okn2:qmR n 64=true:=qy (hmem n (by simp))
  have okt2:qmR t 4=true:=qy (hmem t (by simp))
  have c0:(decide ((0:Int)≤0)&&decide ((0:Int) < ((List.length [a,n,c,t,b]:Nat):Int)))=true:=rfl
  have c1:(decide ((0:Int)≤1)&&decide ((1:Int) < ((List.length [a,n,c,t,b]:Nat):Int)))=true:=rfl
  have c2:(decide ((0:Int)≤2)&&decide ((2:Int) < ((List.length [a,n,c,t,b]:Nat):Int)))=true:=rfl
  have c3:(decide ((0:Int)≤3)&&decide ((3:Int) < ((List.length [a,n,c,t,b]:Nat):Int)))=true:=rfl
  have c4:(decide ((0:Int)≤4)&&decide ((4:Int) < ((List.length [a,n,c,t,b]:Nat):Int)))=true:=rfl
  have g0:List.getD [a,n,c,t,b] (Int.toNat 0) []=a:=rfl
  have g1:List.getD [a,n,c,t,b] (Int.toNat 1) []=n:=rfl
  have g2:List.getD [a,n,c,t,b] (Int.toNat 2) []=c:=rfl
  have g3:List.getD [a,n,c,t,b] (Int.toNat 3) []=t:=rfl
  have g4:List.getD [a,n,c,t,b] (Int.toNat 4) []=b:=rfl
  have e5:((((List.length [a,n,c,t,b]:Nat)):Int) != 5)=false:=rfl
  have full:∀ (x:List UInt8) (q:Int),fullB x q=(!((((x.length:Nat):Int))==0) && !(z43 x q != ((x.length:Nat):Int))):=fun x q=>by
   unfold fullB
   cases x with
   | nil=>rfl
   | cons y r =>
    rw [bneI (show (((y :: r).length:Nat):Int)≠0 by simp only [List.length_cons]; omega)]
    show (true&&List.all (y :: r) _)=(true&&_)
    rw [Bool.true_and,Bool.true_and,Bool.eq_iff_iff]
    show _↔(!((((y :: r).countP (fun c=>z129 c q):Nat):Int) != (((y :: r).length:Nat):Int)))=true
    rw [List.all_eq_true]
    constructor
    ·intro hh
     rw [bneF (by rw [List.countP_eq_length.2 hh])]
     rfl
    ·intro hh
     have:(y :: r).countP (fun c=>z129 c q)=(y :: r).length:=by
      rcases Decidable.em ((y :: r).countP (fun c=>z129 c q)=(y :: r).length) with e | e
      ·exact e
      ·rw [bneT (by omega)] at hh
       cases hh
     exact List.countP_eq_length.1 this
  show _=qaP (qfU k [a,n,c,t,b]).1 (qfU k [a,n,c,t,b]).2
  rw [qmK,full n 64,full t 4]
  simp only [e5,c0,c1,c2,c3,c4,g0,g1,g2,g3,g4,okn2,okt2,cond_true,cond_false,Bool.and_true]
  by_cases ha:a=[61]
  ·by_cases hb:b=[61]
   ·subst ha hb
    simp only [decide_true,Bool.and_true,cond_true,bne_self_eq_false,cond_false]
    match c with
    | []=>rfl
    | [x] =>
     show _=qaP _ _
     have q0:(((([x]:List UInt8).length:Nat):Int) != 1)=false:=rfl
     have q1:(decide ((0:Int)≤0)&&decide ((0:Int) < ((List.length [x]:Nat):Int)))=true:=rfl
     have q2:List.getD [x] (Int.toNat 0) 0=x:=rfl
     have q3:codeL [x]=codeC x:=rfl
     simp only [q0,q1,q2,q3,show z42 x=codeC x from rfl,cond_true,cond_false]
     cases (codeC x==0) <;> cases ((((n.length:Nat)):Int)==0) <;> cases (z43 n 64 != ((n.length:Nat):Int)) <;> cases ((((t.length:Nat)):Int)==0) <;> cases (z43 t 4 != ((t.length:Nat):Int)) <;> cases decide (75 < k) <;> rfl
    | x :: y :: r =>
     have q0:((((x :: y :: r).length:Nat):Int) != 1)=true:=bneT (by simp only [List.length_cons]; omega)
     rw [q0]
     rfl
   ·rw [decide_eq_false hb,Bool.and_false,show (b != [61])=true from bne_iff_ne.2 hb,cond_true]
    subst ha
    rfl
  ·rw [decide_eq_false ha,Bool.false_and,show (a != [61])=true from bne_iff_ne.2 ha,cond_true]
   rfl
 ·rw [bneT (by omega),qiR k h5]
  rfl⟩
theorem quq {α:Type} (pre:List α) (x d:α):List.getD (pre++[x]) pre.length d=x:=by
 rw [List.getD_eq_getElem?_getD,List.getElem?_append_right (Nat.le_refl _),Nat.sub_self]
 rfl
theorem qxP {α:Type} (pre:List α) (x y:α):List.set (pre++[x]) pre.length y=pre++[y]:=by
 rw [List.set_append_right _ _ (Nat.le_refl _),Nat.sub_self]
 rfl
theorem qkg (k0:List (List UInt8)→Option AV) (s:List UInt8) (hl:s.length≤1048576):∀ (d i n:Nat) (pre:List (List UInt8)) (cur:List UInt8),i+d=s.length→d < n→pre.length+d≤1048576→cur.length+d≤1048576 →
 qhC k0 n s (pre++[cur]) (i:Nat)=k0 (pre++cutC 63 cur (s.drop i))
 | d,i,0,pre,cur,hi,hn,hp,hc=>by omega
 | 0,i,n+1,pre,cur,hi,hn,hp,hc=>by
  show qed k0 (qhC k0 n) n _ _ _=_
  unfold qed
  rw [dF (by omega),cond_false,List.drop_eq_nil_of_le (by omega)]
  rfl
 | d+1,i,n+1,pre,cur,hi,hn,hp,hc=>by
  show qed k0 (qhC k0 n) n _ _ _=_
  unfold qed
  have hlt:i < s.length:=by omega
  have h1:=qkg k0 s hl d (i+1) n (pre++[cur]) [] (by omega) (by omega) (by simp; omega) (by simp; omega)
  have h2:=qkg k0 s hl d (i+1) n pre (cur++[List.getD s i 0]) (by omega) (by omega) (by omega) (by simp; omega)
  have hlen:(pre++[cur]).length=pre.length+1:=by simp
  have hw:IntKind.wrap .i64 (((pre.length+1:Nat):Int) - 1)=((pre.length:Nat):Int):=by rw [wr (by omega)]; omega
  have r1:decide (pre.length+1+([[]]:List (List UInt8)).length≤room)=true:=dT (by unfold room; simp; omega)
  have r2:decide (cur.length+([List.getD s i 0]:List UInt8).length≤room)=true:=dT (by unfold room; simp; omega)
  rw [qY (d:=(0:UInt8)) hlt,qdw,hlen,hw]
  simp (disch:=omega) only [dT,cond_true,Bool.and_true,tn,qw,quq,qxP,r1,r2,beq_self_eq_true]
  cases hx:(List.getD s i 0==63) with
  | true =>
   rw [cond_true,cond_true,h1,List.append_assoc]
   rfl
  | false=>rw [cond_false,cond_false,h2]
theorem qxQ:∀ (s0:List UInt8),(quC s0=true)→∃ n,qtS n s0=qvn (z41 s0):=fun s h=>⟨s.length+1,by
 have hl:=qo h
 unfold qtS
 exact qkg (qfQ (s.length+1)) s hl s.length 0 (s.length+1) [] [] (by omega) (by omega) (by simpa using hl) (by simpa using hl)⟩
theorem qur:∀ (s0:List UInt8),(qgA s0=true)→∃ n,qqS n s0=qqR (z148 s0):=fun s h=>⟨0,by
 have hl:=qo h
 have h1:qgz s [32,9]=true:=by unfold qgz; rw [show lenOk s=true from h]; rfl
 have e:z190 s [32,9]=z148 s:=by unfold z190 z148; rw [qul]
 unfold qqS
 rw [h1,e,show qcK (z148 s)=true from qy (Nat.le_trans (qlA _ _) hl)]
 rfl⟩
theorem qvt (x:UInt8) (s:List UInt8) (c:UInt8):Lib.indexByte (x :: s) c=if (x==c)=true then 0 else if (Lib.indexByte s c == -1)=true then -1 else Lib.indexByte s c+1:=rfl
theorem ib_lt:∀ (s:List UInt8) (c:UInt8),Lib.indexByte s c < (s.length:Int)
 | [],c=>by show (-1:Int) < ((0:Nat):Int); omega
 | x :: s,c=>by
  have:=ib_lt s c
  have hg:=Lib.indexByte_ge s c
  rw [qvt]
  simp only [List.length_cons]
  split
  ·omega
  ·split <;> omega
theorem and15 (n:Int):bits .and .i64 n 15=n % 16:=by
 have h:(BitVec.ofInt 64 n &&& BitVec.ofInt 64 15).toNat=(n % 16).toNat:=by
  rw [BitVec.toNat_and]
  have h1:(BitVec.ofInt 64 15).toNat=2 ^ 4 - 1:=by decide
  rw [h1,Nat.and_two_pow_sub_one_eq_mod,BitVec.toNat_ofInt]
  omega
 show IntKind.wrap .i64 (((BitVec.ofInt 64 n &&& BitVec.ofInt 64 15).toNat:Nat):Int)=_
 rw [h,IntWalk.i64_in _ (by omega)]
 omega
theorem qus:∀ (n0:Int),(qcr n0=true)→∃ n,qqn n n0=qqm (z181 n0):=fun n _=>⟨0,by
 unfold qqn z181
 rw [and15]
 have h0:(0:Int)≤n % 16:=by omega
 have h1:n % 16 < (((([48,49,50,51,52,53,54,55,56,57,65,66,67,68,69,70]:List UInt8).length:Nat)):Int):=by simp; omega
 rw [decide_eq_true h0,decide_eq_true h1]
 rfl⟩
theorem qrj (c:UInt8):IntKind.wrap .i64 ((UInt8.toNat c:Nat):Int)=((UInt8.toNat c:Nat):Int):=by
 have:=c.toNat_lt
 exact IntWalk.i64_in _ (by omega)
theorem qut:∀ (c0:UInt8),∃ n,qqX n c0=qfM (z237 c0).1 (z237 c0).2:=fun c=>⟨0,by
 unfold qqX z237
 have h:=(z126 c - 97).toNat_lt
 rw [qrj,qrj,IntWalk.i64_in (((z126 c - 97).toNat:Int)+10) (by omega)]
 cases z129 (z126 c) 8 <;> cases decide ((97:UInt8)≤z126 c) <;> cases decide (z126 c≤(102:UInt8)) <;> rfl⟩
theorem qkh:∀ i:Fin 256,0≤(z237 (UInt8.ofNat i.val)).1∧(z237 (UInt8.ofNat i.val)).1 < 16:=by decide +kernel
theorem qxR {P:UInt8→Prop} (h:∀ i:Fin 256,P (UInt8.ofNat i.val)) (c:UInt8):P c:=by
 have:=h ⟨c.toNat,c.toNat_lt⟩
 simpa using this
theorem qgw (c:UInt8):0≤(z237 c).1∧(z237 c).1 < 16:=qxR (P:=fun c=>0≤(z237 c).1∧(z237 c).1 < 16) qkh c
theorem qxS:∀ a b:Fin 16,UInt8.ofNat (Int.toNat (IntKind.wrap .u8 (bits .or .i64 (IntKind.wrap .i64 (((a.val:Nat):Int)*2 ^ (min (Int.toNat (4:Int)) (IntKind.bits .i64)))) ((b.val:Nat):Int))))=UInt8.ofNat (Int.toNat (((a.val:Nat):Int)*16+((b.val:Nat):Int))):=by decide +kernel
theorem qxT {P:Int→Int→Prop} (h:∀ a b:Fin 16,P ((a.val:Nat):Int) ((b.val:Nat):Int)) {x y:Int} (hx:0≤x∧x < 16) (hy:0≤y∧y < 16):P x y:=by
 have:=h ⟨x.toNat,by omega⟩ ⟨y.toNat,by omega⟩
 simp only [Int.toNat_of_nonneg hx.1,Int.toNat_of_nonneg hy.1] at this
 exact this
theorem quu:∀ (a0:UInt8) (b1:UInt8),∃ n,qqY n a0 b1=qhB (z220 a0 b1).1 (z220 a0 b1).2:=fun a b=>⟨0,by
 unfold qqY z220
 have h:=qxT (P:=fun x y=>UInt8.ofNat (Int.toNat (IntKind.wrap .u8 (bits .or .i64 (IntKind.wrap .i64 (x*2 ^ (min (Int.toNat (4:Int)) (IntKind.bits .i64)))) y)))=UInt8.ofNat (Int.toNat (x*16+y))) qxS (qgw a) (qgw b)
 rw [← h]
 cases (z237 a).2 <;> cases (z237 b).2 <;> rfl⟩
theorem qmL (s:List UInt8) (at1:Int) (hl:s.length≤1048576) (h0:¬ at1 < 0) (h1:¬ IntKind.wrap .i64 (((List.length s:Nat):Int) - 3) < at1):∃ i:Nat,at1=i∧i+2 < s.length:=by
 rw [IntWalk.i64_in _ (by omega)] at h1
 exact ⟨at1.toNat,by omega,by omega⟩
theorem quv:∀ (s0:List UInt8) (at1:Int) (sign2:UInt8),(qla s0 at1 sign2=true)→∃ n,qqZ n s0 at1 sign2=qfN (z189 s0 at1 sign2).1 (z189 s0 at1 sign2).2:=fun s at1 sign h=>⟨0,by
 have hl:=qo h
 unfold qqZ z189
 by_cases h0:at1 < 0
 ·rw [decide_eq_true h0,decide_eq_false (show ¬ 0≤at1 by omega)]; rfl
 by_cases h1:IntKind.wrap .i64 (((List.length s:Nat):Int) - 3) < at1
 ·have h2:¬ at1≤(s.length:Int) - 3:=by rw [IntWalk.i64_in _ (by omega)] at h1; omega
  rw [decide_eq_false h0,decide_eq_true h1,decide_eq_false h2,Bool.and_false]; rfl
 obtain ⟨i,rfl,hi⟩:=qmL s at1 hl h0 h1
 rw [decide_eq_false h0,decide_eq_false h1,cond_false,cond_false,qaw,qlK,decide_eq_true (show i < s.length by omega),Bool.and_true,cond_true,qcQ,qw (by omega),
  show IntKind.wrap .i64 ((i:Int)+2)=((i+2:Nat):Int) by rw [IntWalk.i64_in _ (by omega)]; omega,qaw,qaw,qlK,qlK,decide_eq_true (show i+1 < s.length by omega),decide_eq_true hi,qcQ,qcQ,
  decide_eq_true (show (i:Int)≤(s.length:Int) - 3 by omega),Bool.and_true,cond_true]
 unfold qjN
 cases he:(List.getD s i 0==sign) with
 | true=>rw [show (List.getD s i 0 != sign)=false by simp only [bne,he,Bool.not_true]]; rfl
 | false=>rw [show (List.getD s i 0 != sign)=true by simp only [bne,he,Bool.not_false]]; rfl⟩
theorem qrk:∀ i:Fin 256,[z181 (IntKind.wrap .i64 ((UInt8.toNat (UInt8.ofNat (UInt8.toNat (UInt8.ofNat i.val) / 2 ^ (min (Int.toNat (4:Int)) 8))):Nat):Int)),z181 (IntKind.wrap .i64 ((UInt8.toNat (UInt8.ofNat i.val):Nat):Int))]=z130 (UInt8.ofNat i.val):=by decide +kernel
theorem qmM:∀ i:Fin 256,qgk (IntKind.wrap .i64 (Int.tdiv (IntKind.wrap .i64 ((UInt8.toNat (UInt8.ofNat i.val):Nat):Int)) (16:Int)))=true∧qgk (Int.tmod (IntKind.wrap .i64 ((UInt8.toNat (UInt8.ofNat i.val):Nat):Int)) (16:Int))=true ∧
 qcr (IntKind.wrap .i64 ((UInt8.toNat (UInt8.ofNat (UInt8.toNat (UInt8.ofNat i.val) / 2 ^ (min (Int.toNat (4:Int)) 8))):Nat):Int))=true∧qcr (IntKind.wrap .i64 ((UInt8.toNat (UInt8.ofNat i.val):Nat):Int))=true:=by decide +kernel
theorem boths (c:UInt8):[z181 (IntKind.wrap .i64 ((UInt8.toNat (UInt8.ofNat (UInt8.toNat c / 2 ^ (min (Int.toNat (4:Int)) 8))):Nat):Int)),z181 (IntKind.wrap .i64 ((UInt8.toNat c:Nat):Int))]=z130 c:=qxR (P:=fun c=>[z181 (IntKind.wrap .i64 ((UInt8.toNat (UInt8.ofNat (UInt8.toNat c / 2 ^ (min (Int.toNat (4:Int)) 8))):Nat):Int)),z181 (IntKind.wrap .i64 ((UInt8.toNat c:Nat):Int))]=z130 c) qrk c
theorem qDj (c:UInt8):qgk (IntKind.wrap .i64 (Int.tdiv (IntKind.wrap .i64 ((UInt8.toNat c:Nat):Int)) (16:Int)))=true∧qgk (Int.tmod (IntKind.wrap .i64 ((UInt8.toNat c:Nat):Int)) (16:Int))=true ∧
 qcr (IntKind.wrap .i64 ((UInt8.toNat (UInt8.ofNat (UInt8.toNat c / 2 ^ (min (Int.toNat (4:Int)) 8))):Nat):Int))=true∧qcr (IntKind.wrap .i64 ((UInt8.toNat c:Nat):Int))=true:=qxR (P:=fun c=>qgk (IntKind.wrap .i64 (Int.tdiv (IntKind.wrap .i64 ((UInt8.toNat c:Nat):Int)) (16:Int)))=true∧qgk (Int.tmod (IntKind.wrap .i64 ((UInt8.toNat c:Nat):Int)) (16:Int))=true ∧
 qcr (IntKind.wrap .i64 ((UInt8.toNat (UInt8.ofNat (UInt8.toNat c / 2 ^ (min (Int.toNat (4:Int)) 8))):Nat):Int))=true∧qcr (IntKind.wrap .i64 ((UInt8.toNat c:Nat):Int))=true) qmM c
theorem quw:∀ (c0:UInt8),∃ n,qqp n c0=qqo (z130 c0):=fun c=>⟨0,by
 obtain ⟨_,_,h1,h2⟩:=qDj c
 unfold qqp
 rw [h1,h2,boths]
 rfl⟩
theorem qxU:∀ (b0:List UInt8) (sign1:UInt8) (c2:UInt8),(qtd b0 sign1 c2=true)→∃ n,qxk n b0 sign1 c2=qvd (z85 b0 sign1 c2):=fun b sign c h=>⟨0,by
 have hl:=qo h
 unfold qxk z85 qcK z38
 rw [show lenOk b=true from h,Bool.and_true,cond_true,decide_eq_true (by unfold room; simp; omega),cond_true,decide_eq_true (by unfold room z130; simp; omega),cond_true,List.append_assoc]
 rfl⟩
def okc (c:UInt8):Bool:=(c==13)||(c==10)||(c==9)||(decide (32≤c)&&decide (c≤126))
theorem qcJ (l:List UInt8) (i k:Nat):(l.drop i).getD k 0=l.getD (i+k) 0:=by
 simp [List.getD,List.getElem?_drop]
set_option linter.unusedSimpArgs false
theorem qux:∀ (n0:Int),∃ n,qqG n n0=qfI (z218 n0):=fun c=>⟨0,by
 unfold qqG z218
 cases (c==(2:Int)) <;> cases (c==(3:Int)) <;> cases (c==(4:Int)) <;> rfl⟩
theorem quy:∃ n,qvf n  = qqy z185:=⟨0,rfl⟩
theorem quz:∃ n,qvh n  = qqz z186:=⟨0,rfl⟩
theorem qxV {α β:Type} (f:α→β) (t:List α) (z:β) (i:Nat) (h:i < t.length) (d:α) :
 ((t.take i).map f++List.replicate (t.length - i) z).set i (f (t.getD i d))=(t.take (i+1)).map f++List.replicate (t.length - (i+1)) z:=by
 rw [List.set_append_right _ _ (by simp; omega)]
 have h1:((t.take i).map f).length=i:=by simp; omega
 rw [h1,Nat.sub_self,show t.length - i=(t.length - (i+1))+1 by omega,List.replicate_succ,List.set_cons_zero,List.take_succ_eq_append_getElem h,List.map_append,List.append_assoc]
 simp [List.getD,h]
theorem qki (x:UInt8):IntKind.wrap .i32 ((UInt8.toNat x:Nat):Int)=((UInt8.toNat x:Nat):Int):=IntWalk.i32_in _ (by have:=x.toNat_lt; omega)
theorem qkj {α β:Type} {t:List α} {dv:α} {f:α→List β} {q:α→Bool} {k0:List β→Option AV} {R:Option AV} {L:Nat→List β→Int→Option AV} {b:Nat} (hf:∀ x,(f x).length≤b)
 (hL:∀ (n i:Nat) (out:List β),i < t.length→out.length+b≤room→L (n+1) out (i:Int)=bif q (t.getD i dv) then L n (out++f (t.getD i dv)) ((i+1:Nat):Int) else R) (hE:∀ n out,L (n+1) out ((t.length:Nat):Int)=k0 out) :
 ∀ (d i n:Nat) (out:List β),i+d=t.length→d < n→out.length+b*d≤room→L n out (i:Int)=bif (t.drop i).all q then k0 (out++(t.drop i).flatMap f) else R
 | d,i,0,out,hi,hn,_=>by omega
 | 0,i,n+1,out,hi,hn,_=>by
  obtain rfl:i=t.length:=by omega
  rw [hE,List.drop_eq_nil_of_le (by omega)]
  simp
 | d+1,i,n+1,out,hi,hn,hb=>by
  have hlt:i < t.length:=by omega
  have hx:=hf (t.getD i dv)
  have hb':b*(d+1)=b*d+b:=by rw [Nat.mul_succ]
  have h0:0≤b*d:=Nat.zero_le _
  rw [hL n i out hlt (by omega),qkj (α:=α) (β:=β) hf hL hE d (i+1) n _ (by omega) (by omega) (by rw [List.length_append]; omega),qY (d:=dv) hlt]
  simp only [List.all_cons,List.flatMap_cons,List.append_assoc]
  cases q (t.getD i dv) <;> rfl
theorem quA:∀ (charset0:Int),∃ n,qqt n charset0=qcG (z133 charset0):=fun cs=>⟨0,by
 unfold qqt z133
 cases (cs==(1:Int)) <;> cases (cs==(2:Int)) <;> cases (cs==(3:Int)) <;> cases (cs==(4:Int)) <;> cases (cs==(5:Int)) <;> rfl⟩
theorem qxW:∀ (charset0:Int),∃ n,qxl n charset0=qqu (z89 charset0):=fun cs=>⟨0,by
 unfold qxl z89 z133
 cases (cs==(1:Int)) <;> cases (cs==(2:Int)) <;> cases (cs==(3:Int)) <;> cases (cs==(4:Int)) <;> cases (cs==(5:Int)) <;> rfl⟩
theorem qxX:∀ (n0:Int),∃ n,qxh n n0=qql (z44 n0):=fun cs=>⟨0,by
 unfold qxh z44
 cases decide ((1:Int)≤cs) <;> rfl⟩
theorem qxY:∀ (n0:Int),∃ n,qxi n n0=qlm (z45 n0):=fun cs=>⟨0,by
 unfold qxi z45
 cases (cs==(1:Int)) <;> cases (cs==(2:Int)) <;> rfl⟩
theorem qrl (cs:Int):(z89 cs).length≤12:=by
 unfold z89 z133
 cases (cs==(1:Int)) <;> cases (cs==(2:Int)) <;> cases (cs==(3:Int)) <;> cases (cs==(4:Int)) <;> cases (cs==(5:Int)) <;> decide
theorem qrm (n:Int):(z45 n).length≤1:=by
 unfold z45
 cases (n==(1:Int)) <;> cases (n==(2:Int)) <;> decide
theorem qxZ:∀ (charset0:Int) (code1:Int),∃ n,qxm n charset0 code1=qve (z48 charset0 code1):=fun cs n=>⟨0,by
 unfold qxm z48
 have h1:=qrl cs
 have h2:=qrm n
 simp (disch:=(simp; omega)) only [dT,cond_true]⟩
theorem qya:∀ (charset0:Int),∃ n,qxo n charset0=qiK (z17 charset0):=fun cs=>⟨0,by
 unfold qxo z17 z48
 have h1:=qrl cs
 cases z44 cs with
 | false=>rfl
 | true =>
  show qiK _=qiK _
  congr 1
  rw [show z45 2=[81] from rfl]
  simp only [List.length_append,List.length_cons,List.length_nil]
  have e:∀ k:Nat,k≤100→IntKind.wrap .i64 (IntKind.wrap .i64 ((k:Int)+1)+1)=((k+2:Nat):Int):=fun k hk=>by
   rw [IntWalk.i64_in ((k:Int)+1) (by omega),IntWalk.i64_in _ (by omega)]; omega
  rw [e _ (by omega)]
  simp only [Bool.not_true,cond_false]
  omega⟩
theorem qyb:∀ (c0:UInt8),∃ n,qxj n c0=qln (z84 c0):=fun c=>⟨0,by
 unfold qxj z84
 cases (c==(32:UInt8)) <;> cases z129 c 128 <;> rfl⟩
theorem quB (c:UInt8):(z84 c).toNat≤3∧z84 c=((z84 c).toNat:Int):=by
 unfold z84
 cases (c==(32:UInt8)) <;> cases z129 c 128 <;> decide
theorem qlD (k0:Int→Option AV) (s:List UInt8) (hl:s.length≤4194304):∀ (d i n m:Nat),i+d=s.length→d < n→m+3*d≤100000000 →
 qjS k0 n (m:Nat) s ((s.length:Nat):Int) (i:Nat)=k0 ((m+qLen (s.drop i):Nat):Int)
 | d,i,0,m,hi,hn,_=>by omega
 | 0,i,n+1,m,hi,hn,_=>by
  show qdU _ _ n _ _ _ _=_
  unfold qdU
  rw [dF (by omega),cond_false,List.drop_eq_nil_of_le (by omega)]
  rfl
 | d+1,i,n+1,m,hi,hn,hm=>by
  show qdU _ _ n _ _ _ _=_
  unfold qdU
  have hlt:i < s.length:=by omega
  have h1:=quB (s.getD i 0)
  rw [qY (d:=(0:UInt8)) hlt]
  simp (disch:=omega) only [dT,cond_true,Bool.and_true,tn,qw]
  rw [h1.2,show IntKind.wrap .i64 ((m:Int)+(((z84 (s.getD i 0)).toNat:Nat):Int))=((m+(z84 (s.getD i 0)).toNat:Nat):Int) from by rw [IntWalk.i64_in _ (by omega)]; omega,
   qlD k0 s hl d (i+1) n _ (by omega) (by omega) (by omega)]
  congr 1
  unfold qLen
  simp only [List.map_cons,List.sum_cons]
  omega
theorem qyc:∀ (s0:List UInt8),(qmx s0=true)→∃ n,qtL n s0=qvc (z83 s0):=fun s h=>⟨s.length+1,by
 unfold qmx at h
 have hl:s.length≤4194304:=by simpa using h
 unfold qtL
 refine (qlD (qfD (s.length+1)) s hl s.length 0 (s.length+1) 0 (by omega) (by omega) (by omega)).trans ?_
 rw [List.drop_zero,Nat.zero_add]
 rfl⟩
theorem qlE (c:UInt8):(z91 c).length=(z84 c).toNat:=by
 unfold z91 z84 z137 z82
 cases (c==(32:UInt8)) <;> cases z129 c 128 <;> rfl
end Go.Av
