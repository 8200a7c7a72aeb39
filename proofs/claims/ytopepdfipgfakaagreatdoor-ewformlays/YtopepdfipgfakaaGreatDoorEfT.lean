import Derived.Test.YtopepdfipgfakaaGreatDoorEfSh
import Derived.Test.YtopepdfipgfakaaGreatDoorAvE
import Derived.Lib.IndexAny
import Derived.Lib.IndexMore
import Derived.Lib.IndexBytes
import Derived.IntWalk
import Derived.KernelRfl
namespace Go.Av
set_option linter.unusedVariables false
theorem qvm {α:Type} [DecidableEq α] {a b:List α} {i:Nat} (ha:i < a.length) (hb:i < b.length) (d:α):decide (a.drop i=b.drop i)=bif a.getD i d != b.getD i d then false else decide (a.drop (i+1)=b.drop (i+1)):=by
 rw [qaa (d:=d) ha,qaa (d:=d) hb]
 generalize a.getD i d=x
 generalize b.getD i d=y
 by_cases h:x=y
 ·subst h; simp
 ·simp [h]
theorem qsj (ret:Bool→Option AV) (a b:List UInt8) (hab:a.length=b.length) (hl:a.length≤1048576):∀ (d i n:Nat),i+d=a.length→d < n →
 qhU ret (ret true) n a b (i:Nat)=ret (decide (a.drop i=b.drop i))
 | d,i,0,hi,hn=>by omega
 | 0,i,n+1,hi,hn=>by
  show qeo ret (ret true) (qhU ret (ret true) n) n a b _=_
  unfold qeo
  rw [decide_eq_false (by omega),cond_false,List.drop_eq_nil_of_le (by omega),List.drop_eq_nil_of_le (by omega)]
  rfl
 | d+1,i,n+1,hi,hn=>by
  show qeo ret (ret true) (qhU ret (ret true) n) n a b _=_
  unfold qeo
  have hlt:i < a.length:=by omega
  have hlt':i < b.length:=by omega
  have ih:=qsj ret a b hab hl d (i+1) n (by omega) (by omega)
  rw [qmv,decide_eq_true hlt,cond_true,qaz,Bool.true_and,cond_true,Bool.true_and,qmv,decide_eq_true hlt',cond_true,qu (by omega),qda,ih,qvm hlt hlt' 0]
  cases (a.getD i 0 != b.getD i 0) <;> rfl
theorem qyV:∀ (a0:List UInt8) (b1:List UInt8),(qvW a0 b1=true)→∃ n,qvi n a0 b1=qgL (z13 a0 b1):=fun a b h=>⟨a.length+1,by
 unfold qvi z13
 by_cases hab:a.length=b.length
 ·rw [show (((a.length:Nat):Int) != ((b.length:Nat):Int))=false by simp [hab],cond_false]
  exact qsj qgL a b hab (qo h) a.length 0 (a.length+1) (by omega) (by omega)
 ·rw [show (((a.length:Nat):Int) != ((b.length:Nat):Int))=true by simp only [bne_iff_ne,ne_eq]; omega,cond_true,decide_eq_false (fun e=>hab (by rw [e]))]⟩
theorem qjf (c:UInt8):decide (((UInt8.toNat c:Nat):Int) < (256:Nat))=true:=by
 have:=c.toNat_lt
 rw [decide_eq_true]
 omega
theorem qbI (ret:List Bool→Bool→Option AV) (k0:List Bool→Option AV) (cs:List UInt8) (ha:ascii cs=true) (hl:cs.length≤1048576):∀ (d i n:Nat) (a:List Bool),i+d=cs.length→d < n →
 qdy ret k0 n cs a (i:Nat)=k0 (setOf (cs.drop i) a)
 | d,i,0,a,hi,hn=>by omega
 | 0,i,n+1,a,hi,hn=>by
  show qcn ret k0 (qdy ret k0 n) n cs a _=_
  unfold qcn
  rw [decide_eq_false (by omega),cond_false,List.drop_eq_nil_of_le (by omega)]
  rfl
 | d+1,i,n+1,a,hi,hn=>by
  show qcn ret k0 (qdy ret k0 n) n cs a _=_
  unfold qcn
  have hlt:i < cs.length:=by omega
  have hc:decide ((128:UInt8)≤List.getD cs i 0)=false:=by
   unfold ascii at ha
   rw [List.all_eq_true] at ha
   have:=ha (cs.getD i 0) (by simp [List.getD,hlt])
   rw [decide_eq_false_iff_not]
   simp only [decide_eq_true_eq] at this
   exact UInt8.not_le.2 this
  rw [qmv,decide_eq_true hlt,cond_true,qaz,Bool.true_and,cond_true,qda,hc,cond_false,qaz,qjf,Bool.true_and,cond_true,qu (by omega),
   qbI ret k0 cs ha hl d (i+1) n _ (by omega) (by omega),qaa (d:=0) hlt]
  rfl
theorem qvn:∀ (chars0:List UInt8),(qgm chars0=true)→∃ n,qrM n chars0=qga (z223 chars0).1 (z223 chars0).2:=fun cs h=>⟨cs.length+1,by
 unfold qgm at h
 rw [Bool.and_eq_true] at h
 exact qbI qga (qdz (cs.length+1)) cs h.1 (qo h.2) cs.length 0 (cs.length+1) _ (by omega) (by omega)⟩
theorem qvo:∀ (as0:List Bool) (c1:UInt8),∃ n,qrO n as0 c1=qrN (z238 as0 c1):=fun as c=>⟨0,by
 unfold qrO
 rw [qaz,qjf]
 rfl⟩
theorem qvp:∀ (c0:UInt8),∃ n,qrc n c0=qf (z214 c0):=fun c=>⟨0,by
 unfold qrc z214 qmq orI
 cases decide (c < (32:UInt8)) <;> cases (c==(127:UInt8)) <;> cases (c==(32:UInt8)) <;> cases (c==(9:UInt8)) <;> cases decide ((48:UInt8)≤c) <;> cases decide (c≤(57:UInt8)) <;> cases decide ((65:UInt8)≤c) <;> cases decide (c≤(90:UInt8)) <;> cases decide ((97:UInt8)≤c) <;> cases decide (c≤(122:UInt8)) <;> rfl⟩
theorem qvq:∀ (s0:List UInt8) (c1:UInt8),∃ n,qwr n s0 c1=qrd (z229 s0 c1):=fun _ _=>⟨0,rfl⟩
theorem qvr:∀ (s0:List UInt8) (c1:UInt8),∃ n,qws n s0 c1=qre (z192 s0 c1):=fun _ _=>⟨0,rfl⟩
theorem qvs:∀ (s0:List UInt8) (c1:UInt8),∃ n,qwt n s0 c1=qrf (z215 s0 c1):=fun _ _=>⟨0,rfl⟩
theorem qvt:∀ (c0:UInt8),∃ n,qrg n c0=qW (z180 c0):=fun c=>⟨0,by
 unfold qrg z180 qvX orI
 cases decide (c < (33:UInt8)) <;> cases decide ((126:UInt8) < c) <;> cases z215 [33,42,43,45,47] c <;> cases z215 [43,47] c <;> cases z215 [40,41,60,62,64,44,59,58,92,34,47,91,93,63,61] c <;> cases z215 [42,39,37] c <;> rfl⟩
theorem qvu:∀ (c0:UInt8) (kinds1:Int),∃ n,qwu n c0 kinds1=qrh (z129 c0 kinds1):=fun _ _=>⟨0,rfl⟩
theorem qwL (c:UInt8):c.toNat < 256:=c.toNat_lt
theorem qyW (cs:List UInt8) (x:UInt8):∀ (a:List Bool),a.length=256→(setOf cs a).getD x.toNat false=(cs.contains x||a.getD x.toNat false):=by
 induction cs with
 | nil=>intro a _; simp [setOf]
 | cons c cs ih =>
  intro a hl
  show (setOf cs (List.set a c.toNat true)).getD x.toNat false=_
  rw [ih _ (by simpa using hl)]
  have hx:=qwL x
  have hc:=qwL c
  by_cases e:c=x
  ·subst e
   have:(List.set a c.toNat true).getD c.toNat false=true:=by simp [List.getD,hl,hc]
   rw [this]
   simp
  ·have hne:c.toNat≠x.toNat:=fun h=>e (UInt8.toNat_inj.1 h)
   have:(List.set a c.toNat true).getD x.toNat false=a.getD x.toNat false:=by simp [List.getD,List.getElem?_set_ne hne]
   rw [this]
   have hb:¬ x=c:=fun h=>e h.symm
   simp [hb]
theorem dT {p:Prop} [Decidable p] (h:p):decide p=true:=decide_eq_true h
theorem dF {p:Prop} [Decidable p] (h:¬ p):decide p=false:=decide_eq_false h
theorem wr {x:Int} (h : -9223372036854775808≤x∧x≤9223372036854775807):IntKind.wrap .i64 x=x:=IntWalk.i64_in x h
theorem tn (i:Nat):Int.toNat (i:Int)=i:=Int.toNat_natCast i
theorem bneI {a b:Int} (h:a≠b):(a==b)=false:=by simp [h]
theorem qK {α:Type} {l:List α} (h:l.length≤1048576):lenOk l=true:=by unfold lenOk; rw [decide_eq_true_eq]; exact h
theorem qsk (p:UInt8→Bool) (t:List UInt8) (x:UInt8):dropR p (t++[x])=bif p x then dropR p t else t++[x]:=by
 unfold dropR
 rw [List.reverse_append,List.reverse_singleton,List.singleton_append,List.dropWhile_cons]
 cases p x <;> simp
theorem qcS (p:UInt8→Bool):∀ s:List UInt8,(s.dropWhile p).length≤s.length
 | []=>by simp
 | c :: s=>by
  rw [List.dropWhile_cons]
  split
  ·have:=qcS p s; simp only [List.length_cons]; omega
  ·exact Nat.le_refl _
theorem qsl (p:UInt8→Bool) (s:List UInt8):(dropR p s).length≤s.length:=by
 have:=qcS p s.reverse
 unfold dropR
 simpa using this
theorem qmj (p:UInt8→Bool) (s:List UInt8):(qvY p s).length≤s.length:=Nat.le_trans (qcS p _) (qsl p s)
theorem qvv:∀ (s0:List UInt8) (c1:UInt8),(qsy s0 c1=true)→∃ n,qrJ n s0 c1=qkw (z221 s0 c1):=fun _ _ h=>by cases h
theorem qvw:∀ (s0:List UInt8) (c1:UInt8),(qsz s0 c1=true)→∃ n,qrL n s0 c1=qrK (z222 s0 c1):=fun _ _ h=>by cases h
theorem qjg (k0:List UInt8→Option AV) (as:List Bool):∀ (d:Nat) (s:List UInt8) (n:Nat),s.length=d→d < n→s.length≤1048576 →
 qeE k0 n s as=k0 (z225 s as)
 | d,s,0,hd,hn,hl=>by omega
 | d,s,n+1,hd,hn,hl=>by
  show qfg k0 (qeE k0 n) n s as=_
  unfold qfg z225
  rcases List.eq_nil_or_concat s with rfl | ⟨t,x,rfl⟩
  ·rfl
  ·rw [List.concat_eq_append] at *
   have hlen:(t++[x]).length=t.length+1:=by simp
   have ih:=qjg k0 as t.length t n rfl (by omega) (by omega)
   have hg:(t++[x]).getD (Int.toNat (((t++[x]).length:Int) - 1)) 0=x:=by
    rw [show Int.toNat (((t++[x]).length:Int) - 1)=t.length by omega]; simp
   have ht:List.take (Int.toNat (((t++[x]).length:Int) - 1)) (t++[x])=t:=by
    rw [show Int.toNat (((t++[x]).length:Int) - 1)=t.length by omega]; simp
   simp (disch:=omega) only [wr,dT,cond_true,Bool.and_true,hg,ht,qsk]
   cases z238 as x with
   | true=>simpa [z225] using ih
   | false=>rfl
theorem qvx:∀ (s0:List UInt8) (as1:List Bool),(qjl s0 as1=true)→∃ n,qmd n s0 as1=qrP (z225 s0 as1):=fun s as h=>⟨s.length+1,by
 unfold qmd
 rw [qjg _ as s.length s _ rfl (by omega) (qo h)]
 rfl⟩
theorem qjh (k0:List UInt8→Option AV) (as:List Bool):∀ (d:Nat) (s:List UInt8) (n:Nat),s.length=d→d < n→s.length≤1048576 →
 qeD k0 n s as=k0 (z224 s as)
 | d,s,0,hd,hn,hl=>by omega
 | d,[],n+1,hd,hn,hl=>rfl
 | d,x :: s,n+1,hd,hn,hl=>by
  show qff k0 (qeD k0 n) n (x :: s) as=_
  unfold qff z224
  have hlen:(x :: s).length=s.length+1:=rfl
  have ih:=qjh k0 as s.length s n rfl (by omega) (by omega)
  have hg:(x :: s).getD (Int.toNat 0) 0=x:=rfl
  have ht:List.drop (Int.toNat 1) (List.take (Int.toNat ((x :: s).length:Int)) (x :: s))=s:=by
   rw [tn,List.take_length]; rfl
  simp (disch:=omega) only [dT,cond_true,Bool.and_true,hg,ht,List.dropWhile_cons]
  cases z238 as x with
  | true=>simpa [z224] using ih
  | false=>rfl
theorem qvy:∀ (s0:List UInt8) (as1:List Bool),(qjk s0 as1=true)→∃ n,qmc n s0 as1=qkx (z224 s0 as1):=fun s as h=>⟨s.length+1,by
 unfold qmc
 rw [qjh _ as s.length s _ rfl (by omega) (qo h)]
 unfold qdA
 cases hc:z224 s as with
 | nil=>rfl
 | cons x r=>rfl⟩
theorem qkF (cs:List UInt8) (c:UInt8):z238 (z223 cs).1 c=cs.contains c:=by
 have:=qyW cs c (List.replicate 256 false) List.length_replicate
 unfold z238 z223
 have hc:c.toNat < 256:=c.toNat_lt
 rw [this,List.getD_eq_getElem?_getD,List.getElem?_replicate,if_pos hc]
 exact Bool.or_false _
theorem qCY (cs s:List UInt8):z224 (z225 s (z223 cs).1) (z223 cs).1=z190 s cs:=by
 unfold z224 z225 z190 qvY
 have e:(fun c=>z238 (z223 cs).1 c)=fun c=>cs.contains c:=funext fun c=>qkF cs c
 rw [e]
theorem qvz:∀ (s0:List UInt8) (cutset1:List UInt8),(qgQ s0 cutset1=true)→∃ n,qrQ n s0 cutset1=qca (z190 s0 cutset1):=fun s cs h=>⟨0,by
 unfold qgQ at h
 simp only [Bool.and_eq_true,decide_eq_true_eq] at h
 obtain ⟨h1,h2,h3,h4⟩:=h
 have hls:=qo h1
 unfold qrQ
 cases s with
 | nil=>rfl
 | cons x r =>
  have hcs:(cs==([]:List UInt8))=false:=by cases cs with
   | nil=>simp at h2
   | cons a b=>rfl
  have hlen:(x :: r).length=r.length+1:=rfl
  have hm:qgm cs=true:=by unfold qgm; rw [h3,h4]; rfl
  have hr:qjk (z225 (x :: r) (z223 cs).1) (z223 cs).1=true:=qK (Nat.le_trans (qsl _ _) hls)
  rw [bneI (by omega),hcs,bneI (by omega),hm,show (z223 cs).2=true from rfl,show qjl (x :: r) (z223 cs).1=true from h1,hr,qCY]
  rfl⟩
theorem qvA:∀ (c0:UInt8),∃ n,qrb n c0=qhQ (z126 c0):=fun c=>⟨0,by
 unfold qrb z126
 cases decide ((65:UInt8)≤c) <;> cases decide (c≤(90:UInt8)) <;> rfl⟩
theorem qCZ (f:UInt8→UInt8) (s:List UInt8) (i:Nat) (h:i < s.length):List.set (s.take i |>.map f |> fun l=>l++s.drop i) i (f (s.getD i 0))=(s.take (i+1)).map f++s.drop (i+1):=by
 have hg:=qaa (d:=(0:UInt8)) h
 have hl:((s.take i).map f).length=i:=by simp; omega
 rw [hg,List.set_append_right _ _ (by omega),hl,Nat.sub_self,List.set_cons_zero]
 rw [show s.take (i+1)=s.take i++[s.getD i 0] by
  rw [List.take_add_one]; simp [List.getD,h]]
 simp
theorem qmk (k0:List UInt8→Option AV) (s:List UInt8) (hl:s.length≤1048576):∀ (d i n:Nat),i+d=s.length→d < n →
 qhR k0 n ((s.take i).map z126++s.drop i) (s.length:Nat) (i:Nat)=k0 (s.map z126)
 | d,i,0,hi,hn=>by omega
 | 0,i,n+1,hi,hn=>by
  show qee k0 (qhR k0 n) n _ _ _=_
  unfold qee
  rw [dF (by omega),cond_false,show i=s.length by omega,List.take_length,List.drop_length,List.append_nil]
 | d+1,i,n+1,hi,hn=>by
  show qee k0 (qhR k0 n) n _ _ _=_
  unfold qee
  have hlt:i < s.length:=by omega
  have ih:=qmk k0 s hl d (i+1) n (by omega) (by omega)
  have hlen:((s.take i).map z126++s.drop i).length=s.length:=by simp; omega
  have hg:((s.take i).map z126++s.drop i).getD i 0=s.getD i 0:=by
   rw [qaa (d:=(0:UInt8)) hlt]
   simp [List.getD,Nat.min_eq_left (Nat.le_of_lt hlt)]
  have hs:=qCZ z126 s i hlt
  simp only at hs
  simp (disch:=omega) only [dT,cond_true,Bool.and_true,tn,qu,hlen,hg]
  rw [hs]
  exact ih
theorem qyX:∀ (s0:List UInt8),(qnF s0=true)→∃ n,qva n s0=qwq (z79 s0):=fun s h=>⟨s.length+1,by
 unfold qva
 rw [show qcU s=true from h,show z38 s=s from rfl]
 exact qmk (qfS (s.length+1)) s (qo h) s.length 0 (s.length+1) (by omega) (by omega)⟩
theorem qgk (k0:Int→Option AV) (s:List UInt8) (k:Int) (hl:s.length≤1048576):∀ (d i n m:Nat),i+d=s.length→d < n→m+d≤1048576 →
 qdw k0 n k (m:Nat) s (s.length:Nat) (i:Nat)=k0 ((m+(s.drop i).countP (fun c=>z129 c k):Nat):Int)
 | d,i,0,m,hi,hn,hm=>by omega
 | 0,i,n+1,m,hi,hn,hm=>by
  show qcm k0 (qdw k0 n) n _ _ _ _ _=_
  unfold qcm
  rw [dF (by omega),cond_false,List.drop_eq_nil_of_le (by omega)]
  rfl
 | d+1,i,n+1,m,hi,hn,hm=>by
  show qcm k0 (qdw k0 n) n _ _ _ _ _=_
  unfold qcm
  have hlt:i < s.length:=by omega
  have ih:=qgk k0 s k hl d (i+1) n m (by omega) (by omega) (by omega)
  have ih2:=qgk k0 s k hl d (i+1) n (m+1) (by omega) (by omega) (by omega)
  rw [qaa (d:=(0:UInt8)) hlt,List.countP_cons]
  simp (disch:=omega) only [dT,cond_true,Bool.and_true,tn,qu]
  cases z129 (s.getD i 0) k with
  | true=>rw [cond_true,ih2]; congr 2; simp; omega
  | false=>rw [cond_false,ih]; congr 2
theorem qvB:∀ (s0:List UInt8) (kinds1:Int),(qmr s0 kinds1=true)→∃ n,qlS n s0 kinds1=qri (z127 s0 kinds1):=fun s k h=>⟨s.length+1,by
 have hl:=qo h
 unfold qlS
 have:=qgk (qdx (s.length+1)) s k hl s.length 0 (s.length+1) 0 (by omega) (by omega) (by omega)
 refine Eq.trans this ?_
 rw [Nat.zero_add,List.drop_zero]
 rfl⟩
theorem qsm (p:UInt8→Bool) (s:List UInt8):(((s.countP p:Nat):Int)==((s.length:Nat):Int))=s.all p:=by
 rw [Bool.eq_iff_iff]
 simp only [beq_iff_eq,List.all_eq_true]
 have:=List.countP_eq_length (p:=p) (l:=s)
 constructor
 ·intro h; exact this.1 (by omega)
 ·intro h; have:=this.2 h; omega
theorem qyY:∀ (s0:List UInt8) (kinds1:Int),(qvZ s0 kinds1=true)→∃ n,qyw n s0 kinds1=qrj (z80 s0 kinds1):=fun s k h=>⟨0,by
 unfold qyw
 rw [show qmr s k=true from h]
 show qrj (z127 s k==((s.length:Nat):Int))=_
 unfold z127
 rw [qsm]
 rfl⟩
theorem qvC:(fun c:UInt8=>([32,9]:List UInt8).contains c)=blank:=by
 funext c
 unfold blank
 simp only [List.contains_cons,List.contains_nil,Bool.or_false]
theorem bneT {a b:Int} (h:a≠b):(a != b)=true:=by simp [bne,h]
theorem qsn (ret:Bool→Option AV) (k0:Option AV) (hk:k0=ret false) (s:List UInt8) (c:UInt8) (hl:s.length≤1048576):∀ (d i n:Nat),i+d=s.length→d < n →
 qdH ret k0 n s c (i:Nat)=ret ((s.drop i).contains c)
 | d,i,0,hi,hn=>by omega
 | 0,i,n+1,hi,hn=>by
  show qcr ret k0 (qdH ret k0 n) n _ _ _=_
  unfold qcr
  rw [dF (by omega),cond_false,List.drop_eq_nil_of_le (by omega),hk]
  rfl
 | d+1,i,n+1,hi,hn=>by
  show qcr ret k0 (qdH ret k0 n) n _ _ _=_
  unfold qcr
  have hlt:i < s.length:=by omega
  have ih:=qsn ret k0 hk s c hl d (i+1) n (by omega) (by omega)
  rw [qaa (d:=(0:UInt8)) hlt,List.contains_cons]
  simp (disch:=omega) only [dT,cond_true,Bool.and_true,tn,qu]
  rw [ih,show (s.getD i 0==c)=(c==s.getD i 0) from Bool.beq_comm]
  cases (c==s.getD i 0) <;> rfl
theorem qvD (s:List UInt8) (c:UInt8) (hl:s.length≤1048576):∃ n,qje n s c=qer (z179 s c):=⟨s.length+1,by
 unfold qje
 have:=qsn qer (qdI (s.length+1)) rfl s c hl s.length 0 (s.length+1) (by omega) (by omega)
 exact this⟩
theorem qvE:∀ (s0:List UInt8) (c1:UInt8),(qwR s0 c1=true)→∃ n,qje n s0 c1=qer (z179 s0 c1):=fun s c h=>qvD s c (qo h)
theorem qyZ:∀ (c0:UInt8) (kinds1:Int),∃ n,qCX n c0 kinds1=qwJ (z82 c0 kinds1):=fun _ _=>⟨0,rfl⟩
theorem qEY {P:UInt8→Prop} (h:∀ i:Fin 256,P (UInt8.ofNat i.val)) (c:UInt8):P c:=by
 have:=h ⟨c.toNat,c.toNat_lt⟩
 simpa using this
theorem qwM {s:List UInt8} (h:s.length=1):∃ c,s=[c]:=List.length_eq_one_iff.1 h
theorem qvF:∀ (s0:List UInt8) (sep1:List UInt8),(qgO s0 sep1=true)→∃ n,qra n s0 sep1=qfR (z124 s0 sep1):=fun s sep h=>⟨0,by
 unfold qgO at h
 simp only [Bool.and_eq_true,decide_eq_true_eq] at h
 obtain ⟨c,rfl⟩:=qwM h.2
 rfl⟩
theorem qfj (c:UInt8) (cur:List UInt8) (x:UInt8) (r:List UInt8):cutC c cur (x :: r)=bif x==c then cur :: cutC c [] r else cutC c (cur++[x]) r:=rfl
theorem qml (c:UInt8):∀ (s cur:List UInt8),c ∉ s→cutC c cur s=[cur++s]
 | [],cur,_=>by rw [List.append_nil]; rfl
 | x :: r,cur,h=>by
  have hx:(x==c)=false:=beq_eq_false_iff_ne.2 (fun e=>h (by rw [e]; exact List.mem_cons_self ..))
  rw [qfj,hx,cond_false,qml c r _ (fun hm=>h (List.mem_cons_of_mem _ hm)),List.append_assoc]
  rfl
theorem qwN (c:UInt8) (r:List UInt8):∀ (x cur:List UInt8),c ∉ x→cutC c cur (x++c :: r)=(cur++x) :: cutC c [] r
 | [],cur,_=>by
  show cutC c cur (c :: r)=_
  rw [qfj,beq_self_eq_true,cond_true,List.append_nil]
 | y :: x,cur,h=>by
  have hx:(y==c)=false:=beq_eq_false_iff_ne.2 (fun e=>h (by rw [e]; exact List.mem_cons_self ..))
  show cutC c cur (y :: (x++c :: r))=_
  rw [qfj,hx,cond_false,qwN c r x _ (fun hm=>h (List.mem_cons_of_mem _ hm)),List.append_assoc]
  rfl
theorem qgl (c:UInt8) (r:List UInt8):∀ (x:List UInt8),c ∉ x→Lib.indexByte (x++c :: r) c=(x.length:Int)
 | [],_=>by simp [Lib.indexByte]
 | y :: x,h=>by
  have hx:(y==c)=false:=beq_eq_false_iff_ne.2 (fun e=>h (by rw [e]; exact List.mem_cons_self ..))
  have ih:=qgl c r x (fun hm=>h (List.mem_cons_of_mem _ hm))
  show Lib.indexByte (y :: (x++c :: r)) c=_
  unfold Lib.indexByte
  rw [ih,hx]
  have e:((x.length:Int) == -1)=false:=by simp
  simp [e]
theorem qso (m:Nat) (c:UInt8) (N:Nat) (hN:N≤1048576):∀ (d:Nat) (s:List UInt8) (done:List (List UInt8)) (n:Nat),s.count c=d→d < n→done.length+d=N→s.length≤1048576 →
 qcC (qac m) n s [c] 0 (N:Nat) (done++List.replicate (d+1) []) (done.length:Nat)=qiY (done++cutC c [] s)
 | d,s,done,0,_,hn,_,_=>by omega
 | 0,s,done,n+1,hc,hn,hd,hs=>by
  show qcl (qac m) (qcC (qac m) n) n _ _ _ _ _ _=_
  unfold qcl
  have hmem:c ∉ s:=List.count_eq_zero.1 hc
  rw [dF (by omega),cond_false]
  unfold qac
  have hset:List.set (done++List.replicate (0+1) ([]:List UInt8)) done.length s=done++[s]:=by
   rw [List.set_append_right _ _ (Nat.le_refl _),Nat.sub_self]
   rfl
  have hlen:(done++List.replicate (0+1) ([]:List UInt8)).length=done.length+1:=by simp
  rw [tn,hset,hlen,qu (by omega)]
  have hl2:(done++[s]).length=done.length+1:=by simp
  rw [hl2]
  simp (disch:=omega) only [dT,cond_true,Bool.and_true,tn]
  rw [List.drop_zero,List.take_of_length_le (by omega),qml c s [] hmem]
  rfl
 | d+1,s,done,n+1,hc,hn,hd,hs=>by
  show qcl (qac m) (qcC (qac m) n) n _ _ _ _ _ _=_
  unfold qcl
  have hmem:c∈s:=List.count_pos_iff.1 (by omega)
  obtain ⟨x,r,rfl,hx⟩:=List.eq_append_cons_of_mem hmem
  have hi:z125 (x++c :: r) [c]=(x.length:Int):=by
   unfold z125
   rw [Lib.index_one,qgl c r x hx]
  have hlen:(x++c :: r).length=x.length+(r.length+1):=by simp
  have hok:qgP (x++c :: r) [c]=true:=by
   unfold qgP
   rw [qK hs]
   rfl
  have hcr:r.count c=d:=by
   rw [List.count_append,List.count_eq_zero.2 hx,List.count_cons_self] at hc
   omega
  have hdl:(done++List.replicate (d+1+1) ([]:List UInt8)).length=done.length+(d+2):=by simp
  have hset:List.set (done++List.replicate (d+1+1) ([]:List UInt8)) done.length x=(done++[x])++List.replicate (d+1) []:=by
   rw [List.set_append_right _ _ (Nat.le_refl _),Nat.sub_self,List.append_assoc]
   rfl
  have h1:(([c]:List UInt8).length:Nat)=1:=rfl
  have hw:IntKind.wrap .i64 ((x.length:Int)+0)=(x.length:Int):=by rw [wr (by omega)]; omega
  have hw2:IntKind.wrap .i64 ((x.length:Int)+((1:Nat):Int))=((x.length+1:Nat):Int):=by rw [wr (by omega)]; omega
  have ih:=qso m c N hN d r (done++[x]) n hcr (by omega) (by simp; omega) (by omega)
  rw [hi,hok,h1,hw,hw2,hdl,hlen]
  simp (disch:=omega) only [dT,dF,cond_true,cond_false,Bool.and_true,tn,qu]
  have e1:(x++c :: r).take (x.length+(r.length+1))=x++c :: r:=List.take_of_length_le (by omega)
  have e2:(x++c :: r).take x.length=x:=List.take_left
  have e3:(x++c :: r).drop (x.length+1)=r:=by
   rw [← List.drop_drop,List.drop_left]
   rfl
  rw [e1,e2,e3,List.drop_zero,hset,qwN c r x [] hx]
  rw [show (done++[x]).length=done.length+1 by simp] at ih
  rw [ih,List.append_assoc]
  rfl
theorem qza:∀ (s0:List UInt8) (sep1:List UInt8) (sepSave2:Int) (n3:Int),(qnC s0 sep1 sepSave2 n3=true)→∃ n,quZ n s0 sep1 sepSave2 n3=qiY (z78 s0 sep1 sepSave2 n3):=fun s sep save k h=>⟨s.length+1,by
 unfold qnC at h
 simp only [Bool.and_eq_true,decide_eq_true_eq,beq_iff_eq] at h
 obtain ⟨⟨h1,h2⟩,rfl,rfl⟩:=h
 obtain ⟨c,rfl⟩:=qwM h2
 have hl:=qo h1
 have hc:s.count c≤s.length:=List.count_le_length
 unfold quZ
 have hok:qgO s [c]=true:=by unfold qgO; rw [h1]; rfl
 have hcnt:z124 s [c]=((s.count c:Nat):Int):=rfl
 have hw1:IntKind.wrap .i64 (((s.length:Nat):Int)+1)=((s.length+1:Nat):Int):=by rw [wr (by omega)]; omega
 have hw2:IntKind.wrap .i64 (((s.count c:Nat):Int)+1)=((s.count c+1:Nat):Int):=by rw [wr (by omega)]; omega
 have hw3:IntKind.wrap .i64 (((s.count c+1:Nat):Int) - 1)=((s.count c:Nat):Int):=by rw [wr (by omega)]; omega
 have hroom:((s.count c+1:Nat):Int)≤(room:Int):=by unfold room; omega
 rw [show (((-1:Int))==0)=false from rfl,show ((((([c]:List UInt8)).length:Nat):Int)==0)=false from rfl,show decide ((-1:Int) < 0)=true from rfl,hok,hcnt,hw1,hw2]
 simp only [cond_false,cond_true,Bool.and_true]
 rw [dF (show ¬ ((s.length+1:Nat):Int) < ((s.count c+1:Nat):Int) by omega),cond_false,hw3,dT hroom,tn]
 simp (disch:=omega) only [dT,cond_true,Bool.and_true]
 exact qso (s.length+1) c (s.count c) (by omega) (s.count c) s [] (s.length+1) rfl (by omega) (by simp) hl⟩
theorem qzb:∀ (s0:List UInt8) (sep1:List UInt8),(qsw s0 sep1=true)→∃ n,qyu n s0 sep1=qwp (z37 s0 sep1):=fun s sep h=>⟨0,by
 unfold qyu
 have:qnC s sep 0 (-1)=true:=by
  unfold qnC
  rw [show (lenOk s&&decide (sep.length=1))=true from h]
  rfl
 rw [this]
 rfl⟩
theorem qsp (s:List UInt8) (c:UInt8):(z79 s==[c])=(match s with | [x]=>z126 x==c | _=>false):=by
 unfold z79
 match s with
 | []=>rfl
 | [x]=>simp
 | x :: y :: r=>simp
theorem qzc:∀ (s0:List UInt8),(qnD s0=true)→∃ n,qyv n s0=qiZ (z39 s0):=fun s h=>⟨0,by
 unfold qyv
 rw [show qnF s=true from h,qsp,qsp]
 match s with
 | []=>rfl
 | [x] =>
  show (bif z126 x==98 then _ else bif z126 x==113 then _ else _)=qiZ (bif z126 x==98 then 1 else bif z126 x==113 then 2 else 0)
  cases (z126 x==98) <;> cases (z126 x==113) <;> rfl
 | x :: y :: r=>rfl⟩
theorem qzd:∀ (s0:List UInt8) (kinds1:Int),(qdJ s0 kinds1=true)→∃ n,qyx n s0 kinds1=qrk (z40 s0 kinds1):=fun s k h=>⟨0,by
 unfold qyx
 rw [show qvZ s k=true from h]
 cases s with
 | nil=>rfl
 | cons x r =>
  rw [dT (by simp only [List.length_cons]; omega)]
  rfl⟩
theorem qkG (c:UInt8):∀ (s cur x:List UInt8),x∈cutC c cur s→x.length≤cur.length+s.length
 | [],cur,x,h=>by
  have:x∈[cur]:=h
  simp only [List.mem_singleton] at this
  subst this
  exact Nat.le_refl _
 | y :: r,cur,x,h=>by
  rw [qfj] at h
  cases hy:(y==c) with
  | true =>
   rw [hy,cond_true] at h
   rcases List.mem_cons.1 h with rfl | h
   ·exact Nat.le_add_right _ _
   ·have:=qkG c r [] x h
    simp only [List.length_nil,List.length_cons] at this ⊢
    omega
  | false =>
   rw [hy,cond_false] at h
   have:=qkG c r _ x h
   simp only [List.length_append,List.length_cons,List.length_nil] at this ⊢
   omega
theorem five {α:Type} {L:List α} (h:L.length=5):∃ a n c t b,L=[a,n,c,t,b]:=by
 match L,h with
 | [a,n,c,t,b],_=>exact ⟨a,n,c,t,b,rfl⟩
theorem qsq (k:Nat) {L:List (List UInt8)} (h:L.length≠5):qjj k L=(qsx,3):=by
 unfold qjj
 split
 ·exact absurd rfl h
 ·rfl
theorem qze:∀ (s0:List UInt8),(qnE s0=true)→∃ n,qyy n s0=qA (z11 s0).1 (z11 s0).2:=fun s h=>⟨0,by
 have hl:=qo h
 have hok:qsw s [63]=true:=by unfold qsw; rw [show lenOk s=true from h]; rfl
 have hmem:∀ x∈cutC 63 [] s,x.length≤1048576:=fun x hx=>by
  have:=qkG 63 s [] x hx
  simp only [List.length_nil] at this
  omega
 unfold qyy z11
 rw [hok,show z37 s [63]=cutC 63 [] s from rfl]
 generalize cutC 63 [] s=L at hmem ⊢
 have h75:decide ((75:Int) < ((s.length:Nat):Int))=decide (75 < s.length):=by rw [Bool.eq_iff_iff]; simp only [decide_eq_true_eq]; omega
 rw [h75]
 generalize hk:s.length=k
 by_cases h5:L.length=5
 ·obtain ⟨a,n,c,t,b,rfl⟩:=five h5
  have okn:qcU n=true:=qK (hmem n (by simp))
  have okt:qcU t=true:=qK (hmem t (by simp))
  have okc:qnD c=true:=qK (hmem c (by simp))
  have okn2:qdJ n 64=true:=qK (hmem n (by simp))
  have okt2:qdJ t 4=true:=qK (hmem t (by simp))
  have c0:(decide ((0:Int)≤0)&&decide ((0:Int) < ((List.length [a,n,c,t,b]:Nat):Int)))=true:=rfl
  have c1:(decide ((0:Int)≤1)&&decide ((1:Int) < ((List.length [a,n,c,t,b]:Nat):Int)))=true:=rfl
  have c2:(decide ((0:Int)≤2)&&decide ((2:Int) < ((List.length [a,n,c,t,b]:Nat):Int)))=true:=rfl
  have c3:(decide ((0:Int)≤3)&&decide ((3:Int) < ((List.length [a,n,c,t,b]:Nat):Int)))=true:=rfl
  have c4:(decide ((0:Int)≤4)&&decide ((4:Int) < ((List.length [a,n,c,t,b]:Nat):Int)))=true:=rfl
  have g0:List.getD [a,n,c,t,b] (Int.toNat 0) []=a:=rfl
  have g1:List.getD [a,n,c,t,b] (Int.toNat 1) []=n:=rfl
  have g2:List.getD [a,n,c,t,b] (Int.toNat 2) []=c:=rfl
  have g3:List.getD [a,n,c,t,b] (Int.toNat 3) []=t:=rfl
  have g4:List.getD [a,n,c,t,b] (Int.toNat 4) []=b:=rfl
  have e5:((((List.length [a,n,c,t,b]:Nat)):Int) != 5)=false:=rfl
  have ecl:∀ x,z38 x=x:=fun _=>rfl
  simp only [e5,c0,c1,c2,c3,c4,g0,g1,g2,g3,g4,okn,okt,okc,okn2,okt2,ecl,qhd,cond_true,cond_false,Bool.and_true]
  show _=qA (qjj k [a,n,c,t,b]).1 (qjj k [a,n,c,t,b]).2
  unfold qjj
  simp only [show z39 c=codeL c from rfl,show z40 n 64=fullB n 64 from rfl,show z40 t 4=fullB t 4 from rfl]
  by_cases ha:a=[61]
  ·by_cases hb:b=[61]
   ·subst ha hb
    simp only [decide_true,Bool.and_true,cond_true,bne_self_eq_false,cond_false]
    cases (codeL c==0) <;> cases fullB n 64 <;> cases fullB t 4 <;> cases decide (75 < k) <;> rfl
   ·rw [decide_eq_false hb,Bool.and_false,show (b != [61])=true from bne_iff_ne.2 hb,cond_true]
    subst ha
    rfl
  ·rw [decide_eq_false ha,Bool.false_and,show (a != [61])=true from bne_iff_ne.2 ha,cond_true]
   rfl
 ·rw [bneT (by omega),qsq k h5]
  rfl⟩
theorem qzf:∀ (s0:List UInt8),(qzA s0=true)→∃ n,qyz n s0=qwv (z14 s0):=fun s h=>⟨0,by
 unfold qyz
 rw [show qnE s=true from h]
 rfl⟩
theorem qvG:∀ (s0:List UInt8),(qgR s0=true)→∃ n,qrS n s0=qrR (z148 s0):=fun s h=>⟨0,by
 have hl:=qo h
 have h1:qgQ s [32,9]=true:=by unfold qgQ; rw [show lenOk s=true from h]; rfl
 have e:z190 s [32,9]=z148 s:=by unfold z190 z148; rw [qvC]
 unfold qrS
 rw [h1,e,show qcU (z148 s)=true from qK (Nat.le_trans (qmj _ _) hl)]
 rfl⟩
theorem qwO (x:UInt8) (s:List UInt8) (c:UInt8):Lib.indexByte (x :: s) c=if (x==c)=true then 0 else if (Lib.indexByte s c == -1)=true then -1 else Lib.indexByte s c+1:=rfl
theorem ib_lt:∀ (s:List UInt8) (c:UInt8),Lib.indexByte s c < (s.length:Int)
 | [],c=>by show (-1:Int) < ((0:Nat):Int); omega
 | x :: s,c=>by
  have:=ib_lt s c
  have hg:=Lib.indexByte_ge s c
  rw [qwO]
  simp only [List.length_cons]
  split
  ·omega
  ·split <;> omega
theorem and15 (n:Int):bits .and .i64 n 15=n % 16:=by
 have h:(BitVec.ofInt 64 n &&& BitVec.ofInt 64 15).toNat=(n % 16).toNat:=by
  rw [BitVec.toNat_and]
  have h1:(BitVec.ofInt 64 15).toNat=2 ^ 4 - 1:=by decide
  rw [h1,Nat.and_two_pow_sub_one_eq_mod,BitVec.toNat_ofInt]
  omega
 show IntKind.wrap .i64 (((BitVec.ofInt 64 n &&& BitVec.ofInt 64 15).toNat:Nat):Int)=_
 rw [h,IntWalk.i64_in _ (by omega)]
 omega
theorem qvH:∀ (n0:Int),(qcz n0=true)→∃ n,qrn n n0=qrm (z181 n0):=fun n _=>⟨0,by
 unfold qrn z181
 rw [and15]
 have h0:(0:Int)≤n % 16:=by omega
 have h1:n % 16 < (((([48,49,50,51,52,53,54,55,56,57,65,66,67,68,69,70]:List UInt8).length:Nat)):Int):=by simp; omega
 rw [decide_eq_true h0,decide_eq_true h1]
 rfl⟩
theorem qEZ (n:Int):Int.tmod (Int.tmod n 16+16) 16=n % 16:=by
 have h:Int.tmod n 16=n % 16∨Int.tmod n 16=n % 16 - 16:=by
  rcases Int.le_total 0 n with h | h
  ·exact .inl (Int.tmod_eq_emod_of_nonneg h)
  ·have h2:Int.tmod n 16 = -((-n) % 16):=by
    have:=Int.neg_tmod (-n) 16
    rw [Int.neg_neg] at this
    rw [this,Int.tmod_eq_emod_of_nonneg (by omega)]
   omega
 have h3:0≤Int.tmod n 16+16:=by omega
 rw [Int.tmod_eq_emod_of_nonneg h3]
 omega
theorem qkH (n:Int) : -16 < Int.tmod n 16∧Int.tmod n 16 < 16:=by
 have h:Int.tmod n 16=n % 16∨Int.tmod n 16=n % 16 - 16∧n % 16≠0:=by
  rcases Int.le_total 0 n with h | h
  ·exact .inl (Int.tmod_eq_emod_of_nonneg h)
  ·have h2:Int.tmod n 16 = -((-n) % 16):=by
    have:=Int.neg_tmod (-n) 16
    rw [Int.neg_neg] at this
    rw [this,Int.tmod_eq_emod_of_nonneg (by omega)]
   omega
 omega
theorem qkI:∀ j:Fin 16,(bif decide (((j.val:Nat):Int) < 10) then UInt8.ofNat (Int.toNat (IntKind.wrap .u8 (IntKind.wrap .i64 ((48:Int)+((j.val:Nat):Int)))))
 else UInt8.ofNat (Int.toNat (IntKind.wrap .u8 (IntKind.wrap .i64 ((IntKind.wrap .i64 ((65:Int)+((j.val:Nat):Int))) - (10:Int))))))=List.getD hexD j.val 0:=by decide +kernel
theorem qvI:∀ (n0:Int),(qcA n0=true)→∃ n,qsf n n0=qkD (z184 n0):=fun n _=>⟨0,by
 unfold qsf z184
 have hr:=qkH n
 rw [IntWalk.i64_in (Int.tmod n 16+16) (by omega),qEZ]
 have hj:(n % 16).toNat < 16:=by omega
 have:=qkI ⟨(n % 16).toNat,hj⟩
 simp only [Int.toNat_of_nonneg (show 0≤n % 16 by omega)] at this
 rw [← this]
 cases decide (n % 16 < 10) <;> rfl⟩
theorem qsr (c:UInt8):IntKind.wrap .i64 ((UInt8.toNat c:Nat):Int)=((UInt8.toNat c:Nat):Int):=by
 have:=c.toNat_lt
 exact IntWalk.i64_in _ (by omega)
theorem qvJ:∀ (c0:UInt8),∃ n,qrX n c0=qgc (z237 c0).1 (z237 c0).2:=fun c=>⟨0,by
 unfold qrX z237
 have h:=(z126 c - 97).toNat_lt
 rw [qsr,qsr,IntWalk.i64_in (((z126 c - 97).toNat:Int)+10) (by omega)]
 cases z129 (z126 c) 8 <;> cases decide ((97:UInt8)≤z126 c) <;> cases decide (z126 c≤(102:UInt8)) <;> rfl⟩
theorem qkJ:∀ i:Fin 256,0≤(z237 (UInt8.ofNat i.val)).1∧(z237 (UInt8.ofNat i.val)).1 < 16:=by decide +kernel
theorem qvK {P:UInt8→Prop} (h:∀ i:Fin 256,P (UInt8.ofNat i.val)) (c:UInt8):P c:=by
 have:=h ⟨c.toNat,c.toNat_lt⟩
 simpa using this
theorem qgM (c:UInt8):0≤(z237 c).1∧(z237 c).1 < 16:=qvK (P:=fun c=>0≤(z237 c).1∧(z237 c).1 < 16) qkJ c
theorem qzg:∀ a b:Fin 16,UInt8.ofNat (Int.toNat (IntKind.wrap .u8 (bits .or .i64 (IntKind.wrap .i64 (((a.val:Nat):Int)*2 ^ (min (Int.toNat (4:Int)) (IntKind.bits .i64)))) ((b.val:Nat):Int))))=UInt8.ofNat (Int.toNat (((a.val:Nat):Int)*16+((b.val:Nat):Int))):=by decide +kernel
theorem qzh {P:Int→Int→Prop} (h:∀ a b:Fin 16,P ((a.val:Nat):Int) ((b.val:Nat):Int)) {x y:Int} (hx:0≤x∧x < 16) (hy:0≤y∧y < 16):P x y:=by
 have:=h ⟨x.toNat,by omega⟩ ⟨y.toNat,by omega⟩
 simp only [Int.toNat_of_nonneg hx.1,Int.toNat_of_nonneg hy.1] at this
 exact this
theorem qvL:∀ (a0:UInt8) (b1:UInt8),∃ n,qrY n a0 b1=qhT (z220 a0 b1).1 (z220 a0 b1).2:=fun a b=>⟨0,by
 unfold qrY z220
 have h:=qzh (P:=fun x y=>UInt8.ofNat (Int.toNat (IntKind.wrap .u8 (bits .or .i64 (IntKind.wrap .i64 (x*2 ^ (min (Int.toNat (4:Int)) (IntKind.bits .i64)))) y)))=UInt8.ofNat (Int.toNat (x*16+y))) qzg (qgM a) (qgM b)
 rw [← h]
 cases (z237 a).2 <;> cases (z237 b).2 <;> rfl⟩
theorem qnz (s:List UInt8) (at1:Int) (hl:s.length≤1048576) (h0:¬ at1 < 0) (h1:¬ IntKind.wrap .i64 (((List.length s:Nat):Int) - 3) < at1):∃ i:Nat,at1=i∧i+2 < s.length:=by
 rw [IntWalk.i64_in _ (by omega)] at h1
 exact ⟨at1.toNat,by omega,by omega⟩
theorem qvM:∀ (s0:List UInt8) (at1:Int) (sign2:UInt8),(qlG s0 at1 sign2=true)→∃ n,qrZ n s0 at1 sign2=qgd (z189 s0 at1 sign2).1 (z189 s0 at1 sign2).2:=fun s at1 sign h=>⟨0,by
 have hl:=qo h
 unfold qrZ z189
 by_cases h0:at1 < 0
 ·rw [decide_eq_true h0,decide_eq_false (show ¬ 0≤at1 by omega)]; rfl
 by_cases h1:IntKind.wrap .i64 (((List.length s:Nat):Int) - 3) < at1
 ·have h2:¬ at1≤(s.length:Int) - 3:=by rw [IntWalk.i64_in _ (by omega)] at h1; omega
  rw [decide_eq_false h0,decide_eq_true h1,decide_eq_false h2,Bool.and_false]; rfl
 obtain ⟨i,rfl,hi⟩:=qnz s at1 hl h0 h1
 rw [decide_eq_false h0,decide_eq_false h1,cond_false,cond_false,qaz,qmv,decide_eq_true (show i < s.length by omega),Bool.and_true,cond_true,qda,qu (by omega),
  show IntKind.wrap .i64 ((i:Int)+2)=((i+2:Nat):Int) by rw [IntWalk.i64_in _ (by omega)]; omega,qaz,qaz,qmv,qmv,decide_eq_true (show i+1 < s.length by omega),decide_eq_true hi,qda,qda,
  decide_eq_true (show (i:Int)≤(s.length:Int) - 3 by omega),Bool.and_true,cond_true]
 unfold qkh
 cases he:(List.getD s i 0==sign) with
 | true=>rw [show (List.getD s i 0 != sign)=false by simp only [bne,he,Bool.not_true]]; rfl
 | false=>rw [show (List.getD s i 0 != sign)=true by simp only [bne,he,Bool.not_false]]; rfl⟩
theorem qss:∀ i:Fin 256,[z181 (IntKind.wrap .i64 ((UInt8.toNat (UInt8.ofNat (UInt8.toNat (UInt8.ofNat i.val) / 2 ^ (min (Int.toNat (4:Int)) 8))):Nat):Int)),z181 (IntKind.wrap .i64 ((UInt8.toNat (UInt8.ofNat i.val):Nat):Int))]=z130 (UInt8.ofNat i.val):=by decide +kernel
theorem qji:∀ i:Fin 256,[z184 (IntKind.wrap .i64 (Int.tdiv (IntKind.wrap .i64 ((UInt8.toNat (UInt8.ofNat i.val):Nat):Int)) (16:Int))),z184 (Int.tmod (IntKind.wrap .i64 ((UInt8.toNat (UInt8.ofNat i.val):Nat):Int)) (16:Int))]=z130 (UInt8.ofNat i.val):=by decide +kernel
theorem qnA:∀ i:Fin 256,qcA (IntKind.wrap .i64 (Int.tdiv (IntKind.wrap .i64 ((UInt8.toNat (UInt8.ofNat i.val):Nat):Int)) (16:Int)))=true∧qcA (Int.tmod (IntKind.wrap .i64 ((UInt8.toNat (UInt8.ofNat i.val):Nat):Int)) (16:Int))=true ∧
 qcz (IntKind.wrap .i64 ((UInt8.toNat (UInt8.ofNat (UInt8.toNat (UInt8.ofNat i.val) / 2 ^ (min (Int.toNat (4:Int)) 8))):Nat):Int))=true∧qcz (IntKind.wrap .i64 ((UInt8.toNat (UInt8.ofNat i.val):Nat):Int))=true:=by decide +kernel
theorem boths (c:UInt8):[z181 (IntKind.wrap .i64 ((UInt8.toNat (UInt8.ofNat (UInt8.toNat c / 2 ^ (min (Int.toNat (4:Int)) 8))):Nat):Int)),z181 (IntKind.wrap .i64 ((UInt8.toNat c:Nat):Int))]=z130 c:=qvK (P:=fun c=>[z181 (IntKind.wrap .i64 ((UInt8.toNat (UInt8.ofNat (UInt8.toNat c / 2 ^ (min (Int.toNat (4:Int)) 8))):Nat):Int)),z181 (IntKind.wrap .i64 ((UInt8.toNat c:Nat):Int))]=z130 c) qss c
theorem qzi (c:UInt8):[z184 (IntKind.wrap .i64 (Int.tdiv (IntKind.wrap .i64 ((UInt8.toNat c:Nat):Int)) (16:Int))),z184 (Int.tmod (IntKind.wrap .i64 ((UInt8.toNat c:Nat):Int)) (16:Int))]=z130 c:=qvK (P:=fun c=>[z184 (IntKind.wrap .i64 (Int.tdiv (IntKind.wrap .i64 ((UInt8.toNat c:Nat):Int)) (16:Int))),z184 (Int.tmod (IntKind.wrap .i64 ((UInt8.toNat c:Nat):Int)) (16:Int))]=z130 c) qji c
theorem qDa (c:UInt8):qcA (IntKind.wrap .i64 (Int.tdiv (IntKind.wrap .i64 ((UInt8.toNat c:Nat):Int)) (16:Int)))=true∧qcA (Int.tmod (IntKind.wrap .i64 ((UInt8.toNat c:Nat):Int)) (16:Int))=true ∧
 qcz (IntKind.wrap .i64 ((UInt8.toNat (UInt8.ofNat (UInt8.toNat c / 2 ^ (min (Int.toNat (4:Int)) 8))):Nat):Int))=true∧qcz (IntKind.wrap .i64 ((UInt8.toNat c:Nat):Int))=true:=qvK (P:=fun c=>qcA (IntKind.wrap .i64 (Int.tdiv (IntKind.wrap .i64 ((UInt8.toNat c:Nat):Int)) (16:Int)))=true∧qcA (Int.tmod (IntKind.wrap .i64 ((UInt8.toNat c:Nat):Int)) (16:Int))=true ∧
 qcz (IntKind.wrap .i64 ((UInt8.toNat (UInt8.ofNat (UInt8.toNat c / 2 ^ (min (Int.toNat (4:Int)) 8))):Nat):Int))=true∧qcz (IntKind.wrap .i64 ((UInt8.toNat c:Nat):Int))=true) qnA c
theorem qvN:∀ (c0:UInt8),∃ n,qrp n c0=qro (z130 c0):=fun c=>⟨0,by
 obtain ⟨_,_,h1,h2⟩:=qDa c
 unfold qrp
 rw [h1,h2,boths]
 rfl⟩
theorem qzj:∀ (b0:List UInt8) (sign1:UInt8) (c2:UInt8),(qur b0 sign1 c2=true)→∃ n,qyD n b0 sign1 c2=qwx (z85 b0 sign1 c2):=fun b sign c h=>⟨0,by
 have hl:=qo h
 unfold qyD z85 qcU z38
 rw [show lenOk b=true from h,Bool.and_true,cond_true,decide_eq_true (by unfold room; simp; omega),cond_true,decide_eq_true (by unfold room z130; simp; omega),cond_true,List.append_assoc]
 rfl⟩
theorem qvO:∀ (b0:List UInt8) (sign1:UInt8) (c2:UInt8),(qlH b0 sign1 c2=true)→∃ n,qsh n b0 sign1 c2=qsg (z137 b0 sign1 c2):=fun b sign c h=>⟨0,by
 have hl:=qo h
 obtain ⟨h1,h2,_,_⟩:=qDa c
 unfold qsh z137
 rw [h1,h2,decide_eq_true (by unfold room; simp; omega),Bool.and_true,cond_true,cond_true,decide_eq_true (by unfold room; simp; omega),cond_true,← qzi c]
 rfl⟩
def okc (c:UInt8):Bool:=(c==13)||(c==10)||(c==9)||(decide (32≤c)&&decide (c≤126))
theorem qcT (l:List UInt8) (i k:Nat):(l.drop i).getD k 0=l.getD (i+k) 0:=by
 simp [List.getD,List.getElem?_drop]
set_option linter.unusedSimpArgs false
theorem qvP:∀ (n0:Int),∃ n,qrG n n0=qfY (z218 n0):=fun c=>⟨0,by
 unfold qrG z218
 cases (c==(2:Int)) <;> cases (c==(3:Int)) <;> cases (c==(4:Int)) <;> rfl⟩
theorem qvQ:∃ n,qwz n  = qry z185:=⟨0,rfl⟩
theorem qvR:∃ n,qwB n  = qrz z186:=⟨0,rfl⟩
theorem qzk {α β:Type} (f:α→β) (t:List α) (z:β) (i:Nat) (h:i < t.length) (d:α) :
 ((t.take i).map f++List.replicate (t.length - i) z).set i (f (t.getD i d))=(t.take (i+1)).map f++List.replicate (t.length - (i+1)) z:=by
 rw [List.set_append_right _ _ (by simp; omega)]
 have h1:((t.take i).map f).length=i:=by simp; omega
 rw [h1,Nat.sub_self,show t.length - i=(t.length - (i+1))+1 by omega,List.replicate_succ,List.set_cons_zero,List.take_succ_eq_append_getElem h,List.map_append,List.append_assoc]
 simp [List.getD,h]
theorem qkK (x:UInt8):IntKind.wrap .i32 ((UInt8.toNat x:Nat):Int)=((UInt8.toNat x:Nat):Int):=IntWalk.i32_in _ (by have:=x.toNat_lt; omega)
theorem qhY {α β:Type} {t:List α} {dv:α} {f:α→List β} {q:α→Bool} {k0:List β→Option AV} {R:Option AV} {L:Nat→List β→Int→Option AV} {b:Nat} (hf:∀ x,(f x).length≤b)
 (hL:∀ (n i:Nat) (out:List β),i < t.length→out.length+b≤room→L (n+1) out (i:Int)=bif q (t.getD i dv) then L n (out++f (t.getD i dv)) ((i+1:Nat):Int) else R) (hE:∀ n out,L (n+1) out ((t.length:Nat):Int)=k0 out) :
 ∀ (d i n:Nat) (out:List β),i+d=t.length→d < n→out.length+b*d≤room→L n out (i:Int)=bif (t.drop i).all q then k0 (out++(t.drop i).flatMap f) else R
 | d,i,0,out,hi,hn,_=>by omega
 | 0,i,n+1,out,hi,hn,_=>by
  obtain rfl:i=t.length:=by omega
  rw [hE,List.drop_eq_nil_of_le (by omega)]
  simp
 | d+1,i,n+1,out,hi,hn,hb=>by
  have hlt:i < t.length:=by omega
  have hx:=hf (t.getD i dv)
  have hb':b*(d+1)=b*d+b:=by rw [Nat.mul_succ]
  have h0:0≤b*d:=Nat.zero_le _
  rw [hL n i out hlt (by omega),qhY (α:=α) (β:=β) hf hL hE d (i+1) n _ (by omega) (by omega) (by rw [List.length_append]; omega),qaa (d:=dv) hlt]
  simp only [List.all_cons,List.flatMap_cons,List.append_assoc]
  cases q (t.getD i dv) <;> rfl
theorem qvS:∀ (charset0:Int),∃ n,qrt n charset0=qcP (z133 charset0):=fun cs=>⟨0,by
 unfold qrt z133
 cases (cs==(1:Int)) <;> cases (cs==(2:Int)) <;> cases (cs==(3:Int)) <;> cases (cs==(4:Int)) <;> cases (cs==(5:Int)) <;> rfl⟩
theorem qzl:∀ (charset0:Int),∃ n,qyR n charset0=qgj (z92 charset0):=fun cs=>⟨0,by
 unfold qyR z92 z133
 cases (cs==(1:Int)) <;> cases (cs==(2:Int)) <;> cases (cs==(3:Int)) <;> cases (cs==(4:Int)) <;> cases (cs==(5:Int)) <;> rfl⟩
theorem qzm:∀ (charset0:Int),∃ n,qyE n charset0=qru (z89 charset0):=fun cs=>⟨0,by
 unfold qyE z89 z133
 cases (cs==(1:Int)) <;> cases (cs==(2:Int)) <;> cases (cs==(3:Int)) <;> cases (cs==(4:Int)) <;> cases (cs==(5:Int)) <;> rfl⟩
theorem qzn:∀ (charset0:Int),∃ n,qyS n charset0=qsi (z51 charset0):=fun cs=>⟨0,by
 unfold qyS z51 z92 z89 z133
 cases (cs==(1:Int)) <;> cases (cs==(2:Int)) <;> cases (cs==(3:Int)) <;> cases (cs==(4:Int)) <;> cases (cs==(5:Int)) <;> rfl⟩
theorem qzo:∀ (n0:Int),∃ n,qyA n n0=qrl (z44 n0):=fun cs=>⟨0,by
 unfold qyA z44
 cases decide ((1:Int)≤cs) <;> rfl⟩
theorem qzp:∀ (n0:Int),∃ n,qyB n n0=qlT (z45 n0):=fun cs=>⟨0,by
 unfold qyB z45
 cases (cs==(1:Int)) <;> cases (cs==(2:Int)) <;> rfl⟩
theorem qkL (cs:Int):(z89 cs).length≤12:=by
 unfold z89 z133
 cases (cs==(1:Int)) <;> cases (cs==(2:Int)) <;> cases (cs==(3:Int)) <;> cases (cs==(4:Int)) <;> cases (cs==(5:Int)) <;> decide
theorem qst (n:Int):(z45 n).length≤1:=by
 unfold z45
 cases (n==(1:Int)) <;> cases (n==(2:Int)) <;> decide
theorem qzq:∀ (charset0:Int) (code1:Int),∃ n,qyF n charset0 code1=qwy (z48 charset0 code1):=fun cs n=>⟨0,by
 unfold qyF z48
 have h1:=qkL cs
 have h2:=qst n
 simp (disch:=(simp; omega)) only [dT,cond_true]⟩
theorem qzr:∀ (charset0:Int),∃ n,qyH n charset0=qjc (z17 charset0):=fun cs=>⟨0,by
 unfold qyH z17 z48
 have h1:=qkL cs
 cases z44 cs with
 | false=>rfl
 | true =>
  show qjc _=qjc _
  congr 1
  rw [show z45 2=[81] from rfl]
  simp only [List.length_append,List.length_cons,List.length_nil]
  have e:∀ k:Nat,k≤100→IntKind.wrap .i64 (IntKind.wrap .i64 ((k:Int)+1)+1)=((k+2:Nat):Int):=fun k hk=>by
   rw [IntWalk.i64_in ((k:Int)+1) (by omega),IntWalk.i64_in _ (by omega)]; omega
  rw [e _ (by omega)]
  simp only [Bool.not_true,cond_false]
  omega⟩
theorem qzs:∀ (charset0:Int),∃ n,qyU n charset0=qmi (z18 charset0):=fun cs=>⟨0,by
 unfold qyU z18 z17 z44
 have h1:=qkL cs
 have e:IntKind.wrap .i64 (7+(((z51 cs).length:Nat):Int))=(((z89 cs).length+7:Nat):Int):=by
  rw [show z51 cs=z89 cs from rfl,IntWalk.i64_in _ (by omega)]; omega
 rw [e,show decide (cs < 1) = !(decide (1≤cs)) by rw [← decide_not]; congr 1; simp,show decide (5 < cs) = !(decide (cs≤5)) by rw [← decide_not]; congr 1; simp]
 cases decide ((1:Int)≤cs) <;> cases decide (cs≤5) <;> rfl⟩
theorem qzt:∀ (c0:UInt8),∃ n,qyC n c0=qlU (z84 c0):=fun c=>⟨0,by
 unfold qyC z84
 cases (c==(32:UInt8)) <;> cases z129 c 128 <;> rfl⟩
theorem qnB (c:UInt8):(z84 c).toNat≤3∧z84 c=((z84 c).toNat:Int):=by
 unfold z84
 cases (c==(32:UInt8)) <;> cases z129 c 128 <;> decide
theorem qmm (k0:Int→Option AV) (s:List UInt8) (hl:s.length≤4194304):∀ (d i n m:Nat),i+d=s.length→d < n→m+3*d≤100000000 →
 qkn k0 n (m:Nat) s ((s.length:Nat):Int) (i:Nat)=k0 ((m+qLen (s.drop i):Nat):Int)
 | d,i,0,m,hi,hn,_=>by omega
 | 0,i,n+1,m,hi,hn,_=>by
  show qef _ _ n _ _ _ _=_
  unfold qef
  rw [dF (by omega),cond_false,List.drop_eq_nil_of_le (by omega)]
  rfl
 | d+1,i,n+1,m,hi,hn,hm=>by
  show qef _ _ n _ _ _ _=_
  unfold qef
  have hlt:i < s.length:=by omega
  have h1:=qnB (s.getD i 0)
  rw [qaa (d:=(0:UInt8)) hlt]
  simp (disch:=omega) only [dT,cond_true,Bool.and_true,tn,qu]
  rw [h1.2,show IntKind.wrap .i64 ((m:Int)+(((z84 (s.getD i 0)).toNat:Nat):Int))=((m+(z84 (s.getD i 0)).toNat:Nat):Int) from by rw [IntWalk.i64_in _ (by omega)]; omega,
   qmm k0 s hl d (i+1) n _ (by omega) (by omega) (by omega)]
  congr 1
  unfold qLen
  simp only [List.map_cons,List.sum_cons]
  omega
theorem qzu:∀ (s0:List UInt8),(qnk s0=true)→∃ n,qvb n s0=qww (z83 s0):=fun s h=>⟨s.length+1,by
 unfold qnk at h
 have hl:s.length≤4194304:=by simpa using h
 unfold qvb
 refine (qmm (qfT (s.length+1)) s hl s.length 0 (s.length+1) 0 (by omega) (by omega) (by omega)).trans ?_
 rw [List.drop_zero,Nat.zero_add]
 rfl⟩
theorem qzv:∀ (c0:UInt8),∃ n,qyQ n c0=qmh (z91 c0):=fun c=>⟨0,by
 unfold qyQ z91
 rw [show qlH ([]:List UInt8) 61 c=true from rfl]
 cases (c==(32:UInt8)) <;> cases z82 c 128 <;> rfl⟩
theorem qfk (c:UInt8):(z91 c).length=(z84 c).toNat:=by
 unfold z91 z84 z137 z82
 cases (c==(32:UInt8)) <;> cases z129 c 128 <;> rfl
theorem qzw:∀ (s0:List UInt8),(qnl s0=true)→∃ n,qvl n s0=qwK (z50 s0):=fun s h=>⟨s.length+1,by
 unfold qnl at h
 have hl:s.length≤4194304:=by simpa using h
 unfold qvl z50
 have:=qhY (t:=s) (dv:=0) (f:=z91) (q:=fun _=>true) (b:=3) (k0:=qet (s.length+1)) (R:=none)
  (L:=fun n out i=>qkE (qet (s.length+1)) n s out i) (fun x=>by rw [qfk]; exact (qnB x).1) (fun n i out hi hb=>by
   show qes _ _ n _ _ _=_
   unfold qes
   have hp:(z91 (s.getD i 0)).length≤3:=by rw [qfk]; exact (qnB _).1
   simp (disch:=omega) only [dT,cond_true,Bool.and_true,tn,qu]) (fun n out=>by
   show qes _ _ n _ _ _=_
   unfold qes
   rw [dF (by omega)]
   rfl) s.length 0 (s.length+1) [] (by omega) (by omega) (by unfold room; simp; omega)
 refine this.trans ?_
 rw [List.drop_zero,List.all_eq_true.2 (fun _ _=>rfl)]
 rfl⟩
theorem qvT:∀ (n0:Int),∃ n,qsd n n0=qcR (z135 n0):=fun n=>⟨0,by
 unfold qsd z135
 generalize Int.tmod (IntKind.wrap .i64 (Int.tmod n 64+64)) 64=k
 show _=qcR (bif decide (k < 26) then _ else _)
 cases decide (k < 26) <;> cases decide (k < 52) <;> cases decide (k < 62) <;> cases (k==62) <;> rfl⟩
theorem qgN (k0:Int→Option AV) (l:List Int) (hl:l.length≤1048576):∀ (d i n:Nat) (m:Int),i+d=l.length→d < n →
 qgh k0 n l m (i:Nat)=k0 ((l.drop i).foldl (fun n b=>IntKind.wrap .i64 (IntKind.wrap .i64 (2*n)+b)) m)
 | d,i,0,m,hi,hn=>by omega
 | 0,i,n+1,m,hi,hn=>by
  show qcq _ _ n _ _ _=_
  unfold qcq
  rw [dF (by omega),cond_false,List.drop_eq_nil_of_le (by omega)]
  rfl
 | d+1,i,n+1,m,hi,hn=>by
  show qcq _ _ n _ _ _=_
  unfold qcq
  have hlt:i < l.length:=by omega
  rw [qaa (d:=(0:Int)) hlt]
  simp (disch:=omega) only [dT,cond_true,Bool.and_true,tn,qu]
  rw [qgN k0 l hl d (i+1) n _ (by omega) (by omega)]
  rfl
theorem qvU:∀ (l0:List Int),(qgA l0=true)→∃ n,qmg n l0=qse (z136 l0):=fun l h=>⟨l.length+1,by
 unfold qgA at h
 have hl:l.length≤1048576:=by simpa using h
 unfold qmg z136
 refine (qgN (qdG (l.length+1)) l hl l.length 0 (l.length+1) 0 (by omega) (by omega)).trans ?_
 rw [List.drop_zero]
 rfl⟩
theorem qsu (k2:List UInt8→List Int→Int→Option AV) (s:List UInt8) (i:Nat) (hi:i < s.length) (n:Nat) (hn:8 < n) (out:List Int) (hb:out.length+8≤room) :
 qdD k2 n s out (i:Nat) 7=k2 s (out++qbX (s.getD i 0)) (i:Nat):=by
 obtain ⟨m,rfl⟩:∃ m,n=m+9:=⟨n - 9,by omega⟩
 have step:∀ (n k:Nat) (out:List Int),k≤7→out.length+1≤room→qdD k2 (n+1) s out (i:Nat) ((k:Nat):Int)=qdD k2 n s (out++[bit8 (s.getD i 0) k]) (i:Nat) ((k:Int) - 1):=fun n k out hk hr=>by
  show qcp _ _ n _ _ _ _=_
  unfold qcp bit8
  simp (disch:=(first | omega | (simp; omega))) only [dT,cond_true,Bool.and_true,tn]
  rw [IntWalk.i64_in ((k:Int) - 1) (by omega)]
 rw [show (7:Int)=((7:Nat):Int) from rfl,step _ 7 _ (by omega) (by omega),show (((7:Nat):Int) - 1)=((6:Nat):Int) from rfl,
  step _ 6 _ (by omega) (by simp; omega),show (((6:Nat):Int) - 1)=((5:Nat):Int) from rfl,step _ 5 _ (by omega) (by simp; omega),show (((5:Nat):Int) - 1)=((4:Nat):Int) from rfl,
  step _ 4 _ (by omega) (by simp; omega),show (((4:Nat):Int) - 1)=((3:Nat):Int) from rfl,step _ 3 _ (by omega) (by simp; omega),show (((3:Nat):Int) - 1)=((2:Nat):Int) from rfl,
  step _ 2 _ (by omega) (by simp; omega),show (((2:Nat):Int) - 1)=((1:Nat):Int) from rfl,step _ 1 _ (by omega) (by simp; omega),show (((1:Nat):Int) - 1)=((0:Nat):Int) from rfl,
  step _ 0 _ (by omega) (by simp; omega)]
 show qcp _ _ m _ _ _ _=_
 unfold qcp
 rw [show decide ((0:Int)≤((0:Nat):Int) - 1)=false from rfl,cond_false]
 simp only [List.append_assoc]
 rfl
theorem qmn (k0:List Int→Option AV) (s:List UInt8) (hl:s.length≤4194304):∀ (d i n:Nat) (out:List Int),i+d=s.length→d+9 < n→out.length+8*d≤room →
 qgg k0 n s out (i:Nat)=k0 (out++(s.drop i).flatMap qbX)
 | d,i,0,out,hi,hn,_=>by omega
 | 0,i,n+1,out,hi,hn,_=>by
  show qbz _ _ n _ _ _=_
  unfold qbz
  rw [dF (by omega),cond_false,List.drop_eq_nil_of_le (by omega)]
  simp
 | d+1,i,n+1,out,hi,hn,hb=>by
  show qbz _ _ n _ _ _=_
  unfold qbz
  have hlt:i < s.length:=by omega
  rw [dT (by omega),cond_true,qsu _ s i hlt n (by omega) out (by omega)]
  unfold qdE
  rw [qu (by omega),qmn k0 s hl d (i+1) n _ (by omega) (by omega) (by rw [List.length_append]; simp [qbX]; omega),qaa (d:=(0:UInt8)) hlt,List.flatMap_cons,List.append_assoc]
theorem qvV:∀ (s0:List UInt8),(qiQ s0=true)→∃ n,qmf n s0=qsc (z134 s0):=fun s h=>⟨s.length+10,by
 unfold qiQ at h
 have hl:s.length≤4194304:=by simpa using h
 unfold qmf z134
 refine (qmn (qdF (s.length+10)) s hl s.length 0 (s.length+10) [] (by omega) (by omega) (by unfold room; simp; omega)).trans ?_
 rw [List.drop_zero]
 rfl⟩
theorem qkM {α:Type} {m:Nat} (hm:0 < m) (hm2:m≤100) {x:α} {k0:List α→Option AV} {L:Nat→List α→Option AV}
 (hL:∀ (n:Nat) (l:List α),l.length+1≤room→L (n+1) l=bif Int.tmod ((l.length:Nat):Int) (m:Int) != 0 then L n (l++[x]) else k0 l) :
 ∀ (d n:Nat) (l:List α),qR l.length m=d→d < n→l.length+d+1≤room→L n l=k0 (l++List.replicate d x)
 | d,0,l,_,hn,_=>by omega
 | d,n+1,l,hd,hn,hr=>by
  have hlt:l.length % m < m:=Nat.mod_lt _ hm
  have hdm:d < m:=by rw [← hd]; exact Nat.mod_lt _ hm
  rw [hL n l (by omega),show Int.tmod ((l.length:Nat):Int) (m:Int)=((l.length % m:Nat):Int) from rfl]
  unfold qR at hd
  by_cases h0:l.length % m=0
  ·rw [h0,Nat.sub_zero,Nat.mod_self] at hd
   subst hd
   rw [h0]
   simp
  ·rw [Nat.mod_eq_of_lt (by omega)] at hd
   have h1:(((l.length % m:Nat):Int) != 0)=true:=bneT (by omega)
   rw [h1,cond_true]
   obtain ⟨e,rfl⟩:∃ e,d=e+1:=⟨d - 1,by omega⟩
   have h2:qR (l++[x]).length m=e:=by
    unfold qR
    rw [List.length_append,List.length_singleton,Nat.add_mod]
    by_cases hm1:m=1
    ·subst hm1; omega
    ·rw [Nat.mod_eq_of_lt (show 1 < m by omega)]
     by_cases h3:l.length % m+1=m
     ·rw [h3,Nat.mod_self,Nat.sub_zero,Nat.mod_self]; omega
     ·rw [Nat.mod_eq_of_lt (show l.length % m+1 < m by omega),Nat.mod_eq_of_lt (by omega)]; omega
   rw [qkM hm hm2 hL e n (l++[x]) h2 (by omega) (by rw [List.length_append,List.length_singleton]; omega),List.append_assoc]
   rfl
theorem qsv {m n:Nat} (hm:0 < m):(n+qR n m) % m=0∧qR n m < m:=by
 unfold qR
 have h:=Nat.mod_lt n hm
 refine ⟨?_,Nat.mod_lt _ hm⟩
 by_cases h0:n % m=0
 ·rw [h0,Nat.sub_zero,Nat.mod_self,Nat.add_zero,h0]
 ·rw [Nat.mod_eq_of_lt (show m - n % m < m by omega),Nat.add_mod,Nat.mod_eq_of_lt (show m - n % m < m by omega),show n % m+(m - n % m)=m by omega,Nat.mod_self]
theorem qkN:∀ s:List UInt8,(z134 s).length=8*s.length
 | []=>rfl
 | c :: r=>by
  have h:=qkN r
  unfold z134 at h ⊢
  rw [List.flatMap_cons,List.length_append,h]
  simp only [qbX,List.length_cons,List.length_nil]
  omega
theorem qmo:∀ (n:Nat) (l:List Int),(sixes n l).length=n
 | 0,_=>rfl
 | n+1,l=>by
  unfold sixes
  rw [List.length_cons,qmo n]
theorem qmp (k2:List UInt8→Option AV) (l:List Int) (k:Nat) (hk:l.length=6*k) (hl:l.length≤100000000):∀ (d i n:Nat) (out:List UInt8),i+d=k→d < n→out.length+d≤room →
 qkB k2 n l out ((6*i:Nat):Int)=k2 (out++sixes d (l.drop (6*i)))
 | d,i,0,out,hi,hn,_=>by omega
 | 0,i,n+1,out,hi,hn,_=>by
  show qep _ _ n _ _ _=_
  unfold qep
  rw [dF (by omega),cond_false]
  unfold sixes
  rw [List.append_nil]
 | d+1,i,n+1,out,hi,hn,hb=>by
  show qep _ _ n _ _ _=_
  unfold qep
  have e6:IntKind.wrap .i64 (((6*i:Nat):Int)+6)=((6*(i+1):Nat):Int):=by rw [IntWalk.i64_in _ (by omega)]; omega
  rw [e6]
  have ed:List.drop (6*i) (List.take (6*(i+1)) l)=(l.drop (6*i)).take 6:=by
   rw [List.drop_take,show 6*(i+1) - 6*i=6 by omega]
  simp (disch:=(first | omega | (simp; omega))) only [dT,cond_true,Bool.and_true,tn]
  rw [ed,show qgA ((l.drop (6*i)).take 6)=true from by unfold qgA; rw [dT]; rw [List.length_take]; omega,cond_true,
   qmp k2 l k hk hl d (i+1) n _ (by omega) (by omega) (by simp; omega),List.append_assoc]
  show _=k2 (out++(z135 (z136 ((l.drop (6*i)).take 6)) :: sixes d ((l.drop (6*i)).drop 6)))
  rw [List.drop_drop]
  rfl
theorem qzx:∀ (s0:List UInt8),(qqL s0=true)→∃ n,qvj n s0=qwH (z90 s0):=fun s h=>⟨(padTo 6 0 (z134 s)).length / 6+20,by
 have h':=h
 unfold qqL at h
 have hl:s.length≤4194304:=by simpa using h
 have hb:=qkN s
 have hp:=qsv (m:=6) (n:=(z134 s).length) (by omega)
 unfold qvj z90
 rw [show qiQ s=true from h',Bool.true_and,cond_true]
 generalize hN:(padTo 6 0 (z134 s)).length / 6+20=N
 have hpl:(padTo 6 0 (z134 s)).length=(z134 s).length+qR (z134 s).length 6:=by unfold padTo; simp
 refine (qkM (m:=6) (x:=(0:Int)) (k0:=qbA N) (L:=fun n l=>qkA (qbA N) n l) (by omega) (by omega) (fun n l hr=>?_) _ N (z134 s) rfl (by omega) (by unfold room; omega)).trans ?_
 ·show qhW _ _ n _=_
  unfold qhW
  rw [dT (show l.length+([(0:Int)]:List Int).length≤room by simp; omega)]
  rfl
 ·show qbA N (padTo 6 0 (z134 s))=_
  unfold qbA
  refine (qmp (qgi N) (padTo 6 0 (z134 s)) ((padTo 6 0 (z134 s)).length / 6) (by omega) (by omega) ((padTo 6 0 (z134 s)).length / 6) 0 N [] (by omega) (by omega) (by unfold room; simp; omega)).trans ?_
  rfl⟩
theorem qzy (s:List UInt8):(z90 s).length=(8*s.length+qR (8*s.length) 6) / 6:=by
 unfold z90
 rw [qmo]
 unfold padTo
 rw [List.length_append,List.length_replicate,qkN]
theorem qzz:∀ (s0:List UInt8),(qnm s0=true)→∃ n,qvk n s0=qwI (z49 s0):=fun s h=>⟨20,by
 have h':=h
 unfold qnm at h
 have hl:s.length≤4194304:=by simpa using h
 have hb:=qzy s
 have hp:=qsv (m:=6) (n:=8*s.length) (by omega)
 have hq:=qsv (m:=4) (n:=(z90 s).length) (by omega)
 unfold qvk z49
 rw [show qqL s=true from h',Bool.true_and,cond_true]
 refine (qkM (m:=4) (x:=(61:UInt8)) (k0:=qeq 20) (L:=fun n l=>qkC (qeq 20) n l) (by omega) (by omega) (fun n l hr=>?_) _ 20 (z90 s) rfl (by omega) (by unfold room; omega)).trans ?_
 ·show qhX _ _ n _=_
  unfold qhX
  rw [dT (show l.length+([(61:UInt8)]:List UInt8).length≤room by simp; omega)]
  rfl
 ·rfl⟩
end Go.Av
