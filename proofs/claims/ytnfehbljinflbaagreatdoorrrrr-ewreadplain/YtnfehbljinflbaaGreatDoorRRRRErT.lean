import Derived.Test.YtnfehbljinflbaaGreatDoorRRRRErSh
import Derived.Test.YtnfehbljinflbaaGreatDoorRRRRErL
import Derived.Test.YtnfehbljinflbaaGreatDoorRRRRAvE
import Derived.Lib.IndexAny
import Derived.Lib.IndexMore
import Derived.Lib.IndexBytes
import Derived.IntWalk
import Derived.KernelRfl
namespace Go.Av
set_option linter.unusedVariables false
theorem qzL {α:Type} [DecidableEq α] {a b:List α} {i:Nat} (ha:i < a.length) (hb:i < b.length) (d:α):decide (a.drop i=b.drop i)=bif a.getD i d != b.getD i d then false else decide (a.drop (i+1)=b.drop (i+1)):=by
 rw [qax (d:=d) ha,qax (d:=d) hb];generalize a.getD i d=x;generalize b.getD i d=y
 by_cases h:x=y
 ·subst h; simp
 ·simp [h]
theorem qmz (c:UInt8):decide (((UInt8.toNat c:Nat):Int) < (256:Nat))=true:=by
 have:=c.toNat_lt;rw [yo];omega
theorem qcF (ret:List Bool→Bool→Option AV) (k0:List Bool→Option AV) (cs:List UInt8) (ha:ascii cs=true) (hl:cs.length≤1048576):∀ (d i n:Nat) (a:List Bool),i+d=cs.length→d < n →
 qeF ret k0 n cs a (i:Nat)=k0 (setOf (cs.drop i) a)
 | d,i,0,a,hi,hn=>by omega
 | 0,i,n+1,a,hi,hn=>by
  show qdt ret k0 (qeF ret k0 n) n cs a _=_;unfold qdt;rw [yx (by omega),yd,yA (by omega)];rfl
 | d+1,i,n+1,a,hi,hn=>by
  show qdt ret k0 (qeF ret k0 n) n cs a _=_;unfold qdt;have hlt:i < cs.length:=by omega
  have hc:decide ((128:UInt8)≤List.getD cs i 0)=false:=by
   unfold ascii at ha;rw [List.all_eq_true] at ha;have:=ha (cs.getD i 0) (by simp [List.getD,hlt]);rw [decide_eq_false_iff_not];simp only [ym] at this;exact UInt8.not_le.2 this
  rw [qqU,yo hlt,yc,qaK,y5,yc,qba,hc,yd,qaK,qmz,y5,yc,qz (by omega),
   qcF ret k0 cs ha hl d (i+1) n _ (by omega) (by omega),qax (d:=0) hlt]
  rfl
theorem qzM:∀ (chars0:List UInt8),(qbM chars0=true)→∃ n,qvT n chars0=qhH (z147 chars0).1 (z147 chars0).2:=fun cs h=>⟨cs.length+1,by
 unfold qbM at h;rw [yf] at h;exact qcF qhH (qeG (cs.length+1)) cs h.1 (qg h.2) cs.length 0 (cs.length+1) _ (by omega) (by omega)⟩
theorem qzN:∀ (as0:List Bool) (c1:UInt8),∃ n,qvV n as0 c1=qvU (z153 as0 c1):=fun as c=>⟨0,by
 unfold qvV;rw [qaK,qmz];rfl⟩
theorem qDK:∀ (c0:UInt8),∃ n,qDi n c0=qj (z97 c0):=fun c=>⟨0,by
 unfold qDi qeA qag z97 qqN orI;cases decide (c < (32:UInt8)) <;> cases (c==(127:UInt8)) <;> cases (c==(32:UInt8)) <;> cases (c==(9:UInt8)) <;> cases decide ((48:UInt8)≤c) <;> cases decide (c≤(57:UInt8)) <;> cases decide ((65:UInt8)≤c) <;> cases decide (c≤(90:UInt8)) <;> cases decide ((97:UInt8)≤c) <;> cases decide (c≤(122:UInt8)) <;> rfl⟩
theorem qzO:∀ (s0:List UInt8) (c1:UInt8),∃ n,qBk n s0 c1=qvL (z145 s0 c1):=fun _ _=>⟨0,rfl⟩
theorem qzP:∀ (s0:List UInt8) (c1:UInt8),∃ n,qBl n s0 c1=qvM (z126 s0 c1):=fun _ _=>⟨0,rfl⟩
theorem qDL:∀ (s0:List UInt8) (c1:UInt8),∃ n,qHW n s0 c1=qBm (z98 s0 c1):=fun _ _=>⟨0,rfl⟩
theorem qDM:∀ (c0:UInt8),∃ n,qDj n c0=qbs (z58 c0):=fun c=>⟨0,by
 unfold qDj qcq qeB qbG z58 qAU orI;cases decide (c < (33:UInt8)) <;> cases decide ((126:UInt8) < c) <;> cases z98 [33,42,43,45,47] c <;> cases z98 [43,47] c <;> cases z98 [40,41,60,62,64,44,59,58,92,34,47,91,93,63,61] c <;> cases z98 [42,39,37] c <;> rfl⟩
theorem qDN:∀ (c0:UInt8) (kinds1:Int),∃ n,qHX n c0 kinds1=qBn (z36 c0 kinds1):=fun _ _=>⟨0,rfl⟩
theorem qfJ (c:UInt8):c.toNat < 256:=c.toNat_lt
theorem qwT (cs:List UInt8) (x:UInt8):∀ (a:List Bool),a.length=256→(setOf cs a).getD x.toNat false=(cs.contains x||a.getD x.toNat false):=by
 induction cs with
 | nil=>intro a _; simp [setOf]
 | cons c cs ih =>
  intro a hl;show (setOf cs (List.set a c.toNat true)).getD x.toNat false=_;rw [ih _ (by simpa using hl)];have hx:=qfJ x;have hc:=qfJ c
  by_cases e:c=x
  ·subst e;have:(List.set a c.toNat true).getD c.toNat false=true:=by simp [List.getD,hl,hc]
   rw [this];simp
  ·have hne:c.toNat≠x.toNat:=fun h=>e (UInt8.toNat_inj.1 h);have:(List.set a c.toNat true).getD x.toNat false=a.getD x.toNat false:=by simp [List.getD,List.getElem?_set_ne hne]
   rw [this];have hb:¬ x=c:=fun h=>e h.symm;simp [hb]
theorem dT {p:Prop} [Decidable p] (h:p):decide p=true:=yo h
theorem dF {p:Prop} [Decidable p] (h:¬ p):decide p=false:=yx h
theorem wr {x:Int} (h : -9223372036854775808≤x∧x≤9223372036854775807):IntKind.wrap .i64 x=x:=IntWalk.i64_in x h
theorem tn (i:Nat):Int.toNat (i:Int)=i:=Int.toNat_natCast i
theorem bneI {a b:Int} (h:a≠b):(a==b)=false:=by simp [h]
theorem qo {α:Type} {l:List α} (h:l.length≤1048576):lenOk l=true:=by unfold lenOk; rw [ym]; exact h
theorem qwU (p:UInt8→Bool) (t:List UInt8) (x:UInt8):dropR p (t++[x])=bif p x then dropR p t else t++[x]:=by
 unfold dropR;rw [List.reverse_append,List.reverse_singleton,List.singleton_append,List.dropWhile_cons];cases p x <;> simp
theorem qdY (p:UInt8→Bool):∀ s:List UInt8,(s.dropWhile p).length≤s.length
 | []=>by simp
 | c :: s=>by
  rw [List.dropWhile_cons];split
  ·have:=qdY p s; simp only [yg]; omega
  ·exact yv _
theorem qwV (p:UInt8→Bool) (s:List UInt8):(dropR p s).length≤s.length:=by
 have:=qdY p s.reverse;unfold dropR;simpa using this
theorem qqA (p:UInt8→Bool) (s:List UInt8):(qmR p s).length≤s.length:=yL (qdY p _) (qwV p s)
theorem qzQ:∀ (s0:List UInt8) (c1:UInt8),(qqO s0 c1=true)→∃ n,qvS n s0 c1=qop (z146 s0 c1):=fun _ _ h=>by cases h
theorem qzR:∀ (s0:List UInt8) (c1:UInt8),(qxw s0 c1=true)→∃ n,qvX n s0 c1=qvW (z156 s0 c1):=fun _ _ h=>by cases h
theorem qmA (k0:List UInt8→Option AV) (as:List Bool):∀ (d:Nat) (s:List UInt8) (n:Nat),s.length=d→d < n→s.length≤1048576 →
 qfG k0 n s as=k0 (z157 s as)
 | d,s,0,hd,hn,hl=>by omega
 | d,s,n+1,hd,hn,hl=>by
  show qgt k0 (qfG k0 n) n s as=_;unfold qgt qan z157;rcases List.eq_nil_or_concat s with rfl | ⟨t,x,rfl⟩
  ·rfl
  ·rw [List.concat_eq_append] at *
   have hlen:(t++[x]).length=t.length+1:=by simp
   have ih:=qmA k0 as t.length t n rfl (by omega) (by omega);have hg:(t++[x]).getD (Int.toNat (((t++[x]).length:Int) - 1)) 0=x:=by
    rw [show Int.toNat (((t++[x]).length:Int) - 1)=t.length by omega]; simp
   have ht:List.take (Int.toNat (((t++[x]).length:Int) - 1)) (t++[x])=t:=by
    rw [show Int.toNat (((t++[x]).length:Int) - 1)=t.length by omega]; simp
   simp (disch:=omega) only [wr,dT,yc,yi,hg,ht,qwU];cases z153 as x with
   | true=>simpa [z157] using ih
   | false=>rfl
theorem qzS:∀ (s0:List UInt8) (as1:List Bool),(qmS s0 as1=true)→∃ n,qqm n s0 as1=qvY (z157 s0 as1):=fun s as h=>⟨s.length+1,by
 unfold qqm;rw [qmA _ as s.length s _ rfl (by omega) (qg h)];rfl⟩
theorem qmB (k0:List UInt8→Option AV) (as:List Bool):∀ (d:Nat) (s:List UInt8) (n:Nat),s.length=d→d < n→s.length≤1048576 →
 qfF k0 n s as=k0 (z148 s as)
 | d,s,0,hd,hn,hl=>by omega
 | d,[],n+1,hd,hn,hl=>rfl
 | d,x :: s,n+1,hd,hn,hl=>by
  show qgr k0 (qfF k0 n) n (x :: s) as=_;unfold qgr z148;have hlen:(x :: s).length=s.length+1:=rfl;have ih:=qmB k0 as s.length s n rfl (by omega) (by omega);have hg:(x :: s).getD (Int.toNat 0) 0=x:=rfl;have ht:List.drop (Int.toNat 1) (List.take (Int.toNat ((x :: s).length:Int)) (x :: s))=s:=by
   rw [tn,List.take_length]; rfl
  simp (disch:=omega) only [dT,yc,yi,hg,ht,List.dropWhile_cons];cases z153 as x with
  | true=>simpa [z148] using ih
  | false=>rfl
theorem qzT:∀ (s0:List UInt8) (as1:List Bool),(qfO s0 as1=true)→∃ n,qqk n s0 as1=qoq (z148 s0 as1):=fun s as h=>⟨s.length+1,by
 unfold qqk;rw [qmB _ as s.length s _ rfl (by omega) (qg h)];unfold qeH;cases hc:z148 s as with
 | nil=>rfl
 | cons x r=>rfl⟩
theorem qie (cs:List UInt8) (c:UInt8):z153 (z147 cs).1 c=cs.contains c:=by
 have:=qwT cs c (List.replicate 256 false) List.length_replicate;unfold z153 z147;have hc:c.toNat < 256:=c.toNat_lt;rw [this,yY,List.getElem?_replicate,if_pos hc];exact Bool.or_false _
theorem qIa (cs s:List UInt8):z148 (z157 s (z147 cs).1) (z147 cs).1=z129 s cs:=by
 unfold z148 z157 z129 qmR;have e:(fun c=>z153 (z147 cs).1 c)=fun c=>cs.contains c:=funext fun c=>qie cs c;rw [e]
theorem qzU:∀ (s0:List UInt8) (cutset1:List UInt8),(qeR s0 cutset1=true)→∃ n,qvZ n s0 cutset1=qcU (z129 s0 cutset1):=fun s cs h=>⟨0,by
 unfold qeR at h;simp only [yf,ym] at h;obtain ⟨h1,h2,h3,h4⟩:=h;have hls:=qg h1;unfold qvZ qeI qbt;cases s with
 | nil=>rfl
 | cons x r =>
  have hcs:(cs==([]:List UInt8))=false:=by cases cs with
   | nil=>simp at h2
   | cons a b=>rfl
  have hlen:(x :: r).length=r.length+1:=rfl;have hm:qbM cs=true:=by unfold qbM; rw [h3,h4]; rfl
  have hr:qfO (z157 (x :: r) (z147 cs).1) (z147 cs).1=true:=qo (yL (qwV _ _) hls);rw [bneI (by omega),hcs,bneI (by omega),hm,show (z147 cs).2=true from rfl,show qmS (x :: r) (z147 cs).1=true from h1,hr,qIa];rfl⟩
theorem qzV:∀ (c0:UInt8),∃ n,qvK n c0=qkR (z118 c0):=fun c=>⟨0,by
 unfold qvK z118;cases decide ((65:UInt8)≤c) <;> cases decide (c≤(90:UInt8)) <;> rfl⟩
theorem qIb (f:UInt8→UInt8) (s:List UInt8) (i:Nat) (h:i < s.length):List.set (s.take i |>.map f |> fun l=>l++s.drop i) i (f (s.getD i 0))=(s.take (i+1)).map f++s.drop (i+1):=by
 have hg:=qax (d:=(0:UInt8)) h;have hl:((s.take i).map f).length=i:=by simp; omega
 rw [hg,List.set_append_right _ _ (by omega),hl,Nat.sub_self,List.set_cons_zero];rw [show s.take (i+1)=s.take i++[s.getD i 0] by
  rw [List.take_add_one]; simp [List.getD,h]]
 simp
theorem qqB (k0:List UInt8→Option AV) (s:List UInt8) (hl:s.length≤1048576):∀ (d i n:Nat),i+d=s.length→d < n →
 qkS k0 n ((s.take i).map z118++s.drop i) (s.length:Nat) (i:Nat)=k0 (s.map z118)
 | d,i,0,hi,hn=>by omega
 | 0,i,n+1,hi,hn=>by
  show qfo k0 (qkS k0 n) n _ _ _=_;unfold qfo;rw [dF (by omega),yd,show i=s.length by omega,List.take_length,List.drop_length,yG]
 | d+1,i,n+1,hi,hn=>by
  show qfo k0 (qkS k0 n) n _ _ _=_;unfold qfo;have hlt:i < s.length:=by omega
  have ih:=qqB k0 s hl d (i+1) n (by omega) (by omega);have hlen:((s.take i).map z118++s.drop i).length=s.length:=by simp; omega
  have hg:((s.take i).map z118++s.drop i).getD i 0=s.getD i 0:=by
   rw [qax (d:=(0:UInt8)) hlt];simp [List.getD,Nat.min_eq_left (Nat.le_of_lt hlt)]
  have hs:=qIb z118 s i hlt;simp only at hs;simp (disch:=omega) only [dT,yc,yi,tn,qz,hlen,hg];rw [hs];exact ih
theorem qDO:∀ (s0:List UInt8),(qsC s0=true)→∃ n,qzG n s0=qBj (z87 s0):=fun s h=>⟨s.length+1,by
 unfold qzG;rw [show qga s=true from h,show z83 s=s from rfl];exact qqB (qhG (s.length+1)) s (qg h) s.length 0 (s.length+1) (by omega) (by omega)⟩
theorem qif (k0:Int→Option AV) (s:List UInt8) (k:Int) (hl:s.length≤1048576):∀ (d i n m:Nat),i+d=s.length→d < n→m+d≤1048576 →
 qeC k0 n k (m:Nat) s (s.length:Nat) (i:Nat)=k0 ((m+(s.drop i).countP (fun c=>z36 c k):Nat):Int)
 | d,i,0,m,hi,hn,hm=>by omega
 | 0,i,n+1,m,hi,hn,hm=>by
  show qds k0 (qeC k0 n) n _ _ _ _ _=_;unfold qds;rw [dF (by omega),yd,yA (by omega)];rfl
 | d+1,i,n+1,m,hi,hn,hm=>by
  show qds k0 (qeC k0 n) n _ _ _ _ _=_;unfold qds;have hlt:i < s.length:=by omega
  have ih:=qif k0 s k hl d (i+1) n m (by omega) (by omega) (by omega);have ih2:=qif k0 s k hl d (i+1) n (m+1) (by omega) (by omega) (by omega);rw [qax (d:=(0:UInt8)) hlt,List.countP_cons];simp (disch:=omega) only [dT,yc,yi,tn,qz];cases z36 (s.getD i 0) k with
  | true=>rw [yc,ih2]; congr 2; simp; omega
  | false=>rw [yd,ih]; congr 2
theorem qzW:∀ (s0:List UInt8) (kinds1:Int),(qqP s0 kinds1=true)→∃ n,qqi n s0 kinds1=qvN (z122 s0 kinds1):=fun s k h=>⟨s.length+1,by
 have hl:=qg h;unfold qqi;have:=qif (qeD (s.length+1)) s k hl s.length 0 (s.length+1) 0 (by omega) (by omega) (by omega);refine Eq.trans this ?_;rw [yE,yw];rfl⟩
theorem qwW (p:UInt8→Bool) (s:List UInt8):(((s.countP p:Nat):Int)==((s.length:Nat):Int))=s.all p:=by
 rw [Bool.eq_iff_iff];simp only [beq_iff_eq,List.all_eq_true];have:=List.countP_eq_length (p:=p) (l:=s);constructor
 ·intro h; exact this.1 (by omega)
 ·intro h; have:=this.2 h; omega
theorem qDP:∀ (s0:List UInt8) (kinds1:Int),(qsD s0 kinds1=true)→∃ n,qDk n s0 kinds1=qvO (z90 s0 kinds1):=fun s k h=>⟨0,by
 unfold qDk;rw [show qqP s k=true from h];show qvO (z122 s k==((s.length:Nat):Int))=_;unfold z122;rw [qwW];rfl⟩
theorem qzX:(fun c:UInt8=>([32,9]:List UInt8).contains c)=blank:=by
 funext c;unfold blank;simp only [List.contains_cons,List.contains_nil,Bool.or_false]
theorem bneT {a b:Int} (h:a≠b):(a != b)=true:=by simp [bne,h]
theorem bneF {a b:Int} (h:a=b):(a != b)=false:=by simp [h]
theorem qJQ {P:UInt8→Prop} (h:∀ i:Fin 256,P (UInt8.ofNat i.val)) (c:UInt8):P c:=by
 have:=h ⟨c.toNat,c.toNat_lt⟩;simpa using this
theorem qBB {s:List UInt8} (h:s.length=1):∃ c,s=[c]:=List.length_eq_one_iff.1 h
theorem qzY:∀ (s0:List UInt8) (sep1:List UInt8),(qjc s0 sep1=true)→∃ n,qvJ n s0 sep1=qhE (z142 s0 sep1):=fun s sep h=>⟨0,by
 unfold qjc at h;simp only [yf,ym] at h;obtain ⟨c,rfl⟩:=qBB h.2;rfl⟩
theorem qgE (c:UInt8) (cur:List UInt8) (x:UInt8) (r:List UInt8):cutC c cur (x :: r)=bif x==c then cur :: cutC c [] r else cutC c (cur++[x]) r:=rfl
theorem qqC (c:UInt8):∀ (s cur:List UInt8),c ∉ s→cutC c cur s=[cur++s]
 | [],cur,_=>by rw [yG]; rfl
 | x :: r,cur,h=>by
  have hx:(x==c)=false:=beq_eq_false_iff_ne.2 (fun e=>h (by rw [e]; exact List.mem_cons_self ..));rw [qgE,hx,yd,qqC c r _ (fun hm=>h (List.mem_cons_of_mem _ hm)),yl];rfl
theorem qBC (c:UInt8) (r:List UInt8):∀ (x cur:List UInt8),c ∉ x→cutC c cur (x++c :: r)=(cur++x) :: cutC c [] r
 | [],cur,_=>by
  show cutC c cur (c :: r)=_;rw [qgE,beq_self_eq_true,yc,yG]
 | y :: x,cur,h=>by
  have hx:(y==c)=false:=beq_eq_false_iff_ne.2 (fun e=>h (by rw [e]; exact List.mem_cons_self ..));show cutC c cur (y :: (x++c :: r))=_;rw [qgE,hx,yd,qBC c r x _ (fun hm=>h (List.mem_cons_of_mem _ hm)),yl];rfl
theorem qig (c:UInt8) (r:List UInt8):∀ (x:List UInt8),c ∉ x→Lib.indexByte (x++c :: r) c=(x.length:Int)
 | [],_=>by simp [Lib.indexByte]
 | y :: x,h=>by
  have hx:(y==c)=false:=beq_eq_false_iff_ne.2 (fun e=>h (by rw [e]; exact List.mem_cons_self ..));have ih:=qig c r x (fun hm=>h (List.mem_cons_of_mem _ hm));show Lib.indexByte (y :: (x++c :: r)) c=_;unfold Lib.indexByte;rw [ih,hx];have e:((x.length:Int) == -1)=false:=by simp
  simp [e]
theorem qwX (m:Nat) (c:UInt8) (N:Nat) (hN:N≤1048576):∀ (d:Nat) (s:List UInt8) (done:List (List UInt8)) (n:Nat),s.count c=d→d < n→done.length+d=N→s.length≤1048576 →
 qbQ (qad m) n s [c] 0 (N:Nat) (done++List.replicate (d+1) []) (done.length:Nat)=qhF (done++cutC c [] s)
 | d,s,done,0,_,hn,_,_=>by omega
 | 0,s,done,n+1,hc,hn,hd,hs=>by
  show qbX (qad m) (qbQ (qad m) n) n _ _ _ _ _ _=_;unfold qbX;have hmem:c ∉ s:=List.count_eq_zero.1 hc;rw [dF (by omega),yd];unfold qad;have hset:List.set (done++List.replicate (0+1) ([]:List UInt8)) done.length s=done++[s]:=by
   rw [List.set_append_right _ _ (yv _),Nat.sub_self];rfl
  have hlen:(done++List.replicate (0+1) ([]:List UInt8)).length=done.length+1:=by simp
  rw [tn,hset,hlen,qz (by omega)];have hl2:(done++[s]).length=done.length+1:=by simp
  rw [hl2];simp (disch:=omega) only [dT,yc,yi,tn];rw [yw,List.take_of_length_le (by omega),qqC c s [] hmem];rfl
 | d+1,s,done,n+1,hc,hn,hd,hs=>by
  show qbX (qad m) (qbQ (qad m) n) n _ _ _ _ _ _=_;unfold qbX;have hmem:c∈s:=List.count_pos_iff.1 (by omega);obtain ⟨x,r,rfl,hx⟩:=List.eq_append_cons_of_mem hmem;have hi:z57 (x++c :: r) [c]=(x.length:Int):=by
   unfold z57;rw [Lib.index_one,qig c r x hx]
  have hlen:(x++c :: r).length=x.length+(r.length+1):=by simp
  have hok:qmP (x++c :: r) [c]=true:=by
   unfold qmP;rw [qo hs];rfl
  have hcr:r.count c=d:=by
   rw [List.count_append,List.count_eq_zero.2 hx,List.count_cons_self] at hc;omega
  have hdl:(done++List.replicate (d+1+1) ([]:List UInt8)).length=done.length+(d+2):=by simp
  have hset:List.set (done++List.replicate (d+1+1) ([]:List UInt8)) done.length x=(done++[x])++List.replicate (d+1) []:=by
   rw [List.set_append_right _ _ (yv _),Nat.sub_self,yl];rfl
  have h1:(([c]:List UInt8).length:Nat)=1:=rfl;have hw:IntKind.wrap .i64 ((x.length:Int)+0)=(x.length:Int):=by rw [wr (by omega)]; omega
  have hw2:IntKind.wrap .i64 ((x.length:Int)+((1:Nat):Int))=((x.length+1:Nat):Int):=by rw [wr (by omega)]; omega
  have ih:=qwX m c N hN d r (done++[x]) n hcr (by omega) (by simp; omega) (by omega);rw [hi,hok,h1,hw,hw2,hdl,hlen];simp (disch:=omega) only [dT,dF,yc,yd,yi,tn,qz];have e1:(x++c :: r).take (x.length+(r.length+1))=x++c :: r:=List.take_of_length_le (by omega);have e2:(x++c :: r).take x.length=x:=List.take_left;have e3:(x++c :: r).drop (x.length+1)=r:=by
   rw [← List.drop_drop,List.drop_left];rfl
  rw [e1,e2,e3,yw,hset,qBC c r x [] hx];rw [show (done++[x]).length=done.length+1 by simp] at ih;rw [ih,yl];rfl
theorem qzZ:∀ (s0:List UInt8) (sep1:List UInt8) (sepSave2:Int) (n3:Int),(qjd s0 sep1 sepSave2 n3=true)→∃ n,qqh n s0 sep1 sepSave2 n3=qhF (z116 s0 sep1 sepSave2 n3):=fun s sep save k h=>⟨s.length+1,by
 unfold qjd at h;simp only [yf,ym,beq_iff_eq] at h;obtain ⟨⟨h1,h2⟩,rfl,rfl⟩:=h;obtain ⟨c,rfl⟩:=qBB h2;have hl:=qg h1;have hc:s.count c≤s.length:=List.count_le_length;unfold qqh qaP qaO;have hok:qjc s [c]=true:=by unfold qjc; rw [h1]; rfl
 have hcnt:z142 s [c]=((s.count c:Nat):Int):=rfl;have hw1:IntKind.wrap .i64 (((s.length:Nat):Int)+1)=((s.length+1:Nat):Int):=by rw [wr (by omega)]; omega
 have hw2:IntKind.wrap .i64 (((s.count c:Nat):Int)+1)=((s.count c+1:Nat):Int):=by rw [wr (by omega)]; omega
 have hw3:IntKind.wrap .i64 (((s.count c+1:Nat):Int) - 1)=((s.count c:Nat):Int):=by rw [wr (by omega)]; omega
 have hroom:((s.count c+1:Nat):Int)≤(room:Int):=by unfold room; omega
 rw [show (((-1:Int))==0)=false from rfl,show ((((([c]:List UInt8)).length:Nat):Int)==0)=false from rfl,show decide ((-1:Int) < 0)=true from rfl,hok,hcnt,hw1,hw2];simp only [yd,yc,yi];rw [dF (show ¬ ((s.length+1:Nat):Int) < ((s.count c+1:Nat):Int) by omega),yd,hw3,dT hroom,tn];simp (disch:=omega) only [dT,yc,yi];exact qwX (s.length+1) c (s.count c) (by omega) (s.count c) s [] (s.length+1) rfl (by omega) (by simp) hl⟩
theorem qDQ:∀ (s0:List UInt8) (sep1:List UInt8),(qxq s0 sep1=true)→∃ n,qDg n s0 sep1=qBi (z82 s0 sep1):=fun s sep h=>⟨0,by
 unfold qDg;have:qjd s sep 0 (-1)=true:=by
  unfold qjd;rw [show (lenOk s&&decide (sep.length=1))=true from h];rfl
 rw [this];rfl⟩
theorem qwY (s:List UInt8) (c:UInt8):(z87 s==[c])=(match s with | [x]=>z118 x==c | _=>false):=by
 unfold z87;match s with
 | []=>rfl
 | [x]=>simp
 | x :: y :: r=>simp
theorem qDR:∀ (s0:List UInt8),(qAQ s0=true)→∃ n,qDh n s0=qmv (z84 s0):=fun s h=>⟨0,by
 unfold qDh;rw [show qsC s=true from h,qwY,qwY];match s with
 | []=>rfl
 | [x] =>
  show (bif z118 x==98 then _ else bif z118 x==113 then _ else _)=qmv (bif z118 x==98 then 1 else bif z118 x==113 then 2 else 0);cases (z118 x==98) <;> cases (z118 x==113) <;> rfl
 | x :: y :: r=>rfl⟩
theorem qDS:∀ (s0:List UInt8) (kinds1:Int),(qfY s0 kinds1=true)→∃ n,qDl n s0 kinds1=qvP (z85 s0 kinds1):=fun s k h=>⟨0,by
 unfold qDl;rw [show qsD s k=true from h];cases s with
 | nil=>rfl
 | cons x r =>
  rw [dT (by simp only [yg]; omega)];rfl⟩
theorem qoC (c:UInt8):∀ (s cur x:List UInt8),x∈cutC c cur s→x.length≤cur.length+s.length
 | [],cur,x,h=>by
  have:x∈[cur]:=h;simp only [List.mem_singleton] at this;subst this;exact yv _
 | y :: r,cur,x,h=>by
  rw [qgE] at h;cases hy:(y==c) with
  | true =>
   rw [hy,yc] at h;rcases List.mem_cons.1 h with rfl | h
   ·exact Nat.le_add_right _ _
   ·have:=qoC c r [] x h;simp only [List.length_nil,yg] at this ⊢;omega
  | false =>
   rw [hy,yd] at h;have:=qoC c r _ x h;simp only [yn,yg,List.length_nil] at this ⊢;omega
theorem five {α:Type} {L:List α} (h:L.length=5):∃ a n c t b,L=[a,n,c,t,b]:=by
 match L,h with
 | [a,n,c,t,b],_=>exact ⟨a,n,c,t,b,rfl⟩
theorem qwZ (k:Nat) {L:List (List UInt8)} (h:L.length≠5):qmJ k L=(qsv,3):=by
 unfold qmJ;split
 ·exact absurd rfl h
 ·rfl
theorem qDT:∀ (s0:List UInt8),(qiw s0=true)→∃ n,qDm n s0=qX (z51 s0).1 (z51 s0).2:=fun s h=>⟨0,by
 have hl:=qg h;have hok:qxq s [63]=true:=by unfold qxq; rw [show lenOk s=true from h]; rfl
 have hmem:∀ x∈cutC 63 [] s,x.length≤1048576:=fun x hx=>by
  have:=qoC 63 s [] x hx;simp only [List.length_nil] at this;omega
 unfold qDm qcr qgp qeE qbH qkT qG qy z51;rw [hok,show z82 s [63]=cutC 63 [] s from rfl];generalize cutC 63 [] s=L at hmem ⊢;have h75:decide ((75:Int) < ((s.length:Nat):Int))=decide (75 < s.length):=by rw [Bool.eq_iff_iff]; simp only [ym]; omega
 rw [h75];generalize hk:s.length=k
 by_cases h5:L.length=5
 ·obtain ⟨a,n,c,t,b,rfl⟩:=five h5;have okn:qga n=true:=qo (hmem n (by simp));have okt:qga t=true:=qo (hmem t (by simp));have okc:qAQ c=true:=qo (hmem c (by simp));have okn2:qfY n 64=true:=qo (hmem n (by simp));have okt2:qfY t 4=true:=qo (hmem t (by simp));have c0:(decide ((0:Int)≤0)&&decide ((0:Int) < ((List.length [a,n,c,t,b]:Nat):Int)))=true:=rfl;have c1:(decide ((0:Int)≤1)&&decide ((1:Int) < ((List.length [a,n,c,t,b]:Nat):Int)))=true:=rfl;have c2:(decide ((0:Int)≤2)&&decide ((2:Int) < ((List.length [a,n,c,t,b]:Nat):Int)))=true:=rfl;have c3:(decide ((0:Int)≤3)&&decide ((3:Int) < ((List.length [a,n,c,t,b]:Nat):Int)))=true:=rfl;have c4:(decide ((0:Int)≤4)&&decide ((4:Int) < ((List.length [a,n,c,t,b]:Nat):Int)))=true:=rfl;have g0:List.getD [a,n,c,t,b] (Int.toNat 0) []=a:=rfl;have g1:List.getD [a,n,c,t,b] (Int.toNat 1) []=n:=rfl;have g2:List.getD [a,n,c,t,b] (Int.toNat 2) []=c:=rfl;have g3:List.getD [a,n,c,t,b] (Int.toNat 3) []=t:=rfl;have g4:List.getD [a,n,c,t,b] (Int.toNat 4) []=b:=rfl;have e5:((((List.length [a,n,c,t,b]:Nat)):Int) != 5)=false:=rfl;have ecl:∀ x,z83 x=x:=fun _=>rfl;simp only [e5,c0,c1,c2,c3,c4,g0,g1,g2,g3,g4,okn,okt,okc,okn2,okt2,ecl,qaj,yc,yd,yi];show _=qX (qmJ k [a,n,c,t,b]).1 (qmJ k [a,n,c,t,b]).2;unfold qmJ;simp only [show z84 c=codeL c from rfl,show z85 n 64=fullB n 64 from rfl,show z85 t 4=fullB t 4 from rfl]
  by_cases ha:a=[61]
  ·by_cases hb:b=[61]
   ·subst ha hb;simp only [decide_true,yi,yc,bne_self_eq_false,yd];cases (codeL c==0) <;> cases fullB n 64 <;> cases fullB t 4 <;> cases decide (75 < k) <;> rfl
   ·rw [yx hb,Bool.and_false,show (b != [61])=true from bne_iff_ne.2 hb,yc];subst ha;rfl
  ·rw [yx ha,Bool.false_and,show (a != [61])=true from bne_iff_ne.2 ha,yc];rfl
 ·rw [bneT (by omega),qwZ k h5];rfl⟩
theorem qAa:∀ (s0:List UInt8),(qmK s0=true)→∃ n,qwr n s0=qwq (z130 s0):=fun s h=>⟨0,by
 unfold qwr;rw [show qiw s=true from h];rfl⟩
theorem qDU:∀ (a0:List UInt8) (b1:List UInt8),∃ n,qHV n a0 b1=qBh (z93 a0 b1):=fun _ _=>⟨0,rfl⟩
theorem qAb:∀ (s0:List UInt8),(qjf s0=true)→∃ n,qwb n s0=qwa (z119 s0):=fun s h=>⟨0,by
 have hl:=qg h;have h1:qeR s [32,9]=true:=by unfold qeR; rw [show lenOk s=true from h]; rfl
 have e:z129 s [32,9]=z119 s:=by unfold z129 z119; rw [qzX]
 unfold qwb;rw [h1,e,show qga (z119 s)=true from qo (yL (qqA _ _) hl)];rfl⟩
theorem qxa (x:UInt8) (s:List UInt8) (c:UInt8):Lib.indexByte (x :: s) c=if (x==c)=true then 0 else if (Lib.indexByte s c == -1)=true then -1 else Lib.indexByte s c+1:=rfl
theorem ib_lt:∀ (s:List UInt8) (c:UInt8),Lib.indexByte s c < (s.length:Int)
 | [],c=>by show (-1:Int) < ((0:Nat):Int); omega
 | x :: s,c=>by
  have:=ib_lt s c;have hg:=Lib.indexByte_ge s c;rw [qxa];simp only [yg];split
  ·omega
  ·split <;> omega
theorem qiW:∀ (s:List UInt8) (c:UInt8),(Lib.indexByte s c != -1)=s.contains c
 | [],c=>rfl
 | x :: s,c=>by
  have ih:=qiW s c;have hg:=Lib.indexByte_ge s c;rw [List.contains_cons,← ih,qxa];cases hx:(x==c) with
  | true =>
   have:(c==x)=true:=by rw [Bool.beq_comm]; exact hx
   rw [this]; rfl
  | false =>
   have:(c==x)=false:=by rw [Bool.beq_comm]; exact hx
   rw [this,Bool.false_or];simp only [yq,if_false]
   by_cases h:Lib.indexByte s c = -1
   ·rw [h]; rfl
   ·rw [if_neg (by simpa using h),bneT (by omega),bneT h]
theorem qJR (s:List UInt8) (c:UInt8):decide (Lib.indexByte s c < 0) = !s.contains c:=by
 have hg:=Lib.indexByte_ge s c;rw [← qiW]
 by_cases h:Lib.indexByte s c = -1
 ·rw [h]; rfl
 ·rw [bneT h,dF (by omega)]; rfl
theorem qxb (c:UInt8):IntKind.wrap .i64 ((UInt8.toNat c:Nat):Int)=((UInt8.toNat c:Nat):Int):=by
 have:=c.toNat_lt;exact IntWalk.i64_in _ (by omega)
theorem qAc:∀ (c0:UInt8),∃ n,qwi n c0=qhJ (z175 c0).1 (z175 c0).2:=fun c=>⟨0,by
 unfold qwi z175;have h:=(z118 c - 97).toNat_lt;rw [qxb,qxb,IntWalk.i64_in (((z118 c - 97).toNat:Int)+10) (by omega)];cases z36 (z118 c) 8 <;> cases decide ((97:UInt8)≤z118 c) <;> cases decide (z118 c≤(102:UInt8)) <;> rfl⟩
theorem qoD:∀ i:Fin 256,0≤(z175 (UInt8.ofNat i.val)).1∧(z175 (UInt8.ofNat i.val)).1 < 16:=by decide +kernel
theorem qJS {P:UInt8→Prop} (h:∀ i:Fin 256,P (UInt8.ofNat i.val)) (c:UInt8):P c:=by
 have:=h ⟨c.toNat,c.toNat_lt⟩;simpa using this
theorem qiX (c:UInt8):0≤(z175 c).1∧(z175 c).1 < 16:=qJS (P:=fun c=>0≤(z175 c).1∧(z175 c).1 < 16) qoD c
theorem qDV:∀ a b:Fin 16,UInt8.ofNat (Int.toNat (IntKind.wrap .u8 (bits .or .i64 (IntKind.wrap .i64 (((a.val:Nat):Int)*2 ^ (min (Int.toNat (4:Int)) (IntKind.bits .i64)))) ((b.val:Nat):Int))))=UInt8.ofNat (Int.toNat (((a.val:Nat):Int)*16+((b.val:Nat):Int))):=by decide +kernel
theorem qDW {P:Int→Int→Prop} (h:∀ a b:Fin 16,P ((a.val:Nat):Int) ((b.val:Nat):Int)) {x y:Int} (hx:0≤x∧x < 16) (hy:0≤y∧y < 16):P x y:=by
 have:=h ⟨x.toNat,by omega⟩ ⟨y.toNat,by omega⟩;simp only [Int.toNat_of_nonneg hx.1,Int.toNat_of_nonneg hy.1] at this;exact this
theorem qAd:∀ (a0:UInt8) (b1:UInt8),∃ n,qwj n a0 b1=qkW (z167 a0 b1).1 (z167 a0 b1).2:=fun a b=>⟨0,by
 unfold qwj z167;have h:=qDW (P:=fun x y=>UInt8.ofNat (Int.toNat (IntKind.wrap .u8 (bits .or .i64 (IntKind.wrap .i64 (x*2 ^ (min (Int.toNat (4:Int)) (IntKind.bits .i64)))) y)))=UInt8.ofNat (Int.toNat (x*16+y))) qDV (qiX a) (qiX b);rw [← h];cases (z175 a).2 <;> cases (z175 b).2 <;> rfl⟩
theorem qsr (s:List UInt8) (at1:Int) (hl:s.length≤1048576) (h0:¬ at1 < 0) (h1:¬ IntKind.wrap .i64 (((List.length s:Nat):Int) - 3) < at1):∃ i:Nat,at1=i∧i+2 < s.length:=by
 rw [IntWalk.i64_in _ (by omega)] at h1;exact ⟨at1.toNat,by omega,by omega⟩
theorem qAe:∀ (s0:List UInt8) (at1:Int) (sign2:UInt8),(qpx s0 at1 sign2=true)→∃ n,qwk n s0 at1 sign2=qhK (z144 s0 at1 sign2).1 (z144 s0 at1 sign2).2:=fun s at1 sign h=>⟨0,by
 have hl:=qg h;unfold qwk qhL z144
 by_cases h0:at1 < 0
 ·rw [yo h0,yx (show ¬ 0≤at1 by omega)]; rfl
 by_cases h1:IntKind.wrap .i64 (((List.length s:Nat):Int) - 3) < at1
 ·have h2:¬ at1≤(s.length:Int) - 3:=by rw [IntWalk.i64_in _ (by omega)] at h1; omega
  rw [yx h0,yo h1,yx h2,Bool.and_false]; rfl
 obtain ⟨i,rfl,hi⟩:=qsr s at1 hl h0 h1;rw [yx h0,yx h1,yd,yd,qaK,qqU,yo (show i < s.length by omega),yi,yc,qba,qz (by omega),
  show IntKind.wrap .i64 ((i:Int)+2)=((i+2:Nat):Int) by rw [IntWalk.i64_in _ (by omega)]; omega,qaK,qaK,qqU,qqU,yo (show i+1 < s.length by omega),yo hi,qba,qba,
  yo (show (i:Int)≤(s.length:Int) - 3 by omega),yi,yc]
 unfold qnu;cases he:(List.getD s i 0==sign) with
 | true=>rw [show (List.getD s i 0 != sign)=false by simp only [bne,he,Bool.not_true]]; rfl
 | false=>rw [show (List.getD s i 0 != sign)=true by simp only [bne,he,Bool.not_false]]; rfl⟩
def okc (c:UInt8):Bool:=(c==13)||(c==10)||(c==9)||(decide (32≤c)&&decide (c≤126))
theorem qAf:∀ (s0:List UInt8) (suffix1:List UInt8),(qpG s0 suffix1=true)→∃ n,qwg n s0 suffix1=qor (z166 s0 suffix1):=fun s t h=>⟨0,by
 have hl:=qg h;unfold qwg z166
 by_cases hc:t.length≤s.length
 ·have e:IntKind.wrap .i64 ((s.length:Int) - (t.length:Int))=((s.length - t.length:Nat):Int):=by rw [IntWalk.i64_in _ (by omega)]; omega
  rw [e,tn,tn,List.take_length,dT hc];simp (disch:=omega) only [dT,yc,yi];rfl
 ·rw [dF hc,dF (by omega)]; rfl⟩
theorem qdZ (l:List UInt8) (i k:Nat):(l.drop i).getD k 0=l.getD (i+k) 0:=by
 simp [List.getD,List.getElem?_drop]
set_option linter.unusedSimpArgs false
theorem qAg:∀ (n0:Int),∃ n,qwy n n0=qhR (z133 n0):=fun c=>⟨0,by
 unfold qwy z133;cases (c==(2:Int)) <;> cases (c==(3:Int)) <;> cases (c==(4:Int)) <;> rfl⟩
theorem qAh:∃ n,qBz n  = qwA z161:=⟨0,rfl⟩
theorem qAi:∃ n,qBA n  = qwC z162:=⟨0,rfl⟩
theorem qDX {α β:Type} (f:α→β) (t:List α) (z:β) (i:Nat) (h:i < t.length) (d:α) :
 ((t.take i).map f++List.replicate (t.length - i) z).set i (f (t.getD i d))=(t.take (i+1)).map f++List.replicate (t.length - (i+1)) z:=by
 rw [List.set_append_right _ _ (by simp; omega)];have h1:((t.take i).map f).length=i:=by simp; omega
 rw [h1,Nat.sub_self,show t.length - i=(t.length - (i+1))+1 by omega,List.replicate_succ,List.set_cons_zero,List.take_succ_eq_append_getElem h,List.map_append,yl];simp [List.getD,h]
theorem qoE (x:UInt8):IntKind.wrap .i32 ((UInt8.toNat x:Nat):Int)=((UInt8.toNat x:Nat):Int):=IntWalk.i32_in _ (by have:=x.toNat_lt; omega)
theorem qoF {α β:Type} {t:List α} {dv:α} {f:α→List β} {q:α→Bool} {k0:List β→Option AV} {R:Option AV} {L:Nat→List β→Int→Option AV} {b:Nat} (hf:∀ x,(f x).length≤b)
 (hL:∀ (n i:Nat) (out:List β),i < t.length→out.length+b≤room→L (n+1) out (i:Int)=bif q (t.getD i dv) then L n (out++f (t.getD i dv)) ((i+1:Nat):Int) else R) (hE:∀ n out,L (n+1) out ((t.length:Nat):Int)=k0 out) :
 ∀ (d i n:Nat) (out:List β),i+d=t.length→d < n→out.length+b*d≤room→L n out (i:Int)=bif (t.drop i).all q then k0 (out++(t.drop i).flatMap f) else R
 | d,i,0,out,hi,hn,_=>by omega
 | 0,i,n+1,out,hi,hn,_=>by
  obtain rfl:i=t.length:=by omega
  rw [hE,yA (by omega)];simp
 | d+1,i,n+1,out,hi,hn,hb=>by
  have hlt:i < t.length:=by omega
  have hx:=hf (t.getD i dv);have hb':b*(d+1)=b*d+b:=by rw [Nat.mul_succ]
  have h0:0≤b*d:=Nat.zero_le _;rw [hL n i out hlt (by omega),qoF (α:=α) (β:=β) hf hL hE d (i+1) n _ (by omega) (by omega) (by rw [yn]; omega),qax (d:=dv) hlt];simp only [List.all_cons,List.flatMap_cons,yl];cases q (t.getD i dv) <;> rfl
theorem qAj:∀ (charset0:Int),∃ n,qvQ n charset0=qdW (z117 charset0):=fun cs=>⟨0,by
 unfold qvQ z117;cases (cs==(1:Int)) <;> cases (cs==(2:Int)) <;> cases (cs==(3:Int)) <;> cases (cs==(4:Int)) <;> cases (cs==(5:Int)) <;> rfl⟩
theorem qDY:∀ (b0:List UInt8) (c1:UInt8),∃ n,qHU n b0 c1=qBg (z91 b0 c1):=fun _ _=>⟨0,rfl⟩
theorem qoG {α β:Type} (f:α→β):∀ l:List α,l.flatMap (fun x=>[f x])=l.map f
 | []=>rfl
 | x :: r=>by rw [List.flatMap_cons,qoG f r]; rfl
theorem qoH {α:Type}:∀ l:List α,l.all (fun _=>true)=true
 | []=>rfl
 | _ :: r=>by rw [List.all_cons,qoH r]; rfl
theorem qqD (m:Nat) (s:List UInt8) (hl:s.length≤1048576):∀ (d i n:Nat),i+d=s.length→d < n →
 qhS (qeN m) n ((s.take i).map (fun c:UInt8=>(c.toNat:Int))++List.replicate (s.length - i) 0) s (s.length:Nat) (i:Nat)=qow (s.map fun c:UInt8=>(c.toNat:Int))
 | d,i,0,hi,hn=>by omega
 | 0,i,n+1,hi,hn=>by
  obtain rfl:i=s.length:=by omega
  show qdy _ _ n _ _ _ _=_;unfold qdy;rw [dF (by omega),Nat.sub_self,List.take_length];simp only [yd,List.replicate_zero,yG];rfl
 | d+1,i,n+1,hi,hn=>by
  show qdy _ _ n _ _ _ _=_;unfold qdy;have hlen:((s.take i).map (fun c:UInt8=>(c.toNat:Int))++List.replicate (s.length - i) (0:Int)).length=s.length:=by
   rw [yn,yP,yz,List.length_replicate]; omega
  rw [hlen];simp (disch:=omega) only [dT,yc,yi,tn,qz];rw [qoE,qDX (fun c:UInt8=>((UInt8.toNat c:Nat):Int)) s 0 i (by omega) 0];exact qqD m s hl d (i+1) n (by omega) (by omega)
theorem qAk:∀ (s0:List UInt8),(qiI s0=true)→∃ n,qqs n s0=qow (z106 s0):=fun s h=>⟨s.length+1,by
 have hl:=qg h;unfold qqs;have hr:((s.length:Nat):Int)≤(room:Int):=by unfold room; omega
 simp (disch:=omega) only [dT,yc,yi,tn];have:=qqD (s.length+1) s hl s.length 0 (s.length+1) (by omega) (by omega);exact this⟩
theorem qAl:∀ (c0:Int),∃ n,qwz n c0=qox (z134 c0):=fun c=>⟨0,by
 unfold qwz z134;cases decide (128≤c) <;> rfl⟩
theorem qmC (m:Nat) (t:List Int) (hl:t.length≤1048576):∀ (d i n:Nat),i+d=t.length→d < n →
 qhT (qeO m) n ((t.take i).map z134++t.drop i) (t.length:Nat) (i:Nat)=qoy (t.map z134)
 | d,i,0,hi,hn=>by omega
 | 0,i,n+1,hi,hn=>by
  obtain rfl:i=t.length:=by omega
  show qdz _ _ n _ _ _=_;unfold qdz;rw [dF (by omega),List.drop_length,List.take_length,yG];rfl
 | d+1,i,n+1,hi,hn=>by
  show qdz _ _ n _ _ _=_;unfold qdz;have hlt:i < t.length:=by omega
  have hml:((t.take i).map z134).length=i:=by rw [yP,yz]; omega
  have hlen:((t.take i).map z134++t.drop i).length=t.length:=by
   rw [yn,hml,yK]; omega
  rw [hlen];simp (disch:=omega) only [dT,yc,yi,tn,qz];have hg:((t.take i).map z134++t.drop i).getD i 0=t[i]:=by
   rw [yY,yN (by omega),hml,Nat.sub_self,List.getElem?_drop,Nat.add_zero,yO hlt]; rfl
  have hs:((t.take i).map z134++t.drop i).set i (z134 t[i])=(t.take (i+1)).map z134++t.drop (i+1):=by
   rw [List.set_append_right _ _ (by omega),hml,Nat.sub_self,List.drop_eq_getElem_cons hlt,List.set_cons_zero,List.take_succ_eq_append_getElem hlt,List.map_append,yl];rfl
  rw [hg,hs];exact qmC m t hl d (i+1) n (by omega) (by omega)
theorem qAm:∀ (s0:List UInt8),(qpB s0=true)→∃ n,qqt n s0=qoy (z103 s0):=fun s h=>⟨s.length+1,by
 have hl:=qg h;unfold qqt;rw [show qiI s=true from h];have hlen:(z106 s).length=s.length:=by unfold z106; rw [yP]
 have:=qmC (s.length+1) (z106 s) (by omega) s.length 0 (s.length+1) (by omega) (by omega);have e:(z106 s).map z134=z103 s:=by
  unfold z106 z103; rw [List.map_map]; rfl
 rw [e] at this;exact this⟩
theorem qAn:∀ (x0:UInt8),∃ n,qqv n x0=qaI (z135 x0):=fun x=>⟨9,by
 have e:qqv 9 x=bif (164:UInt8)==x then qaI 8364 else bif (166:UInt8)==x then qaI 352 else bif (168:UInt8)==x then qaI 353 else bif (180:UInt8)==x then qaI 381
  else bif (184:UInt8)==x then qaI 382 else bif (188:UInt8)==x then qaI 338 else bif (189:UInt8)==x then qaI 339 else bif (190:UInt8)==x then qaI 376 else qaI (IntKind.wrap .i32 ((UInt8.toNat x:Nat):Int)):=by rfl
 rw [e,qoE];unfold z135 z74;have hc:∀ k:UInt8,(k==x)=(x==k):=fun k=>by
  cases h:x==k with
  | true=>rw [beq_iff_eq] at h; subst h; simp
  | false=>rw [yB] at h ⊢; exact fun e=>h e.symm
 simp only [hc];cases (x==(164:UInt8)) <;> cases (x==(166:UInt8)) <;> cases (x==(168:UInt8)) <;> cases (x==(180:UInt8)) <;> cases (x==(184:UInt8)) <;> cases (x==(188:UInt8)) <;> cases (x==(189:UInt8)) <;> cases (x==(190:UInt8)) <;> rfl⟩
theorem qAo:∀ (s0:List UInt8),(qpz s0=true)→∃ n,qqw n s0=qwB (z104 s0):=fun s h=>⟨s.length+1,by
 have hl:=qg h;unfold qqw;have:=qoF (t:=s) (dv:=0) (f:=fun c=>[z135 c]) (q:=fun _=>true) (b:=1) (k0:=qdB (s.length+1)) (R:=none)
  (L:=fun n out i=>qhU (qdB (s.length+1)) n out s (s.length:Nat) i) (fun x=>yv 1) (fun n i out hi hb=>by
   show qdA _ _ n _ _ _ _=_;unfold qdA;have hr:out.length+([z135 (s.getD i 0)]:List Int).length≤room:=hb;simp (disch:=omega) only [dT,yc,yi,tn,qz];all_goals (rw [dT hr])
   all_goals rfl) (fun n out=>by
   show qdA _ _ n _ _ _ _=_;unfold qdA;rw [dF (by omega)]; rfl) s.length 0 (s.length+1) [] (by omega) (by omega) (by show 0+_≤room; unfold room; omega)
 rw [yw,qoH,yc,List.nil_append,qoG] at this;exact this⟩
def qDZ (x:UInt8):Bool:=decide (x < 128)||(decide (160≤x)||((decide ((0:Int)≤((UInt8.toNat (x - (128:UInt8)):Nat):Int)))&&(decide (((UInt8.toNat (x - (128:UInt8)):Nat):Int) < (List.length z162:Nat))) &&
 ((bif ((List.getD z162 (Int.toNat ((UInt8.toNat (x - (128:UInt8)):Nat):Int)) (0:Int)) != (0:Int)) then (List.getD z162 (Int.toNat ((UInt8.toNat (x - (128:UInt8)):Nat):Int)) (0:Int)) else 65533)==z75 x)))
theorem qxc:∀ i:Fin 256,qDZ (UInt8.ofNat i.val)=true:=by decide +kernel
theorem qAp:∀ (x0:UInt8),∃ n,qwD n x0=qhV (z136 x0):=fun x=>⟨0,by
 have hm:=qlR (P:=fun x=>qDZ x=true) qxc x;unfold qwD qdb z136;rw [qoE];cases h1:decide (x < (128:UInt8)) with
 | true=>unfold z75; rw [h1]; rfl
 | false =>
  cases h2:decide ((160:UInt8)≤x) with
  | true =>
   have h3:decide ((159:UInt8) < x)=true:=by
    have h2':=of_decide_eq_true h2;apply yo;rw [UInt8.le_iff_toNat_le] at h2';rw [UInt8.lt_iff_toNat_lt];exact h2'
   unfold z75; rw [h1,h3]; rfl
  | false =>
   unfold qDZ at hm;rw [h1,h2,Bool.false_or,Bool.false_or,yf,beq_iff_eq] at hm;rw [yd,yd,hm.1,yc,← hm.2];cases ((List.getD z162 (Int.toNat ((UInt8.toNat (x - (128:UInt8)):Nat):Int)) (0:Int)) != (0:Int)) <;> rfl⟩
theorem qAq:∀ (s0:List UInt8),(qpA s0=true)→∃ n,qqx n s0=qwE (z105 s0):=fun s h=>⟨s.length+1,by
 have hl:=qg h;unfold qqx;have hr:((s.length:Nat):Int)≤(room:Int):=by unfold room; omega
 have:=qoF (t:=s) (dv:=0) (f:=fun c=>[z136 c]) (q:=fun _=>true) (b:=1) (k0:=qdD (s.length+1)) (R:=none)
  (L:=fun n out i=>qhW (qdD (s.length+1)) n out s (s.length:Nat) i) (fun x=>yv 1) (fun n i out hi hb=>by
   show qdC _ _ n _ _ _ _=_;unfold qdC;have hr:out.length+([z136 (s.getD i 0)]:List Int).length≤room:=hb;simp (disch:=omega) only [dT,yc,yi,tn,qz];all_goals (rw [dT hr])
   all_goals rfl) (fun n out=>by
   show qdC _ _ n _ _ _ _=_;unfold qdC;rw [dF (by omega)]; rfl) s.length 0 (s.length+1) [] (by omega) (by omega) (by show 0+_≤room; unfold room; omega)
 rw [yw,qoH,yc,List.nil_append,qoG] at this;simp (disch:=omega) only [dT,yc,yi];exact this⟩
theorem qEa:∀ (charset0:Int) (s1:List UInt8),(qym charset0 s1=true)→∃ n,qDB n charset0 s1=qiT (z63 charset0 s1):=fun cs s h=>⟨0,by
 have h':lenOk s=true:=h;unfold qDB z63;rw [show qpB s=true from h',show qpz s=true from h',show qpA s=true from h',show qfX s=true from h',show qiI s=true from h'];cases (cs==(1:Int)) <;> cases (cs==(3:Int)) <;> cases (cs==(4:Int)) <;> cases (cs==(5:Int)) <;> rfl⟩
theorem qJT (a b k:Nat) (hb:b < 2 ^ k) (h:a*2 ^ k+b < 9223372036854775808):bits .or .i64 ((a*2 ^ k:Nat):Int) (b:Int)=((a*2 ^ k+b:Nat):Int):=by
 have h1:(BitVec.ofInt 64 ((a*2 ^ k:Nat):Int)).toNat=a*2 ^ k:=by rw [BitVec.toNat_ofInt]; omega
 have h2:(BitVec.ofInt 64 ((b:Nat):Int)).toNat=b:=by rw [BitVec.toNat_ofInt]; omega
 have h3:(BitVec.ofInt 64 ((a*2 ^ k:Nat):Int) ||| BitVec.ofInt 64 (b:Int)).toNat=a*2 ^ k+b:=by
  rw [BitVec.toNat_or,h1,h2];have:=Nat.shiftLeft_add_eq_or_of_lt hb a;rw [Nat.shiftLeft_eq] at this;exact this.symm
 show IntKind.wrap .i64 (((BitVec.ofInt 64 ((a*2 ^ k:Nat):Int) ||| BitVec.ofInt 64 (b:Int)).toNat:Nat):Int)=_;rw [h3,IntWalk.i64_in _ (by omega)]
theorem qxd (n k:Nat) (hn:n < 9223372036854775808) (hk:2 ^ k≤4611686018427387904):bits .and .i64 (n:Int) ((2 ^ k - 1:Nat):Int)=((n % 2 ^ k:Nat):Int):=by
 have hpos:0 < 2 ^ k:=Nat.pow_pos (by decide);have h1:(BitVec.ofInt 64 (n:Int)).toNat=n:=by rw [BitVec.toNat_ofInt]; omega
 have h2:(BitVec.ofInt 64 ((2 ^ k - 1:Nat):Int)).toNat=2 ^ k - 1:=by rw [BitVec.toNat_ofInt]; omega
 have h3:(BitVec.ofInt 64 (n:Int) &&& BitVec.ofInt 64 ((2 ^ k - 1:Nat):Int)).toNat=n % 2 ^ k:=by
  rw [BitVec.toNat_and,h1,h2,Nat.and_two_pow_sub_one_eq_mod]
 have h4:n % 2 ^ k < 2 ^ k:=Nat.mod_lt _ hpos;show IntKind.wrap .i64 (((BitVec.ofInt 64 (n:Int) &&& BitVec.ofInt 64 ((2 ^ k - 1:Nat):Int)).toNat:Nat):Int)=_;rw [h3,IntWalk.i64_in _ (by omega)]
theorem fdivN (n k:Nat):Int.fdiv (n:Int) ((k:Nat):Int)=((n / k:Nat):Int):=by
 rw [Int.fdiv_eq_ediv_of_nonneg _ (Int.natCast_nonneg k),Int.natCast_ediv]
theorem qAr:∀ (c0:UInt8),∃ n,qBq n c0=qou (z121 c0).1 (z121 c0).2:=fun c=>⟨0,by
 show qou (bif decide (Lib.indexByte b64D c < 0) then 0 else Lib.indexByte b64D c) (decide (0≤Lib.indexByte b64D c))=_;unfold z121
 by_cases h:Lib.indexByte b64D c < 0
 ·rw [dT h,dF (by omega)]; rfl
 ·rw [dF h,dT (by omega)]; rfl⟩
theorem qAs:∀ i:Fin 256,(decide (0≤(z121 (UInt8.ofNat i.val)).1)&&decide ((z121 (UInt8.ofNat i.val)).1 < 64))=true:=by decide +kernel
theorem qBD (c:UInt8):∃ n:Nat,(z121 c).1=(n:Int)∧n < 64:=by
 have h:=qlR (P:=fun c=>(decide (0≤(z121 c).1)&&decide ((z121 c).1 < 64))=true) qAs c;simp only [yf,ym] at h;exact ⟨(z121 c).1.toNat,by omega,by omega⟩
theorem u8_of (k:Nat):UInt8.ofNat (Int.toNat (IntKind.wrap .u8 (k:Int)))=UInt8.ofNat k:=by
 have:IntKind.wrap .u8 (k:Int)=((k % 256:Nat):Int):=by
  rw [IntKind.wrap_u8]; omega
 rw [this,Int.toNat_natCast];apply UInt8.toNat_inj.1;show (k % 256) % 256=k % 256;omega
def decT {R:Type} (K:List UInt8→Int→Int→R) (N:R) (out:List UInt8) (held many v:Int):R :=
 bif (decide ((8:Int)≤(IntKind.wrap .i64 (many+(6:Int))))) then
  bif (decide ((0:Int)≤(IntKind.wrap .i64 ((IntKind.wrap .i64 (many+(6:Int))) - (8:Int))))) then
   bif (decide (List.length out+List.length ([(UInt8.ofNat (Int.toNat (IntKind.wrap .u8 (Int.fdiv (bits .or .i64 (IntKind.wrap .i64 (held*2 ^ (min (Int.toNat (6:Int)) (IntKind.bits .i64)))) v) (2 ^ (min (Int.toNat (IntKind.wrap .i64 ((IntKind.wrap .i64 (many+(6:Int))) - (8:Int)))) (IntKind.bits .i64)))))))]:List UInt8)≤room)) then
    bif (decide ((0:Int)≤(IntKind.wrap .i64 ((IntKind.wrap .i64 (many+(6:Int))) - (8:Int))))) then
     K (out++([(UInt8.ofNat (Int.toNat (IntKind.wrap .u8 (Int.fdiv (bits .or .i64 (IntKind.wrap .i64 (held*2 ^ (min (Int.toNat (6:Int)) (IntKind.bits .i64)))) v) (2 ^ (min (Int.toNat (IntKind.wrap .i64 ((IntKind.wrap .i64 (many+(6:Int))) - (8:Int)))) (IntKind.bits .i64)))))))]:List UInt8)) (bits .and .i64 (bits .or .i64 (IntKind.wrap .i64 (held*2 ^ (min (Int.toNat (6:Int)) (IntKind.bits .i64)))) v) (IntKind.wrap .i64 ((IntKind.wrap .i64 ((1:Int)*2 ^ (min (Int.toNat (IntKind.wrap .i64 ((IntKind.wrap .i64 (many+(6:Int))) - (8:Int)))) (IntKind.bits .i64)))) - (1:Int)))) (IntKind.wrap .i64 ((IntKind.wrap .i64 (many+(6:Int))) - (8:Int)))
    else N
   else N
  else N
 else
  K out (bits .or .i64 (IntKind.wrap .i64 (held*2 ^ (min (Int.toNat (6:Int)) (IntKind.bits .i64)))) v) (IntKind.wrap .i64 (many+(6:Int)))
theorem held6 (h n:Nat) (hh:h < 64) (hn:n < 64):bits .or .i64 (IntKind.wrap .i64 ((h:Int)*2 ^ (min (Int.toNat (6:Int)) (IntKind.bits .i64)))) (n:Int)=((h*64+n:Nat):Int):=by
 have e:IntKind.wrap .i64 ((h:Int)*2 ^ (min (Int.toNat (6:Int)) (IntKind.bits .i64)))=((h*2 ^ 6:Nat):Int):=by
  show IntKind.wrap .i64 ((h:Int)*64)=_;rw [IntWalk.i64_in _ (by omega)]; omega
 rw [e,qJT h n 6 (by omega) (by omega)]
theorem qBE {R:Type} (K:List UInt8→Int→Int→R) (N:R) (out:List UInt8) (h m n:Nat) (hm:m=0∨m=2∨m=4∨m=6) (hh:h < 2 ^ m) (hn:n < 64) (ho:out.length+1≤room) :
 decT K N out (h:Int) (m:Int) (n:Int)=K (out++decO m h n) (decH m h n:Nat) (decM m:Nat):=by
 have hh6:h < 64:=by rcases hm with rfl | rfl | rfl | rfl <;> omega
 unfold decT;rw [held6 h n hh6 hn];rcases hm with rfl | rfl | rfl | rfl
 ·obtain rfl:h=0:=by omega
  rw [show decide ((8:Int)≤IntKind.wrap .i64 (((0:Nat):Int)+6))=false from rfl,yd,Nat.zero_mul,yE];show K out _ 6=K (out++[]) _ 6;rw [yG]; rfl
 ·rw [show decide ((8:Int)≤IntKind.wrap .i64 (((2:Nat):Int)+6))=true from rfl,yc,show IntKind.wrap .i64 (IntKind.wrap .i64 (((2:Nat):Int)+6) - 8)=((0:Nat):Int) from rfl,dT (by omega),yc,yc];have e1:Int.fdiv ((h*64+n:Nat):Int) (2 ^ (min (Int.toNat ((0:Nat):Int)) (IntKind.bits .i64)))=(((h*64+n) / 2 ^ 0:Nat):Int):=fdivN _ 1;have e2:IntKind.wrap .i64 (IntKind.wrap .i64 ((1:Int)*2 ^ (min (Int.toNat ((0:Nat):Int)) (IntKind.bits .i64))) - 1)=((2 ^ 0 - 1:Nat):Int):=rfl;rw [e1,e2,u8_of,qxd _ 0 (by omega) (by decide),dT (show out.length+[_].length≤room from ho),yc];rfl
 ·rw [show decide ((8:Int)≤IntKind.wrap .i64 (((4:Nat):Int)+6))=true from rfl,yc,show IntKind.wrap .i64 (IntKind.wrap .i64 (((4:Nat):Int)+6) - 8)=((2:Nat):Int) from rfl,dT (by omega),yc,yc];have e1:Int.fdiv ((h*64+n:Nat):Int) (2 ^ (min (Int.toNat ((2:Nat):Int)) (IntKind.bits .i64)))=(((h*64+n) / 2 ^ 2:Nat):Int):=fdivN _ 4;have e2:IntKind.wrap .i64 (IntKind.wrap .i64 ((1:Int)*2 ^ (min (Int.toNat ((2:Nat):Int)) (IntKind.bits .i64))) - 1)=((2 ^ 2 - 1:Nat):Int):=rfl;rw [e1,e2,u8_of,qxd _ 2 (by omega) (by decide),dT (show out.length+[_].length≤room from ho),yc];rfl
 ·rw [show decide ((8:Int)≤IntKind.wrap .i64 (((6:Nat):Int)+6))=true from rfl,yc,show IntKind.wrap .i64 (IntKind.wrap .i64 (((6:Nat):Int)+6) - 8)=((4:Nat):Int) from rfl,dT (by omega),yc,yc];have e1:Int.fdiv ((h*64+n:Nat):Int) (2 ^ (min (Int.toNat ((4:Nat):Int)) (IntKind.bits .i64)))=(((h*64+n) / 2 ^ 4:Nat):Int):=fdivN _ 16;have e2:IntKind.wrap .i64 (IntKind.wrap .i64 ((1:Int)*2 ^ (min (Int.toNat ((4:Nat):Int)) (IntKind.bits .i64))) - 1)=((2 ^ 4 - 1:Nat):Int):=rfl;rw [e1,e2,u8_of,qxd _ 4 (by omega) (by decide),dT (show out.length+[_].length≤room from ho),yc];rfl
theorem qxe (m h n:Nat):(decO m h n).length≤1:=by
 unfold decO;cases m==0
 ·exact yv 1
 ·exact Nat.zero_le 1
theorem qAt {s:List UInt8} {i:Nat} (h:i < s.length):s.take i++[s.getD i 0]=s.take (i+1):=by
 rw [List.take_succ_eq_append_getElem h,yY,yO h]; rfl
theorem qdF {s:List UInt8} {i:Nat} (h:i < s.length):s.drop i=s.getD i 0 :: s.drop (i+1):=by
 rw [List.drop_eq_getElem_cons h,yY,yO h]; rfl
theorem qmD (j:Nat) (s t:List UInt8) (hl:t.length≤1048576):∀ (d i n:Nat) (out:List UInt8) (h m:Nat),i+d=t.length→d < n→DecSt (t.take i) out m h→out.length≤i →
 qiu qbI (qcs j) n s out (h:Int) (m:Int) t (t.length:Nat) (i:Nat) =
  bif (t.drop i).all isB64 then (bif ((Int.tmod ((List.length s:Nat):Int) (4:Int)) != (0:Int)) then qbI [] 4 else bif !(z72 (bitsB t)).2 then qbI [] 3 else qbI (z72 (bitsB t)).1 0) else qbI [] 3
 | d,i,0,out,h,m,hi,hn,_,_=>by omega
 | 0,i,n+1,out,h,m,hi,hn,e,ho=>by
  obtain rfl:i=t.length:=by omega
  show qfp _ _ _ n _ _ _ _ _ _ _=_;unfold qfp qaq qbg;rw [dF (by omega),yd,List.drop_length];rw [List.take_length] at e;obtain ⟨e1,e2,e3⟩:=e.octets;rw [e1,e3,qrs m h e.cases e.lt];unfold qcs;show _=(bif ((Int.tmod ((List.length s:Nat):Int) (4:Int)) != (0:Int)) then _ else _);cases ((Int.tmod ((List.length s:Nat):Int) (4:Int)) != (0:Int))
  ·rw [yd,yd]; rfl
  ·rfl
 | d+1,i,n+1,out,h,m,hi,hn,e,ho=>by
  show qfp _ _ _ n _ _ _ _ _ _ _=_;unfold qfp qaq qbg;have hlt:i < t.length:=by omega
  rw [qdF hlt,List.all_cons];simp (disch:=omega) only [dT,yc,yi,tn];unfold isB64;cases hv:(z121 (t.getD i 0)).2 with
  | false=>rfl
  | true =>
   obtain ⟨v,hv1,hv2⟩:=qBD (t.getD i 0);rw [Bool.not_true,yd,y5,hv1,qz (by omega)];have hs:=qBE (fun o h m=>qiu qbI (qcs j) n s o h m t (t.length:Nat) ((i+1:Nat):Int)) none out h m v e.cases e.lt hv2 (by unfold room; omega);refine (show _=decT (fun o h m=>qiu qbI (qcs j) n s o h m t (t.length:Nat) ((i+1:Nat):Int)) none out h m v from rfl).trans (hs.trans ?_);have e2:=e.step (t.getD i 0) v hv1 hv2;rw [qAt hlt] at e2;have hd:=qxe m h v;exact qmD j s t hl d (i+1) n _ _ _ (by omega) (by omega) e2 (by rw [yn]; omega)
theorem qEb (s:List UInt8):(bodyB s).length≤s.length:=by
 unfold bodyB;cases s.getLast? == some 61
 ·simp only [yd];cases (s.getLast? == some 61&&s.length != s.length)
  ·exact yv _
  ·rw [yc,List.length_dropLast]; omega
 ·simp only [yc];cases (s.dropLast.getLast? == some 61&&s.dropLast.length != s.length)
  ·rw [yd,List.length_dropLast]; omega
  ·rw [yc,List.length_dropLast,List.length_dropLast]; omega
theorem tmod4 (n:Nat):((Int.tmod (n:Int) 4) != (0:Int))=(n % 4 != 0):=by
 have:Int.tmod (n:Int) 4=((n % 4:Nat):Int):=rfl;rw [this];cases h:n % 4 != 0 with
 | true =>
  rw [bne_iff_ne] at h ⊢; omega
 | false =>
  rw [bne_eq_false_iff_eq] at h ⊢; omega
theorem qEc:∀ (s0:List UInt8),(qyp s0=true)→∃ n,qzH n s0=qbI (z89 s0).1 (z89 s0).2:=fun s h=>⟨s.length+1,by
 have hl:=qg h;have hb:=qEb s;unfold qzH;rw [show qpC s=true from h,yi,yc];have:=qmD (s.length+1) s (bodyB s) (by omega) (bodyB s).length 0 (s.length+1) [] 0 0 (by omega) (by omega) DecSt.nil (yv 0);refine (show _=qiu qbI (qcs (s.length+1)) (s.length+1) s [] ((0:Nat):Int) ((0:Nat):Int) (bodyB s) ((bodyB s).length:Nat) ((0:Nat):Int) from rfl).trans (this.trans ?_);rw [yw,tmod4];unfold z89;cases (bodyB s).all isB64
 ·rfl
 ·cases (s.length % 4 != 0)
  ·cases (z72 (bitsB (bodyB s))).2 <;> rfl
  ·rfl⟩
theorem qEd:∀ (s0:List UInt8),(qyq s0=true)→∃ n,qDt n s0=qBr (z54 s0):=fun s h=>⟨0,by
 unfold qDt;rw [show qyp s=true from h]; rfl⟩
theorem qAu:∀ (s0:List UInt8) (suffix1:List UInt8),(qhj s0 suffix1=true)→∃ n,qwh n s0 suffix1=qos (z143 s0 suffix1):=fun s t h=>⟨0,by
 have hl:=qg h;unfold qwh z143;rw [show qpG s t=true from h,yi,yc];cases hs:z166 s t with
 | false=>rfl
 | true =>
  have hle:t.length≤s.length:=by
   unfold z166 at hs
   by_cases h:t.length≤s.length
   ·exact h
   ·rw [yx h] at hs; cases hs
  rw [yc,yc,show IntKind.wrap .i64 (((s.length:Nat):Int) - ((t.length:Nat):Int))=((s.length - t.length:Nat):Int) by rw [IntWalk.i64_in _ (by omega)]; omega];simp (disch:=omega) only [dT,yc,yi,tn];rfl⟩
theorem qlg (s:List UInt8):z143 s [61]=bif s.getLast? == some 61 then s.dropLast else s:=by
 unfold z143 z166;match s with
 | []=>rfl
 | x :: r =>
  have hle:([61]:List UInt8).length≤(x :: r).length:=by simp
  have hx:(x :: r)=(x :: r).dropLast++[(x :: r).getLast (by simp)]:=(List.dropLast_concat_getLast (by simp)).symm;generalize (x :: r).getLast (by simp)=y at hx;generalize (x :: r).dropLast=d at hx;rw [hx];have h1:(d++[y]).length - ([61]:List UInt8).length=d.length:=by simp
  rw [h1,List.drop_left,List.take_left,yo (by simp),yc];have h2:(d++[y]).getLast? = some y:=by simp
  have h3:(d++[y]).dropLast=d:=by simp
  rw [h2]
  by_cases hy:y=61
  ·subst hy; rfl
  ·have e1:(([y]:List UInt8)==[61])=false:=by simpa using hy
   have e2:((some y:Option UInt8)==some 61)=false:=by simpa using hy
   rw [e1,e2]
theorem qAv:∀ (s0:List UInt8),(qpC s0=true)→∃ n,qqo n s0=qot (z120 s0):=fun s h=>⟨3,by
 have h2:qhj (z143 s [61]) [61]=true:=by
  have hl:=qg h;refine qo ?_;rw [qlg];cases s.getLast? == some 61
  ·exact hl
  ·rw [yc,List.length_dropLast]; omega
 have e:qqo 3 s=bif qhj s [61]&&true then (bif qhj (z143 s [61]) [61]&&true then qot (z143 (z143 s [61]) [61]) else none) else none:=rfl
 rw [e,h2,show qhj s [61]=true from h,yi,yc,yc];congr 1;rw [qlg (z143 s [61]),qlg s];show _=bodyB s;unfold bodyB;cases hg:s.getLast? == some 61 with
 | false =>
  simp only [yd];rw [hg]; rfl
 | true =>
  simp only [yc];have hne:s≠[]:=by rintro rfl; cases hg
  have hlen:(s.dropLast.length != s.length)=true:=by
   have:=List.length_pos_iff.2 hne;rw [bne_iff_ne,List.length_dropLast]; omega
  rw [hlen,yi]⟩
theorem qEe:∀ i:Fin 256,z36 (UInt8.ofNat i.val) 2=blank (UInt8.ofNat i.val):=by decide +kernel
theorem qJU (c:UInt8):z36 c 2=blank c:=qJQ (P:=fun c=>z36 c 2=blank c) qEe c
theorem qmE (l:List UInt8) (i:Nat):z144 l (i:Int) 61=z144 (l.drop i) 0 61:=by
 unfold z144
 by_cases h:i+3≤l.length
 ·have e1:decide ((i:Int)≤(l.length:Int) - 3)=true:=dT (by omega);have e2:decide ((0:Int)≤((l.drop i).length:Int) - 3)=true:=dT (by rw [yK]; omega);rw [e1,e2,dT (show (0:Int)≤(i:Int) by omega),tn];simp only [yi,yc];show qnu l i 61=qnu (l.drop i) 0 61;unfold qnu;rw [qdZ,qdZ,qdZ];rfl
 ·have e1:decide ((i:Int)≤(l.length:Int) - 3)=false:=dF (by omega);have e2:decide ((0:Int)≤((l.drop i).length:Int) - 3)=false:=dF (by rw [yK]; omega);rw [e1,e2];simp
theorem qxf:∀ (k:Nat) (l:List UInt8),qwS k l=qwS 0 (l.drop k)
 | 0,l=>rfl
 | k+1,[]=>rfl
 | k+1,x :: r=>by rw [show qwS (k+1) (x :: r)=qwS k r from rfl,qxf k r]; rfl
theorem qlh:∀ (s:List UInt8) (k:Nat),(qwS k s).2≤s.length
 | [],k=>by cases k <;> exact Nat.zero_le _
 | x :: r,k+1=>by
  have:=qlh r k;show (qwS k r).2≤r.length+1; omega
 | x :: r,0=>by
  show (bif _ then _ else _:List UInt8×Nat).2≤r.length+1;cases (z144 (x :: r) 0 61).2
  ·have:=qlh r 0;show (qwS 0 r).2+(bif x==61 then 1 else 0)≤_;cases x==61 <;> simp only [yc,yd] <;> omega
  ·have:=qlh r 2;show (qwS 2 r).2≤_; omega
theorem qmF (m:Nat) (s:List UInt8) (hl:s.length≤1048576):∀ (n i:Nat) (out:List UInt8) (k:Nat),s.length - i < n→out.length+(qwS 0 (s.drop i)).1.length≤1048576→k+(qwS 0 (s.drop i)).2≤1048576 →
 qhN (qeJ m) n s out (k:Int) (i:Int)=qhM (out++(qwS 0 (s.drop i)).1) ((k+(qwS 0 (s.drop i)).2:Nat):Int)
 | 0,i,out,k,hn,_,_=>by omega
 | n+1,i,out,k,hn,ho,hk=>by
  show qgw _ _ n _ _ _ _=_;unfold qgw qao
  by_cases hlt:i < s.length
  ·have hst:qwS 0 (s.drop i)=bif (z144 s (i:Int) 61).2 then ((z144 s (i:Int) 61).1 :: (qwS 0 (s.drop (i+3))).1,(qwS 0 (s.drop (i+3))).2)
    else ((bif s.getD i 0==95 then 32 else s.getD i 0) :: (qwS 0 (s.drop (i+1))).1,(qwS 0 (s.drop (i+1))).2+(bif s.getD i 0==61 then 1 else 0)):=by
    rw [qmE,qdF hlt];show (bif (z144 (s.getD i 0 :: s.drop (i+1)) 0 61).2 then _ else _)=_;rw [qxf 2,List.drop_drop,show i+1+2=i+3 by omega]
   have hno:∀ x,s.getD i 0=x→(x==61)=false→(z144 s (i:Int) 61).2=false:=fun x hx h=>by
    rw [qmE,qdF hlt,hx];exact qCI h
   have hok:qpx s (i:Int) 61=true:=qo hl;simp (disch:=omega) only [dT,yc,yi,tn];have hroom:∀ y:UInt8,out.length+1≤1048576→out.length+([y]:List UInt8).length≤room:=fun y hy=>by show out.length+1≤room; unfold room; omega
   cases h95:s.getD i 0==95 with
   | true =>
    have hx:=beq_iff_eq.1 h95;have h61:(s.getD i 0==61)=false:=by rw [hx]; rfl
    rw [hno 95 hx (by decide),yd,h95,h61,yc,yd,Nat.add_zero] at hst;rw [hst] at ho hk ⊢;simp only [yg] at ho hk;rw [yc,dT (hroom 32 (by omega)),yc,qz (by omega),qmF m s hl n (i+1) _ k (by omega) (by rw [yn]; show out.length+1+_≤_; omega) hk,yl];rfl
   | false =>
    cases h61:s.getD i 0==61 with
    | true =>
     rw [yd,yc,hok,yc];cases ht:(z144 s (i:Int) 61).2 with
     | true =>
      rw [ht,yc] at hst;rw [hst] at ho hk ⊢;simp only [yg] at ho hk;rw [yc,dT (hroom _ (by omega)),yc,show IntKind.wrap .i64 ((i:Int)+3)=((i+3:Nat):Int) by rw [IntWalk.i64_in _ (by omega)]; omega,
       qmF m s hl n (i+3) _ k (by omega) (by rw [yn]; show out.length+1+_≤_; omega) hk,yl]
      rfl
     | false =>
      rw [ht,h95,h61,yd,yd,yc] at hst;rw [hst] at ho hk ⊢;simp only [yg] at ho hk;rw [yd,dT (hroom _ (by omega)),yc,qz (by omega),qz (by omega),
       qmF m s hl n (i+1) _ (k+1) (by omega) (by rw [yn]; show out.length+1+_≤_; omega) (by omega),yl]
      rw [show k+1+(qwS 0 (s.drop (i+1))).2=k+((qwS 0 (s.drop (i+1))).2+1) by omega];rfl
    | false =>
     rw [hno _ rfl h61,h95,h61,yd,yd,yd,Nat.add_zero] at hst;rw [hst] at ho hk ⊢;simp only [yg] at ho hk;rw [yd,yd,dT (hroom _ (by omega)),yc,qz (by omega),qmF m s hl n (i+1) _ k (by omega) (by rw [yn]; show out.length+1+_≤_; omega) hk,yl];rfl
  ·rw [dF (by omega),yd,yA (by omega)];show qhM out (k:Int)=qhM (out++[]) _;rw [yG]; rfl
theorem qAw:∀ (s0:List UInt8),(qiJ s0=true)→∃ n,qwl n s0=qhM (z124 s0).1 (z124 s0).2:=fun s h=>⟨s.length+1,by
 have hl:=qg h;have h1:=qlP s 0;have h2:=qlh s 0;have:=qmF (s.length+1) s hl (s.length+1) 0 [] 0 (by omega) (by rw [yw]; show 0+_≤_; omega) (by rw [yw]; omega);rw [yw,List.nil_append,yE] at this;exact this⟩
theorem qAx:∀ (s0:List UInt8),(qpF s0=true)→∃ n,qwJ n s0=qwI (z108 s0):=fun s h=>⟨0,by
 unfold qwJ;rw [show qiJ s=true from h]; rfl⟩
theorem qEf:∀ (s0:List UInt8),(qyr s0=true)→∃ n,qDu n s0=qBs (z92 s0):=fun s h=>⟨0,by
 unfold qDu;rw [show qiJ s=true from h]; rfl⟩
theorem qEg:∀ (s0:List UInt8),(qys s0=true)→∃ n,qDv n s0=qmw (z55 s0):=fun s h=>⟨0,by
 unfold qDv z55;have hi:decide ((0:Int)≤z91 s 63)=s.contains 63:=by
  have:=qJR s 63
  by_cases h:(0:Int)≤Lib.indexByte s 63
  ·rw [dF (by omega)] at this;show decide ((0:Int)≤Lib.indexByte s 63)=_;rw [dT h];cases hc:s.contains 63 with
   | true=>rfl
   | false=>rw [hc] at this; cases this
  ·rw [dT (by omega)] at this;show decide ((0:Int)≤Lib.indexByte s 63)=_;rw [dF h];cases hc:s.contains 63 with
   | false=>rfl
   | true=>rw [hc] at this; cases this
 rw [show qsD s 4=true from h,hi,show qyr s=true from h,show z90 s 4=s.all (fun c=>z36 c 4) from rfl];have hs:decide ((0:Int) < z92 s)=decide (0 < (qwS 0 s).2):=by
  show decide ((0:Int) < ((qwS 0 s).2:Int))=_
  by_cases h:0 < (qwS 0 s).2
  ·rw [dT (by omega),yo h]
  ·rw [dF (by omega),yx h]
 rw [hs];cases (s.all fun c=>z36 c 4) <;> cases s.contains 63 <;> cases decide (0 < (qwS 0 s).2) <;> rfl⟩
theorem qEh:∃ n,qDn n  = qBo (z86 ):=⟨10,by kernel_rfl⟩
theorem qqE (k:List UInt8):∀ l:List (List UInt8×Int),@findM .str (.int .i64) k l=qyo k l
 | []=>rfl
 | p :: l=>by
  show (bif k==p.1 then some p.2 else @findM .str (.int .i64) k l)=_;rw [qqE k l]; rfl
theorem qdL (c:UInt8):∀ s:List UInt8,(bif decide ((0:Int)≤Lib.indexByte s c) then s.take (Lib.indexByte s c).toNat else s)=s.takeWhile fun x=>x != c
 | []=>rfl
 | x :: s=>by
  have ih:=qdL c s;have hg:=Lib.indexByte_ge s c;rw [qxa,List.takeWhile_cons]
  by_cases hx:x=c
  ·subst hx;simp
  ·have h1:(x==c)=false:=beq_eq_false_iff_ne.2 hx;have h2:(x != c)=true:=by rw [bne,h1]; rfl
   rw [h1,h2];simp only [yq,if_false,if_true];rw [← ih]
   by_cases h3:Lib.indexByte s c = -1
   ·rw [h3]; rfl
   ·have h4:(Lib.indexByte s c == -1)=false:=by simpa using h3
    rw [h4];simp only [yq,if_false];rw [dT (by omega),dT (by omega),yc,yc,show (Lib.indexByte s c+1).toNat=(Lib.indexByte s c).toNat+1 by omega,List.take_succ_cons]
theorem qEi:∀ (s0:List UInt8),(qyn s0=true)→∃ n,qDo n s0=qwc (z88 s0):=fun s h=>⟨0,by
 have hl:=qg h;have ht:=qdL 42 s;have hlt:=ib_lt s 42;unfold qDo z88;rw [← ht]
 by_cases hi:(0:Int)≤Lib.indexByte s 42
 ·rw [show decide ((0:Int)≤z91 s 42)=true from dT hi,dT hi,yc,yc];rw [show z91 s 42=Lib.indexByte s 42 from rfl,dT (show (0:Int)≤((0:Nat):Int) by omega),dT (show ((0:Nat):Int)≤Lib.indexByte s 42 by omega),dT (show Lib.indexByte s 42≤((s.length:Nat):Int) by omega)];have hk:qjf (List.drop (Int.toNat ((0:Nat):Int)) (List.take (Int.toNat (Lib.indexByte s 42)) s))=true:=qo (by rw [tn,yw,yz]; omega);rw [hk];rfl
 ·rw [show decide ((0:Int)≤z91 s 42)=false from dF hi,dF hi,yd,yd,show qjf s=true from h];rfl⟩
theorem qIc (s:List UInt8):(z88 s).length≤s.length:=by
 unfold z88 z119;exact yL (qqA _ _) (qcT _ _)
theorem qEj:∀ (s0:List UInt8),(qrt s0=true)→∃ n,qDp n s0=qwd (z53 s0).1 (z53 s0).2:=fun s h=>⟨0,by
 have hl:=qg h;have hb:=qIc s;unfold qDp z53;rw [show qyn s=true from h,show qsC (z88 s)=true from qo (by omega),qqE];cases qyo (z87 (z88 s)) z86 <;> rfl⟩
theorem qEk:∀ (w0:(List UInt8)×(Int×((List UInt8)×Unit))),(qru w0=true)→∃ n,qDq n w0=qwe (z52 w0):=fun w h=>⟨0,by
 unfold qDq z52 csOf;rw [show qrt w.1=true from h];cases ((z53 w.1).2 != 0) <;> rfl⟩
theorem qEl:∀ (w0:(List UInt8)×(Int×((List UInt8)×Unit))),(qyw w0=true)→∃ n,qDC n w0=qwK (z64 w0):=fun w h=>⟨0,by
 unfold qDC z64 octOf;rw [show qpE w.2.2.1=true from h,show qpF w.2.2.1=true from h];cases (w.2.1==1) <;> rfl⟩
theorem qxg {σ:Type} (sp:Bool×Bool×σ) (x:σ) (R N:σ→Option AV) (E:σ→Bool×σ) (hN:∀ y,(E y).1=true→N y=R (E y).2) (h:(bif sp.1 then bif sp.2.1 then E sp.2.2 else (true,sp.2.2) else (false,x)).1=true) :
 (bif sp.1 then bif (!sp.2.1) then R sp.2.2 else N sp.2.2 else none)=R (bif sp.1 then bif sp.2.1 then E sp.2.2 else (true,sp.2.2) else (false,x)).2:=by
 obtain ⟨a,b,y⟩:=sp;cases a with
 | false=>cases h
 | true =>
  cases b with
  | false=>rfl
  | true=>exact hN y h
theorem qqF (V:Sigma Inv) (j:Nat) (s s29:List UInt8) (hl:s.length≤1048576):∀ (d i n:Nat) (x:Den V.1),i+d=s.length→d < n→(eachB (fun x a0 a1=>V.2.spec x [⟨.byte,a0⟩,⟨(.int .i64),a1⟩]) x (s.drop i)).1=true →
 qeP V (qby V) (qcv V j) n s (s.length:Nat) (i:Nat) x s29=qby V (eachB (fun x a0 a1=>V.2.spec x [⟨.byte,a0⟩,⟨(.int .i64),a1⟩]) x (s.drop i)).2 s29
 | d,i,0,x,hi,hn,_=>by omega
 | 0,i,n+1,x,hi,hn,h=>by
  obtain rfl:i=s.length:=by omega
  show qdE V _ _ _ n _ _ _ _ _=_;unfold qdE qw;rw [dF (by omega),yd,List.drop_length];rfl
 | d+1,i,n+1,x,hi,hn,h=>by
  show qdE V _ _ (qeP V (qby V) (qcv V j) n) n _ _ _ _ _=_;unfold qdE qw;have hlt:i < s.length:=by omega
  have e:eachB (fun x a0 a1=>V.2.spec x [⟨.byte,a0⟩,⟨(.int .i64),a1⟩]) x (s.drop i)=bif s.getD i 0==61 then (true,x) else
   bif (V.2.spec x [⟨.byte,s.getD i 0⟩,⟨(.int .i64),(bif (z121 (s.getD i 0)).2 then (z121 (s.getD i 0)).1 else -1)⟩]).1 then
    bif (V.2.spec x [⟨.byte,s.getD i 0⟩,⟨(.int .i64),(bif (z121 (s.getD i 0)).2 then (z121 (s.getD i 0)).1 else -1)⟩]).2.1 then
     eachB (fun x a0 a1=>V.2.spec x [⟨.byte,a0⟩,⟨(.int .i64),a1⟩]) (V.2.spec x [⟨.byte,s.getD i 0⟩,⟨(.int .i64),(bif (z121 (s.getD i 0)).2 then (z121 (s.getD i 0)).1 else -1)⟩]).2.2 (s.drop (i+1))
    else (true,(V.2.spec x [⟨.byte,s.getD i 0⟩,⟨(.int .i64),(bif (z121 (s.getD i 0)).2 then (z121 (s.getD i 0)).1 else -1)⟩]).2.2)
   else (false,x):=by
   rw [qdF hlt]; rfl
  rw [e] at h ⊢;simp (disch:=omega) only [dT,yc,yi,tn];cases h61:s.getD i 0==61 with
  | true=>rfl
  | false =>
   rw [h61] at h;rw [yd] at h ⊢;rw [yd];have hN:∀ y,(eachB (fun x a0 a1=>V.2.spec x [⟨.byte,a0⟩,⟨(.int .i64),a1⟩]) y (s.drop (i+1))).1=true→qeP V (qby V) (qcv V j) n s (s.length:Nat) (IntKind.wrap .i64 (((i:Nat):Int)+1)) y s29=qby V (eachB (fun x a0 a1=>V.2.spec x [⟨.byte,a0⟩,⟨(.int .i64),a1⟩]) y (s.drop (i+1))).2 s29:=fun y hy=>by
    rw [qz (by omega)];exact qqF V j s s29 hl d (i+1) n y (by omega) (by omega) hy
   cases hv:(z121 (s.getD i 0)).2 with
   | true =>
    rw [hv] at h;exact qxg (V.2.spec x [⟨.byte,s.getD i 0⟩,⟨(.int .i64),(z121 (s.getD i 0)).1⟩]) x (fun y=>qby V y s29) _ _ hN h
   | false =>
    rw [hv] at h;exact qxg (V.2.spec x [⟨.byte,s.getD i 0⟩,⟨(.int .i64),-1⟩]) x (fun y=>qby V y s29) _ _ hN h
theorem qAy (V:Sigma Inv):∀ (x0:Den V.1) (x1:List UInt8),(z173 (fun x a0 a1=>V.2.spec x [⟨.byte,a0⟩,⟨(.int .i64),a1⟩]) x0 x1).1=true→∃ n,qqy V n x0 x1=qby V (z173 (fun x a0 a1=>V.2.spec x [⟨.byte,a0⟩,⟨(.int .i64),a1⟩]) x0 x1).2.1 (z173 (fun x a0 a1=>V.2.spec x [⟨.byte,a0⟩,⟨(.int .i64),a1⟩]) x0 x1).2.2:=fun x s h=>⟨s.length+1,by
 unfold z173 at h ⊢;cases hk:lenOk s with
 | false=>rw [hk] at h; cases h
 | true =>
  rw [hk,yc] at h;rw [yc];unfold qqy;have:=qqF V (s.length+1) s s (qg hk) s.length 0 (s.length+1) x (by omega) (by omega) (by rw [yw]; exact h);rw [yw] at this;exact this⟩
theorem qAz (c:UInt8) (r:List UInt8):digB (c :: r)=bif c==61 then [] else bif isB64 c then c :: digB r else digB r:=by
 unfold digB;rw [List.takeWhile_cons];cases h:c==61 with
 | true =>
  have:(c != 61)=false:=by rw [bne,h]; rfl
  rw [this]; rfl
 | false =>
  have:(c != 61)=true:=by rw [bne,h]; rfl
  rw [this,if_pos rfl,yd,List.filter_cons];cases isB64 c <;> rfl
theorem qEm (j:Nat) (c:UInt8) (out:List UInt8) (h m:Int):qfI j (false,(out,(h,(m,())))) c (-1)=(true,true,(false,(out,(h,(m,()))))):=by
 unfold qfI;rw [show decide ((-1:Int) < 0)=true from rfl,yc];show (bif false then _ else yfin _ _ _)=_;rw [yd,qpg]; rfl
theorem qAA (j:Nat) (c:UInt8) (out:List UInt8) (h m n:Nat) (hm:m=0∨m=2∨m=4∨m=6) (hh:h < 2 ^ m) (hn:n < 64) (ho:out.length+1≤room) :
 qfI j (false,(out,((h:Int),((m:Int),())))) c (n:Int)=(true,true,(false,(out++decO m h n,(((decH m h n:Nat):Int),(((decM m:Nat):Int),()))))):=by
 unfold qfI;rw [dF (show ¬ (n:Int) < 0 by omega),yd];have hs:=qBE (fun o (h m:Int)=>(some (.dat (.pair .bool (.pair (.sl .byte) (.pair (.int .i64) (.pair (.int .i64) .unit)))) (false,(o,(h,(m,())))) none):Option AV)) none out h m n hm hh hn ho;refine (show _=yfin (.pair (.sl .byte) (.pair (.int .i64) (.pair (.int .i64) .unit))) (false,(out,((h:Int),((m:Int),())))) (decT (fun o (h m:Int)=>(some (.dat (.pair .bool (.pair (.sl .byte) (.pair (.int .i64) (.pair (.int .i64) .unit)))) (false,(o,(h,(m,())))) none):Option AV)) none out h m n) from rfl).trans ?_;rw [hs,qpg]; rfl
theorem qih (j:Nat):∀ (s t out:List UInt8) (h m:Nat),DecSt t out m h→out.length+s.length≤1048576 →
 ∃ (out':List UInt8) (h' m':Nat),eachB (qfI j) (false,(out,((h:Int),((m:Int),())))) s=(true,(false,(out',((h':Int),((m':Int),())))))∧DecSt (t++digB s) out' m' h'
 | [],t,out,h,m,e,_=>⟨out,h,m,rfl,by rw [show digB []=[] from rfl,yG]; exact e⟩
 | c :: r,t,out,h,m,e,hl=>by
  rw [qAz];simp only [yg] at hl;cases h61:c==61 with
  | true =>
   refine ⟨out,h,m,?_,by rw [yc,yG]; exact e⟩;show (bif c==61 then _ else _)=_;rw [h61]; rfl
  | false =>
   rw [yd];cases hv:(z121 c).2 with
   | false =>
    rw [show isB64 c=false from hv,yd];obtain ⟨out',h',m',k1,k2⟩:=qih j r t out h m e (by omega);refine ⟨out',h',m',?_,k2⟩;unfold eachB;rw [h61,yd,hv,yd,qEm,← k1]; rfl
   | true =>
    obtain ⟨v,hv1,hv2⟩:=qBD c;rw [show isB64 c=true from hv,yc];have hd:=qxe m h v;obtain ⟨out',h',m',k1,k2⟩:=qih j r (t++[c]) (out++decO m h v) (decH m h v) (decM m) (e.step c v hv1 hv2) (by rw [yn]; omega);refine ⟨out',h',m',?_,by rw [yl] at k2; exact k2⟩;unfold eachB;rw [h61,yd,hv,yc,hv1,qAA j c out h m v e.cases e.lt hv2 (by unfold room; omega),← k1]; rfl
theorem qAB:∀ (s0:List UInt8),(qpD s0=true)→∃ n,qwF n s0=qoz (z137 s0).1 (z137 s0).2:=fun s h=>⟨0,by
 have hl:=qg h;obtain ⟨out,hh,m,k1,k2⟩:=qih 0 s [] [] 0 0 DecSt.nil (by simpa using hl);have k3:=k2.octets;rw [List.nil_append] at k3;have e:z173 (qfI 0) (false,(([]:List UInt8),((0:Int),((0:Int),())))) s=(true,(false,(out,((hh:Int),((m:Int),())))),s):=by
  unfold z173;rw [show lenOk s=true from h,yc];have k1':eachB (qfI 0) (false,(([]:List UInt8),((0:Int),((0:Int),())))) s=(true,(false,(out,((hh:Int),((m:Int),()))))):=k1;rw [k1']
 unfold qwF qeQ qdc;rw [e];simp only [yc,yd,qaj];unfold z137;rw [k3.1,k3.2.1]⟩
theorem qAC:∀ (s0:List UInt8),(qpE s0=true)→∃ n,qwH n s0=qwG (z107 s0):=fun s h=>⟨0,by
 unfold qwH;rw [show qpD s=true from h]; rfl⟩
theorem qAD:∀ (c0:UInt8),∃ n,qwu n c0=qdX (z132 c0):=fun c=>⟨0,by
 unfold qwu z132 qn;cases decide (c < 128) <;> cases decide (c < 194) <;> cases decide (244 < c) <;> cases decide (c < 224) <;> cases decide (c < 240) <;> rfl⟩
theorem qmG:∀ i:Fin 256,(((UInt8.ofNat i.val) &&& ~~~ (63:UInt8))==(128:UInt8))=z159 (UInt8.ofNat i.val):=by decide +kernel
theorem qAE:∀ (c0:UInt8),∃ n,qww n c0=qwv (z159 c0):=fun c=>⟨0,by
 unfold qww;rw [qlR (P:=fun c=>((c &&& ~~~ (63:UInt8))==(128:UInt8))=z159 c) qmG c]⟩
theorem qAF:∀ (first0:UInt8) (c1:UInt8),∃ n,qwx n first0 c1=qbR (z160 first0 c1):=fun f c=>⟨0,by
 unfold qwx z160;cases (f==224) <;> cases (f==237) <;> cases (f==240) <;> cases (f==244) <;> cases decide (160≤c) <;> cases decide (c < 160) <;> cases decide (144≤c) <;> cases decide (c < 144) <;> rfl⟩
theorem qBF:∀ (f:UInt8) (n:Nat) (one:Bool) (s:List UInt8),runB f n one s≤n∧runB f n one s≤s.length
 | f,0,one,s=>by cases s <;> exact ⟨yv _,Nat.zero_le _⟩
 | f,n+1,one,[]=>⟨Nat.zero_le _,Nat.zero_le _⟩
 | f,n+1,one,x :: r=>by
  have ih:=qBF f n false r;show (bif z159 x&&(!one||z160 f x) then runB f n false r+1 else 0)≤n+1∧(bif z159 x&&(!one||z160 f x) then runB f n false r+1 else 0)≤r.length+1;cases z159 x&&(!one||z160 f x)
  ·exact ⟨Nat.zero_le _,Nat.zero_le _⟩
  ·simp only [yc]; omega
theorem qqG (c:UInt8):qn c≤4:=by
 unfold qn;cases decide (c < 128) <;> cases decide (c < 194)||decide (244 < c) <;> cases decide (c < 224) <;> cases decide (c < 240) <;> decide
theorem qxh (m:Nat) (x:UInt8) (r:List UInt8) (hl:r.length≤1048576):∀ (d i n:Nat),qn x=i+d→1≤i→i≤r.length+1→d < n →
 qfH qaH (qah m) n (x :: r) (i:Nat)=qaH ((i+runB x d (i==1) (r.drop (i - 1)):Nat):Int)
 | d,i,0,_,_,_,hn=>by omega
 | 0,i,n+1,hs,hi,hr,hn=>by
  show qbJ _ _ _ n _ _=_;unfold qbJ;have e0:z132 (List.getD (x :: r) (Int.toNat 0) 0)=((qn x:Nat):Int):=rfl;have h0:decide ((0:Int) < (((x :: r).length:Nat):Int))=true:=dT (by simp only [yg]; omega);rw [e0,h0,dF (show ¬ ((i:Nat):Int) < ((qn x:Nat):Int) by omega)];have hr0:runB x 0 (i==1) (r.drop (i - 1))=0:=by cases r.drop (i - 1) <;> rfl
  rw [hr0];show qah m (x :: r) ((i:Nat):Int)=_;unfold qah;rw [e0,h0];show qaH (bif decide (((qn x:Nat):Int) < ((i:Nat):Int)) then _ else _)=_;rw [dF (by omega)]; rfl
 | d+1,i,n+1,hs,hi,hr,hn=>by
  show qbJ _ _ _ n _ _=_;unfold qbJ;have e0:z132 (List.getD (x :: r) (Int.toNat 0) 0)=((qn x:Nat):Int):=rfl;have h0:decide ((0:Int) < (((x :: r).length:Nat):Int))=true:=dT (by simp only [yg]; omega);rw [e0,h0,dT (show ((i:Nat):Int) < ((qn x:Nat):Int) by omega)];simp only [yc,yi,show decide ((0:Int)≤0)=true from rfl]
  by_cases hlt:i < (x :: r).length
  ·have hlt':i - 1 < r.length:=by simp only [yg] at hlt; omega
   obtain ⟨y,hy⟩:∃ y,r.getD (i - 1) 0=y:=⟨_,rfl⟩;have hg:(x :: r).getD i 0=y:=by
    obtain ⟨k,rfl⟩:∃ k,i=k+1:=⟨i - 1,by omega⟩;exact hy
   have hdr:r.drop (i - 1)=y :: r.drop i:=by
    have:=qdF hlt';rw [this,hy,show i - 1+1=i by omega]
   rw [dT (show ((i:Nat):Int) < (((x :: r).length:Nat):Int) by omega),dT (show (0:Int)≤((i:Nat):Int) by omega),tn,hg,hdr];simp only [yc,yi];have hrun:runB x (d+1) (i==1) (y :: r.drop i)=bif z159 y&&(!(i==1)||z160 x y) then runB x d false (r.drop i)+1 else 0:=rfl
   have ih:=qxh m x r hl d (i+1) n (by omega) (by omega) (by simp only [yg] at hlt; omega) (by omega);rw [show i+1 - 1=i by omega,show (i+1==1)=false by simp; omega] at ih;rw [hrun];cases hf:z159 y with
   | false=>simp only [Bool.not_false,yc,Bool.false_and,yd,Nat.add_zero]
   | true =>
    simp only [Bool.not_true,yd,y5];have hfin:qfH qaH (qah m) n (x :: r) (IntKind.wrap .i64 (((i:Nat):Int)+1))=qaH ((i+(runB x d false (r.drop i)+1):Nat):Int):=by
     rw [qz (by omega),ih,show i+1+runB x d false (r.drop i)=i+(runB x d false (r.drop i)+1) by omega]
    by_cases h1:i=1
    ·subst h1;rw [show (((1:Nat):Int)==1)=true from rfl,show ((1:Nat)==1)=true from rfl,yc,dT (show (1:Int) < (((x :: r).length:Nat):Int) by omega)];simp only [show decide ((0:Int)≤1)=true from rfl,yi,yc];have e1:List.getD (x :: r) (Int.toNat 1) 0=y:=hg;have e2:List.getD (x :: r) (Int.toNat 0) 0=x:=rfl;rw [e1,e2];cases hs2:z160 x y with
     | false=>rfl
     | true =>
      simp only [Bool.not_true,yd,Bool.false_or,yc];exact hfin
    ·rw [show (((i:Nat):Int)==1)=false by simp; omega,show (i==1)=false by simpa using h1];simp only [yd,Bool.not_false,Bool.true_or,yc];exact hfin
  ·have hi2:i=r.length+1:=by simp only [yg] at hlt; omega
   rw [dF (show ¬ ((i:Nat):Int) < (((x :: r).length:Nat):Int) by omega),yd,yA (by omega)];show qah m (x :: r) ((i:Nat):Int)=qaH ((i+0:Nat):Int);unfold qah;rw [e0,h0];show qaH (bif decide (((qn x:Nat):Int) < ((i:Nat):Int)) then _ else _)=_;rw [dF (by omega)]; rfl
theorem qAG:∀ (s0:List UInt8),(qiH s0=true)→∃ n,qqq n s0=qaH (z131 s0):=fun s h=>⟨6,by
 unfold qiH at h;rw [yf] at h;have hl:=qg h.1;match s,h.2 with
 | x :: r,_ =>
  simp only [yg] at hl;have h4:=qqG x;have ef:z131 (x :: r)=((bif qn x==0 then 0 else 1+runB x (qn x - 1) true r:Nat):Int):=rfl;unfold qqq;rw [ef]
  by_cases h0:qn x=0
  ·rw [show (qn x==0)=true by simpa using h0,yc];have e0:z132 (List.getD (x :: r) (Int.toNat 0) 0)=((qn x:Nat):Int):=rfl;have h0':decide ((0:Int) < (((x :: r).length:Nat):Int))=true:=dT (by simp only [yg]; omega);show qbJ qaH (qah 6) _ 5 (x :: r) 1=_;unfold qbJ;rw [e0,h0',dF (show ¬ (1:Int) < ((qn x:Nat):Int) by omega)];show qah 6 (x :: r) 1=_;unfold qah;rw [e0,h0'];show qaH (bif decide (((qn x:Nat):Int) < (1:Int)) then ((qn x:Nat):Int) else _)=_;rw [dT (by omega),h0]; rfl
  ·rw [show (qn x==0)=false by simpa using h0,yd];have:=qxh 6 x r (by omega) (qn x - 1) 1 6 (by omega) (yv 1) (by omega) (by omega);rw [show (1:Nat) - 1=0 from rfl,yw] at this;exact this⟩
theorem qEn (a b:Nat) (hb:b < 64) (h:a*64+b < 2147483648):bits .or .i32 ((a*64:Nat):Int) (b:Int)=((a*64+b:Nat):Int):=by
 have h1:(BitVec.ofInt 32 ((a*64:Nat):Int)).toNat=a*64:=by rw [BitVec.toNat_ofInt]; omega
 have h2:(BitVec.ofInt 32 ((b:Nat):Int)).toNat=b:=by rw [BitVec.toNat_ofInt]; omega
 have h3:(BitVec.ofInt 32 ((a*64:Nat):Int) ||| BitVec.ofInt 32 (b:Int)).toNat=a*64+b:=by
  rw [BitVec.toNat_or,h1,h2];have:=Nat.shiftLeft_add_eq_or_of_lt (i:=6) hb a;rw [Nat.shiftLeft_eq] at this;exact this.symm
 show IntKind.wrap .i32 (((BitVec.ofInt 32 ((a*64:Nat):Int) ||| BitVec.ofInt 32 (b:Int)).toNat:Nat):Int)=_;rw [h3,IntWalk.i32_in _ (by omega)]
def foldS (t:List UInt8) (c:Int):Int:=t.foldl (fun c y=>c*64+((y &&& 63).toNat:Int)) c
theorem qxi:∀ i:Fin 256,((UInt8.ofNat i.val) &&& (63:UInt8)).toNat < 64:=by decide +kernel
theorem low6 (y:UInt8):(y &&& 63).toNat < 64:=qlR (P:=fun y=>(y &&& 63).toNat < 64) qxi y
theorem qiY (m:Nat) (t:List UInt8) (n5:Int) (hl:t.length≤1048576):∀ (d i n b c:Nat),i+d=t.length→d < n→c < b→b*64 ^ d≤67108864 →
 qcZ (qcd m) n n5 (c:Int) t (t.length:Nat) (i:Nat)=qcu (foldS (t.drop i) c) n5 0
 | d,i,0,b,c,hi,hn,_,_=>by omega
 | 0,i,n+1,b,c,hi,hn,_,_=>by
  obtain rfl:i=t.length:=by omega
  show qcc _ _ n _ _ _ _ _=_;unfold qcc;rw [dF (by omega),yd,List.drop_length];rfl
 | d+1,i,n+1,b,c,hi,hn,hc,hb=>by
  show qcc _ _ n _ _ _ _ _=_;unfold qcc;have hlt:i < t.length:=by omega
  have h64:0 < 64 ^ d:=Nat.pow_pos (by decide);have hb':b*64*64 ^ d≤67108864:=by rw [Nat.pow_succ] at hb; rwa [Nat.mul_assoc,Nat.mul_comm 64]
  have hb2:b*64≤b*64*64 ^ d:=Nat.le_mul_of_pos_right _ h64;have hy:=low6 (t.getD i 0);simp (disch:=omega) only [dT,yc,yi,tn];have e1:IntKind.wrap .i32 ((c:Int)*2 ^ (min (Int.toNat (6:Int)) (IntKind.bits .i32)))=((c*64:Nat):Int):=by
   show IntKind.wrap .i32 ((c:Int)*64)=_;rw [IntWalk.i32_in _ (by omega)]; omega
  rw [e1,IntWalk.i32_in _ (by omega),qEn _ _ hy (by omega),qz (by omega),qiY m t n5 hl d (i+1) n (b*64) _ (by omega) (by omega) (by omega) hb',qdF hlt];show _=qcu (foldS (t.drop (i+1)) ((c:Int)*64+(((t.getD i 0) &&& 63).toNat:Int))) n5 0;congr 2
theorem qxj:∀ i:Fin 256,∀ n:Fin 5,((UInt8.ofNat i.val) &&& ~~~ (z133 ((n.val:Nat):Int)))=((UInt8.ofNat i.val) &&& (255 ^^^ (z133 ((n.val:Nat):Int)))):=by decide +kernel
theorem qId (x:UInt8) (n:Nat) (hn:n < 5):(x &&& ~~~ (z133 ((n:Nat):Int)))=(x &&& (255 ^^^ (z133 ((n:Nat):Int)))):=qlR (P:=fun x=>∀ n:Fin 5,(x &&& ~~~ (z133 ((n.val:Nat):Int)))=(x &&& (255 ^^^ (z133 ((n.val:Nat):Int))))) qxj x ⟨n,hn⟩
theorem qBG (x:UInt8) (r:List UInt8):farN (x :: r)≤qn x∧farN (x :: r)≤r.length+1:=by
 show (bif qn x==0 then 0 else 1+runB x (qn x - 1) true r)≤_∧(bif qn x==0 then 0 else 1+runB x (qn x - 1) true r)≤_;have:=qBF x (qn x - 1) true r;cases h:qn x==0 with
 | true=>exact ⟨Nat.zero_le _,Nat.zero_le _⟩
 | false =>
  rw [yB] at h;simp only [yd]; omega
theorem qAH:∀ (s0:List UInt8),(qpy s0=true)→∃ n,qqr n s0=qcu (z102 s0).1 (z102 s0).2.1 (z102 s0).2.2:=fun s h=>⟨s.length+5,by
 have hl:=qg h;match s with
 | []=>rfl
 | x :: r =>
  simp only [yg] at hl;have hf:=qBG x r;have h4:=qqG x;obtain ⟨N,hN⟩:∃ N,farN (x :: r)=N:=⟨_,rfl⟩;have eT:z102 (x :: r)=bif farN (x :: r)==0 then ((0:Int),((1:Int),(3:Int))) else bif decide (farN (x :: r) < qn x)&&(farN (x :: r)==(x :: r).length) then (0,(farN (x :: r):Nat),4)
   else bif decide (farN (x :: r) < qn x) then (0,(farN (x :: r):Nat),3) else (signN (farN (x :: r)) (x :: r),(farN (x :: r):Nat),0):=rfl
  have eF:z131 (x :: r)=(N:Int):=by rw [← hN]; rfl
  have eS:z132 (List.getD (x :: r) (Int.toNat 0) 0)=((qn x:Nat):Int):=rfl;have hok:qiH (x :: r)=true:=by
   unfold qiH;rw [qo (show (x :: r).length≤1048576 by simp only [yg]; omega)]; rfl
  have h0:decide ((0:Int) < (((x :: r).length:Nat):Int))=true:=dT (by simp only [yg]; omega);have h00:((((x :: r).length:Nat):Int)==0)=false:=by rw [yB]; simp only [yg]; omega
  rw [eT,hN];rw [hN] at hf;unfold qqr qeM qeL qda qce qbw;rw [eF,eS,hok,h0,h00];simp only [yi,yc,yd,show decide ((0:Int)≤0)=true from rfl]
  by_cases hz:N=0
  ·subst hz; rfl
  ·rw [show (((N:Nat):Int)==0)=false by rw [yB]; omega,show (N==0)=false by simpa using hz];simp only [yd]
   by_cases hs:N < qn x
   ·rw [dT (show ((N:Nat):Int) < ((qn x:Nat):Int) by omega),yo hs];simp only [yc,y5]
    by_cases hlN:N=(x :: r).length
    ·rw [show (((N:Nat):Int)==(((x :: r).length:Nat):Int))=true by rw [beq_iff_eq]; omega,show (N==(x :: r).length)=true by simpa using hlN];rfl
    ·rw [show (((N:Nat):Int)==(((x :: r).length:Nat):Int))=false by rw [yB]; omega,show (N==(x :: r).length)=false by simpa using hlN];rfl
   ·rw [dF (show ¬ ((N:Nat):Int) < ((qn x:Nat):Int) by omega),yx hs];simp only [yd,Bool.false_and];rw [dT (show (1:Int)≤((N:Nat):Int) by omega),dT (show ((N:Nat):Int)≤(((x :: r).length:Nat):Int) by simp only [yg]; omega)];simp only [show decide ((0:Int)≤1)=true from rfl,yi,yc,tn];have e1:List.drop (Int.toNat 1) (List.take N (x :: r))=r.take (N - 1):=by
     obtain ⟨k,rfl⟩:∃ k,N=k+1:=⟨N - 1,by omega⟩;rfl
    have e2:List.getD (x :: r) (Int.toNat 0) 0=x:=rfl;rw [e1,e2,qId x N (by omega)];have hx:=(x &&& (255 ^^^ z133 ((N:Nat):Int))).toNat_lt;have ht:(r.take (N - 1)).length=N - 1:=by rw [yz]; omega
    rw [IntWalk.i32_in _ (by omega)];have:=qiY ((x :: r).length+5) (r.take (N - 1)) (N:Int) (by omega) (r.take (N - 1)).length 0 ((x :: r).length+5) 256 _ (by omega) (by simp only [yg]; omega) hx (by
     rw [ht];have:N - 1=0∨N - 1=1∨N - 1=2∨N - 1=3:=by omega
     rcases this with e | e | e | e <;> rw [e] <;> decide)
    rw [yw] at this;exact this⟩
theorem qEo:∀ (c0:Int) (e1:Int) (x2:List Int),(qyv c0 e1 x2=true)→∃ n,qDz n c0 e1 x2=qwt (z62 c0 e1 x2):=fun c e t h=>⟨0,by
 have hl:t.length≤2097152:=of_decide_eq_true h;unfold qDz z62;have hr:∀ y:Int,t.length+([y]:List Int).length≤room:=fun y=>by show t.length+1≤room; unfold room; omega
 rw [dT (hr 65533),dT (hr c)];cases (e != 0) <;> rfl⟩
theorem qIe (x:UInt8) (r:List UInt8):(z102 (x :: r)).2.1=((z102 (x :: r)).2.1.toNat:Int)∧(z102 (x :: r)).2.1.toNat≤r.length+1:=by
 have hf:=qBG x r;show ((bif farN (x :: r)==0 then ((0:Int),((1:Int),(3:Int))) else bif decide (farN (x :: r) < qn x)&&(farN (x :: r)==(x :: r).length) then (0,(farN (x :: r):Nat),4)
  else bif decide (farN (x :: r) < qn x) then (0,(farN (x :: r):Nat),3) else (signN (farN (x :: r)) (x :: r),(farN (x :: r):Nat),0)).2.1=(((bif farN (x :: r)==0 then ((0:Int),((1:Int),(3:Int))) else bif decide (farN (x :: r) < qn x)&&(farN (x :: r)==(x :: r).length) then (0,(farN (x :: r):Nat),4)
  else bif decide (farN (x :: r) < qn x) then (0,(farN (x :: r):Nat),3) else (signN (farN (x :: r)) (x :: r),(farN (x :: r):Nat),0)).2.1.toNat:Nat):Int))∧(bif farN (x :: r)==0 then ((0:Int),((1:Int),(3:Int))) else bif decide (farN (x :: r) < qn x)&&(farN (x :: r)==(x :: r).length) then (0,(farN (x :: r):Nat),4)
  else bif decide (farN (x :: r) < qn x) then (0,(farN (x :: r):Nat),3) else (signN (farN (x :: r)) (x :: r),(farN (x :: r):Nat),0)).2.1.toNat≤r.length+1
 cases farN (x :: r)==0
 ·cases decide (farN (x :: r) < qn x)&&(farN (x :: r)==(x :: r).length)
  ·cases decide (farN (x :: r) < qn x)
   ·exact ⟨rfl,hf.2⟩
   ·exact ⟨rfl,hf.2⟩
  ·exact ⟨rfl,hf.2⟩
 ·exact ⟨rfl,by show 1≤_; omega⟩
theorem qxk (m:Nat):∀ (n k:Nat) (s:List UInt8) (t:List Int),s.length < n→s.length < k→s.length≤1048576→t.length+s.length≤2097152 →
 qbK (qbi m) n s t=qbx (t++utfR k s)
 | 0,k,s,t,hn,_,_,_=>by omega
 | n+1,0,s,t,_,hk,_,_=>by omega
 | n+1,k+1,[],t,_,_,_,_=>by
  show qbx t=qbx (t++[]);rw [yG]
 | n+1,k+1,x :: r,t,hn,hk,hl,ht=>by
  show qdx _ (qbK (qbi m) n) n _ _=_;unfold qdx;simp only [yg] at hn hk hl ht;obtain ⟨e1,e2⟩:=qIe x r;have e3:=qtR x r;rw [dT (show (0:Int) < (((x :: r).length:Nat):Int) by simp only [yg]; omega),show qpy (x :: r)=true from qo (by simp only [yg]; omega),
   show qyv (z102 (x :: r)).1 (z102 (x :: r)).2.2 t=true from yo (by omega)]
  generalize hw:(z102 (x :: r)).2.1.toNat=w at e1 e2 e3;rw [e1,dT (show (0:Int)≤(w:Int) by omega),dT (show (w:Int)≤(((x :: r).length:Nat):Int) by simp only [yg]; omega),dT (Int.le_refl _)];simp only [yc,yi,tn,List.take_length];have hd:((x :: r).drop w).length≤r.length:=by rw [yK,yg]; omega
  have hd2:((x :: r).drop w).length+1≤r.length+1:=by omega
  rw [qxk m n k ((x :: r).drop w) (z62 (z102 (x :: r)).1 (z102 (x :: r)).2.2 t) (by omega) (by omega) (by omega) (by unfold z62; rw [yn]; show t.length+1+_≤_; omega)];show qbx _=qbx (t++((bif (z102 (x :: r)).2.2 != 0 then 65533 else (z102 (x :: r)).1) :: utfR k ((x :: r).drop (z102 (x :: r)).2.1.toNat)));rw [hw];unfold z62;rw [yl]; rfl
theorem qss:∀ (s0:List UInt8) (f1:List Int),(qdk s0 f1=true)→∃ n,qkZ n s0 f1=qbx (qCH s0 f1):=fun s t h=>⟨s.length+1,by
 unfold qdk at h;rw [yf,ym] at h;have hl:=qg h.1;exact qxk (s.length+1) (s.length+1) (s.length+1) s t (by omega) (by omega) hl (by omega)⟩
theorem qEp:∀ (s0:List UInt8),(qfX s0=true)→∃ n,qDA n s0=qBy (z38 s0):=fun s h=>⟨0,by
 unfold qDA;have hok:qdk s []=true:=by unfold qdk; rw [show lenOk s=true from h]; rfl
 first
  | (rw [hok]; rfl)
  | rfl⟩
theorem qBH (ret:Bool→Option AV) (a b:List Int) (hab:a.length=b.length) (hl:a.length≤1048576):∀ (d i n:Nat),i+d=a.length→d < n →
 z8_l4 ret (ret true) n a b (i:Nat)=ret (decide (a.drop i=b.drop i))
 | d,i,0,hi,hn=>by omega
 | 0,i,n+1,hi,hn=>by
  show qiM ret (ret true) (z8_l4 ret (ret true) n) n a b _=_;unfold qiM;rw [yx (by omega),yd,yA (by omega),yA (by omega)];rfl
 | d+1,i,n+1,hi,hn=>by
  show qiM ret (ret true) (z8_l4 ret (ret true) n) n a b _=_;unfold qiM;have hlt:i < a.length:=by omega
  have hlt':i < b.length:=by omega
  have ih:=qBH ret a b hab hl d (i+1) n (by omega) (by omega);simp (disch:=omega) only [dT,yc,yi,tn,qz];rw [ih,qzL hlt hlt' 0];cases (a.getD i 0 != b.getD i 0) <;> rfl
theorem qIf:∀ (a0:List Int) (b1:List Int),(z8_ok a0 b1=true)→∃ n,z8_sh n a0 b1=qso (z8 a0 b1):=fun a b h=>⟨a.length+1,by
 unfold z8_sh z8
 by_cases hab:a.length=b.length
 ·rw [show (((a.length:Nat):Int) != ((b.length:Nat):Int))=false by simp [hab],yd];exact qBH qso a b hab (qg h) a.length 0 (a.length+1) (by omega) (by omega)
 ·rw [show (((a.length:Nat):Int) != ((b.length:Nat):Int))=true by simp only [bne_iff_ne,ne_eq]; omega,yc,yx (fun e=>hab (by rw [e]))]⟩
theorem qcA (s:List UInt8):(z51 s).1.1.length≤s.length:=by
 have hs:=qgk 63 s [];unfold z51;generalize cutC 63 [] s=l at hs ⊢;unfold qmJ;split
 ·rename_i a b c d e;simp only [yI,List.map_nil,List.sum_cons,List.sum_nil,List.length_nil] at hs;cases decide (a=[61])&&decide (e=[61])
  ·exact Nat.zero_le _
  ·rw [yc];cases (codeL c==0)||(!(fullB b 64) || !(fullB d 4))
   ·cases decide (75 < s.length)
    ·show b.length≤_; omega
    ·exact Nat.zero_le _
   ·exact Nat.zero_le _
 ·exact Nat.zero_le _
theorem qEq:∀ (s0:List UInt8),(qir s0=true)→∃ n,qDD n s0=qwL (z39 s0).1 (z39 s0).2:=fun s h=>⟨0,by
 have hl:=qg h;have h1:=qcA s;have h2:=qjP s;have h3:=qpw (z51 s).1;unfold qDD qgz;rw [show qiw s=true from h,show qru (z51 s).1=true from qo (by omega),show qyw (z51 s).1=true from qo (by omega),
  show qym (z52 (z51 s).1) (z64 (z51 s).1)=true from qo (by show (octOf _).length≤_; omega)]
 simp only [yi,yc,qaj];unfold z39;cases ((z51 s).2 != 0) <;> rfl⟩
theorem qEr:∀ (s0:List UInt8),(qyu s0=true)→∃ n,qDr n s0=qwf (z31 s0):=fun s h=>⟨0,by
 have hl:=qg h;have h1:=qcA s;unfold qDr z31;rw [show qiw s=true from h,show qru (z51 s).1=true from qo (by omega)];cases ((z51 s).2 != 0) <;> rfl⟩
theorem qEs:∀ (s0:List UInt8),(qyt s0=true)→∃ n,qDw n s0=qiR (z33 s0):=fun s h=>⟨0,by
 have hl:=qg h;have h1:=qcA s;have h2:=qjP s;unfold qDw z33;rw [show qiw s=true from h,show qrt (z51 s).1.1=true from qo (by omega),show qyq (z51 s).1.2.2.1=true from qo (by omega),show qys (z51 s).1.2.2.1=true from qo (by omega)];have hb:((z51 s).2 != 0) = !((z51 s).2==0):=rfl;rw [hb];cases ((z51 s).2==0) <;> cases ((z51 s).1.2.1==1) <;> cases ((z53 (z51 s).1.1).2==0) <;> rfl⟩
theorem qAI:∀ (bufLen0:Int),∃ n,qBu n bufLen0=qwo (z152 bufLen0):=fun _=>⟨0,rfl⟩
theorem qoI (c:Nat) (h:128≤c):2≤(Utf8.encode (c:Int)).size∧(c < 2048→(Utf8.encode (c:Int)).size≤2)∧(c < 65536→(Utf8.encode (c:Int)).size≤3)∧(Utf8.encode (c:Int)).size≤4:=by
 by_cases hv:Utf8.valid (c:Int)=true
 ·have hc:(c:Int).toNat=c:=by omega
  unfold Utf8.encode;simp only [hv,if_true,hc];rw [if_neg (by omega)];split
  ·refine ⟨?_,?_,?_,?_⟩ <;> simp [ByteArray.size]
  ·split
   ·refine ⟨?_,?_,?_,?_⟩ <;> simp [ByteArray.size] <;> omega
   ·refine ⟨?_,?_,?_,?_⟩ <;> simp [ByteArray.size] <;> omega
 ·have hn:2048≤c:=by
   rcases Nat.lt_or_ge c 2048 with h2 | h2
   ·exact absurd (by unfold Utf8.valid; simp; omega) hv
   ·exact h2
  have hv':Utf8.valid (c:Int)=false:=by simpa using hv
  have he:Utf8.encode (c:Int)=⟨#[239,191,189]⟩:=by
   unfold Utf8.encode;simp only [hv',yq,if_false];decide
  rw [he];refine ⟨?_,?_,?_,?_⟩ <;> simp [ByteArray.size] <;> omega
theorem qqH (c:Nat) (h:128≤c):∃ e r,(Utf8.encode (c:Int)).data.toList=e :: r∧128≤e.toNat:=by
 unfold Utf8.encode;generalize hg:(if Utf8.valid (c:Int)=true then (c:Int).toNat else Utf8.runeError)=x;have hx:128≤x∧x≤1114111:=by
  split at hg
  ·rename_i hv;unfold Utf8.valid at hv;simp only [Bool.or_eq_true,yf,ym] at hv;omega
  ·unfold Utf8.runeError at hg; omega
 simp only [if_neg (show ¬ x < 128 by omega)];split
 ·exact ⟨_,_,rfl,by simp; omega⟩
 ·split
  ·exact ⟨_,_,rfl,by simp; omega⟩
  ·exact ⟨_,_,rfl,by simp; omega⟩
theorem qAJ (p:List UInt8) (hp:0 < p.length) (h0:128≤(p.getD 0 0).toNat):128≤(Lib.decodeL p).1∧1≤(Lib.decodeL p).2∧(Lib.decodeL p).2≤p.length∧(∀ j,j < (Lib.decodeL p).2→128≤(p.getD j 0).toNat) ∧
 ((Lib.decodeL p).1≠65533→2≤(Utf8.encode ((Lib.decodeL p).1:Int)).size∧(Utf8.encode ((Lib.decodeL p).1:Int)).size≤(Lib.decodeL p).2):=by
 rw [Lib.decodeL_N];have b0:=qfJ (p.getD 0 0);have b1:=qfJ (p.getD 1 0);have b2:=qfJ (p.getD 2 0);have b3:=qfJ (p.getD 3 0);rcases Lib.decodeN_shape p.length (p.getD 0 0).toNat (p.getD 1 0).toNat (p.getD 2 0).toNat (p.getD 3 0).toNat with ⟨h,_⟩ | ⟨h1,h2,h3,h4,e⟩ | ⟨h1,h2,h3,h4,h5,_,e⟩ | ⟨h1,h2,h3,h4,h5,h6,h7,e⟩ | e
 ·omega
 ·rw [e];dsimp only;have hs:=qoI _ h4;refine ⟨h4,by omega,by omega,fun j hj=>?_,fun _=>⟨hs.1,hs.2.1 (by omega)⟩⟩;match j,hj with
  | 0,_=>exact h0
  | 1,_=>omega
  | n+2,hj=>omega
 ·rw [e];dsimp only;have hs:=qoI (((p.getD 0 0).toNat % 16)*4096+(p.getD 1 0).toNat % 64*64+(p.getD 2 0).toNat % 64) (by omega);refine ⟨by omega,by omega,by omega,fun j hj=>?_,fun _=>⟨hs.1,hs.2.2.1 (by omega)⟩⟩;match j,hj with
  | 0,_=>exact h0
  | 1,_=>omega
  | 2,_=>omega
  | n+3,hj=>omega
 ·rw [e];dsimp only;have hs:=qoI (((p.getD 0 0).toNat % 8)*262144+(p.getD 1 0).toNat % 64*4096+(p.getD 2 0).toNat % 64*64+(p.getD 3 0).toNat % 64) (by omega);refine ⟨by omega,by omega,by omega,fun j hj=>?_,fun _=>⟨hs.1,hs.2.2.2⟩⟩;match j,hj with
  | 0,_=>exact h0
  | 1,_=>omega
  | 2,_=>omega
  | 3,_=>omega
  | n+4,hj=>omega
 ·rw [e];dsimp only;refine ⟨by omega,by omega,by omega,fun j hj=>?_,fun h=>absurd rfl h⟩;match j,hj with
  | 0,_=>exact h0
  | n+1,hj=>omega
theorem qii {cs:List UInt8} (ha:ascii cs=true) {i:Nat} (hi:i < cs.length):(cs.getD i 0).toNat < 128:=by
 unfold ascii at ha;rw [List.all_eq_true] at ha;have:=ha (cs.getD i 0) (by simp [List.getD,hi]);simp only [ym] at this;exact this
theorem qqI {cs:List UInt8} (ha:ascii cs=true) {x:UInt8} (hx:128≤x.toNat):cs.contains x=false:=by
 cases h:cs.contains x with
 | false=>rfl
 | true =>
  unfold ascii at ha;rw [List.all_eq_true] at ha;have:=ha x (by simpa using h);simp only [ym] at this;have:x.toNat < 128:=this;omega
theorem qmH {cs:List UInt8} (ha:ascii cs=true) {i:Nat} (hi:i < cs.length):decL cs i=(((cs.getD i 0).toNat:Int),1):=by
 unfold decL;rw [Lib.decode_N];rw [Lib.decodeN_ascii _ _ _ _ _ (by simpa using qii ha hi)]
theorem qoJ {cs:List UInt8} (ha:ascii cs=true) (c:Nat) (hc:128≤c):Lib.index cs (Utf8.encode (c:Int)).data.toList = -1:=by
 obtain ⟨e,r,he,h1⟩:=qqH c hc;rw [he];refine Lib.index_none fun j _=>?_;unfold Lib.occAt;cases hd:cs.drop j with
 | nil=>rfl
 | cons x t =>
  have hj:j < cs.length:=by
   rcases Nat.lt_or_ge j cs.length with h | h
   ·exact h
   ·rw [yA h] at hd; cases hd
  have hx:x=cs.getD j 0:=by
   rw [qax (d:=0) hj] at hd;exact (List.cons.inj hd).1.symm
  have:=qii ha hj;rw [← hx] at this;have hne:(e==x)=false:=by
   rw [yB];rintro rfl;omega
  simp [List.isPrefixOf,hne]
theorem qst {cs:List UInt8} (ha:ascii cs=true) (hn:cs≠[]) (c:Nat) (hc:128≤c):(cs==(Utf8.encode (c:Int)).data.toList)=false:=by
 obtain ⟨e,r,he,h1⟩:=qqH c hc;rw [he,yB];rintro rfl;have:=qii ha (i:=0) (by simp);simp at this;omega
theorem qxl (cs:List UInt8):∀ (w:Nat) (p:List UInt8) (i:Int),w≤p.length→(∀ j,j < w→cs.contains (p.getD j 0)=false)→anyAt cs p i=anyAt cs (p.drop w) (i+w)
 | 0,p,i,_,_=>by simp
 | w+1,[],i,h,_=>by simp at h
 | w+1,x :: p,i,h,hc=>by
  have h0:=hc 0 (by omega);simp only [List.getD_cons_zero] at h0;have ih:=qxl cs w p (i+1) (by simpa using h) (fun j hj=>by have:=hc (j+1) (by omega); simpa using this);show (bif cs.contains x then i else anyAt cs p (i+1))=anyAt cs (p.drop w) (i+((w+1:Nat):Int));rw [h0,yd,ih];congr 1;omega
variable (m0:Int)
theorem qIg (ret:Int→Option AV) (k0:Option AV) (cs:List UInt8) (ha:ascii cs=true):∀ (d i n:Nat),i+d=cs.length→d < n→qeK m0 ret k0 n cs i=k0
 | d,i,0,hi,hn=>by omega
 | 0,i,n+1,hi,hn=>by
  show qdu m0 ret k0 (qeK m0 ret k0 n) n cs i=_;unfold qdu;rw [yx (by omega)];rfl
 | d+1,i,n+1,hi,hn=>by
  show qdu m0 ret k0 (qeK m0 ret k0 n) n cs i=_;unfold qdu;have hlt:i < cs.length:=by omega
  have hx:=qii ha hlt;rw [yo hlt,qmH ha hlt,yc,yc,yc,show ((((cs.getD i 0).toNat:Nat):Int)==65533)=false by rw [yB]; omega,yd];exact qIg ret k0 cs ha d (i+1) n (by omega) (by omega)
theorem qBI (ret:Int→Option AV) (k6:List UInt8→List UInt8→Int→Int→Option AV) (s cs:List UInt8) (w at1 r:Int) (hr:128≤r) (ha:ascii cs=true):∀ (d i n:Nat),i+d=cs.length→d < n→qbu m0 ret k6 n s cs w at1 r cs i=k6 s cs w at1
 | d,i,0,hi,hn=>by omega
 | 0,i,n+1,hi,hn=>by
  show qbZ m0 ret k6 (qbu m0 ret k6 n) n s cs w at1 r cs i=_;unfold qbZ;rw [yx (by omega)];rfl
 | d+1,i,n+1,hi,hn=>by
  show qbZ m0 ret k6 (qbu m0 ret k6 n) n s cs w at1 r cs i=_;unfold qbZ;have hlt:i < cs.length:=by omega
  have hx:=qii ha hlt;rw [yo hlt,qmH ha hlt,yc,yc,yc,show (r==(((cs.getD i 0).toNat:Nat):Int))=false by rw [yB]; omega,yd];exact qBI ret k6 s cs w at1 r hr ha d (i+1) n (by omega) (by omega)
theorem qBJ (ret:Int→Option AV) (k2:Option AV) (hk:k2=ret (-1)) (s cs:List UInt8) (hl:s.length≤1048576):∀ (d i n:Nat),i+d=s.length→d < n →
 qct m0 ret k2 n (setOf cs (List.replicate 256 false)) s (s.length:Nat) (i:Nat)=ret (anyAt cs (s.drop i) i)
 | d,i,0,hi,hn=>by omega
 | 0,i,n+1,hi,hn=>by
  show qbY m0 ret k2 (qct m0 ret k2 n) n _ s _ _=_;unfold qbY;rw [yx (by omega),yd,yA (by omega),hk];rfl
 | d+1,i,n+1,hi,hn=>by
  show qbY m0 ret k2 (qct m0 ret k2 n) n _ s _ _=_;unfold qbY z153;have hlt:i < s.length:=by omega
  rw [qqU,yo hlt,yc,qaK,y5,yc,qba,qwT _ _ _ List.length_replicate,qz (by omega),qBJ ret k2 hk s cs hl d (i+1) n (by omega) (by omega),qax (d:=0) hlt];have:(List.replicate 256 false).getD (s.getD i 0).toNat false=false:=by rw [yY,List.getElem?_replicate]; split <;> rfl
  rw [this,Bool.or_false];show _=ret (bif cs.contains (s.getD i 0) then (i:Int) else anyAt cs (s.drop (i+1)) (i+1));cases cs.contains (s.getD i 0) <;> rfl
set_option maxRecDepth 100000 in
theorem qxm (ret:Int→Option AV) (k4:Option AV) (hk:k4=ret (-1)) (s cs:List UInt8) (hl:s.length≤1048576) (ha:ascii cs=true) (hc2:2≤cs.length) (hcl:cs.length≤1048576) (d i n:Nat) (hi:i+d=s.length) (hn:d+cs.length+1 < n) :
 qbv m0 ret k4 n s cs (i:Nat)=ret (anyAt cs (s.drop i) i):=by
 obtain ⟨n,rfl⟩:∃ n',n=n'+1:=⟨n - 1,by omega⟩;show qcX m0 ret k4 (qbv m0 ret k4 n) n s cs (i:Nat)=_;unfold qcX qx;match d,hi,hn with
 | 0,hi,hn =>
  rw [yx (by omega),yd,yA (by omega),hk];rfl
 | d+1,hi,hn =>
  have hlt:i < s.length:=by omega
  have hb:=qfJ (s.getD i 0);rw [qqU,yo hlt,yc,qaK,y5,yc,yc,qba,qba,List.take_length,IntWalk.i32_in _ (by omega)]
  by_cases h128:(s.getD i 0).toNat < 128
  ·rw [yo (show (((s.getD i 0).toNat:Nat):Int) < 128 by omega),yc,qz (by omega),qxm ret k4 hk s cs hl ha hc2 hcl d (i+1) n (by omega) (by omega),qax (d:=0) hlt];show (bif decide ((0:Int)≤Lib.indexByte cs (s.getD i 0)) then ret i else ret (anyAt cs (s.drop (i+1)) ((i+1:Nat):Int)))=ret (bif cs.contains (s.getD i 0) then (i:Int) else anyAt cs (s.drop (i+1)) (i+1));rw [← Lib.contains_iff_indexByte];cases cs.contains (s.getD i 0) <;> rfl
  ·rw [yx (show ¬ (((s.getD i 0).toNat:Nat):Int) < 128 by omega),yd,yo (show (i:Int)≤((s.length:Nat):Int) by omega),yo (Int.le_refl _)];have hp:0 < (s.drop i).length:=by rw [yK]; omega
   have h0:128≤((s.drop i).getD 0 0).toNat:=by
    rw [qax (d:=0) hlt];simp only [List.getD_cons_zero];omega
   obtain ⟨f1,f2,f3,f4,f5⟩:=qAJ (s.drop i) hp h0;rw [show qmO (s.drop i)=true by unfold qmO; exact yo hp];have hd1:(z154 (s.drop i)).1=((Lib.decodeL (s.drop i)).1:Int):=rfl;have hd2:(z154 (s.drop i)).2=((Lib.decodeL (s.drop i)).2:Int):=rfl;rw [hd1,hd2];obtain ⟨r,hr⟩:∃ r,(Lib.decodeL (s.drop i)).1=r:=⟨_,rfl⟩;obtain ⟨w,hw⟩:∃ w,(Lib.decodeL (s.drop i)).2=w:=⟨_,rfl⟩;rw [hr] at f1 f5;rw [hw] at f2 f3 f4 f5;rw [hr,hw];rw [yK] at f3;have hnext:qbv m0 ret k4 n s cs (IntKind.wrap .i64 ((i:Int)+(w:Int)))=ret (anyAt cs (s.drop i) i):=by
    rw [IntWalk.i64_in _ (by omega),show (i:Int)+(w:Int)=((i+w:Nat):Int) by omega,qxm ret k4 hk s cs hl ha hc2 hcl (d+1 - w) (i+w) n (by omega) (by omega),
     qxl cs w (s.drop i) i (by rw [yK]; exact f3) (fun j hj=>qqI ha (f4 j hj)),List.drop_drop]
    congr 2
   have h48:qbu m0 ret (qca m0 ret k4 (qbv m0 ret k4 n) n) n s cs (w:Int) (i:Int) (r:Int) cs 0=ret (anyAt cs (s.drop i) i):=by
    rw [qBI m0 ret _ s cs w i r (by omega) ha cs.length 0 n (by omega) (by omega)];exact hnext
   simp only [Bool.and_self,yc]
   by_cases hre:r=65533
   ·rw [show ((r:Int) != 65533)=false by simp only [bne_eq_false_iff_eq]; omega,yd,h48]
   ·obtain ⟨e1,e2⟩:=f5 hre;rw [show ((r:Int) != 65533)=true by simp only [bne_iff_ne,ne_eq]; omega,yc,qst ha (by rintro rfl; simp at hc2) r f1,yd,hnext];cases ((cs.length:Int)==(w:Int)) with
    | true=>rfl
    | false =>
     rw [yd]
     by_cases hm:(w:Int)≤m0
     ·have hok:qmN m0 cs (Utf8.encode (r:Int)).data.toList=true:=by
       unfold qmN;rw [← Lib.size_eq];simp only [yf,ym];omega
      rw [yo hm,hok];unfold z155;rw [qoJ ha r f1];rfl
     ·rw [yx hm,yd,h48]
 termination_by d
 decreasing_by all_goals omega
set_option maxRecDepth 100000 in
theorem qAK:∀ (s0:List UInt8) (chars1:List UInt8),(qje s0 chars1=true)→∃ n,qqp m0 n s0 chars1=qI (z128 s0 chars1):=fun s cs h=>⟨s.length+cs.length+2,by
 unfold qje at h;simp only [yf,ym] at h;obtain ⟨⟨hc2,ha,hcl⟩,hl⟩:=h;have hcl':=qg hcl;have hl':=qg hl;unfold qqp qcY z128;rw [show (cs==[])=false by cases cs with | nil=>simp at hc2 | cons c r=>rfl,yd];have hcne:(((cs.length:Nat):Int)==1)=false:=by rw [yB]; omega
 by_cases h1:s.length=1
 ·rw [show (((s.length:Nat):Int)==1)=true by rw [beq_iff_eq]; omega,yc];obtain ⟨x,rfl⟩:=List.length_eq_one_iff.1 h1;have hx:=qfJ x;show (bif decide ((128:Int)≤IntKind.wrap .i32 ((x.toNat:Nat):Int)) then _ else _)=_;rw [IntWalk.i32_in _ (by omega)]
  by_cases h128:x.toNat < 128
  ·rw [yx (show ¬ (128:Int)≤((x.toNat:Nat):Int) by omega),yd];show (bif decide ((0:Int)≤Lib.indexByte cs x) then qI 0 else qI (-1))=qI (bif cs.contains x then 0 else -1);rw [← Lib.contains_iff_indexByte];cases cs.contains x <;> rfl
  ·rw [yo (show (128:Int)≤((x.toNat:Nat):Int) by omega),yc,qIg m0 _ _ cs ha cs.length 0 _ (by omega) (by omega)];show qI (-1)=qI (bif cs.contains x then 0 else -1);rw [qqI ha (by omega)];rfl
 ·rw [show (((s.length:Nat):Int)==1)=false by rw [yB]; omega,yd,hcne,yd];have h32:=qxm m0 qI (qcb m0 (s.length+cs.length+2)) rfl s cs hl' ha hc2 hcl' s.length 0 (s.length+cs.length+2) (by omega) (by omega);have h24:=qBJ m0 qI (qcW m0 (s.length+cs.length+2)) rfl s cs hl' s.length 0 (s.length+cs.length+2) (by omega) (by omega);rw [show qbM cs=true by unfold qbM; rw [ha,hcl]; rfl];cases z152 ((s.length:Nat):Int) with
  | true=>exact h24
  | false =>
   rw [yd];exact h32⟩
theorem qAL:∀ (s0:List UInt8) (cutset1:List UInt8),(qmI s0 cutset1=true)→∃ n,qwn n s0 cutset1=qcV (z127 s0 cutset1):=fun s cs h=>⟨0,by
 unfold qmI at h;simp only [yf,ym] at h;obtain ⟨h1,h2,h3,h4⟩:=h;have hls:=qg h1;unfold qwn;cases s with
 | nil=>rfl
 | cons x r =>
  have hcs:(cs==([]:List UInt8))=false:=by cases cs with
   | nil=>simp at h2
   | cons a b=>rfl
  have hlen:(x :: r).length=r.length+1:=rfl;have hm:qbM cs=true:=by unfold qbM; rw [h3,h4]; rfl
  have e:z148 (x :: r) (z147 cs).1=z127 (x :: r) cs:=by
   unfold z148 z127;have e:(fun c=>z153 (z147 cs).1 c)=fun c=>cs.contains c:=funext fun c=>qie cs c;rw [e]
  rw [bneI (by omega),hcs,bneI (by omega),hm,show (z147 cs).2=true from rfl,show qfO (x :: r) (z147 cs).1=true from h1,e];rfl⟩
theorem qfK (c:UInt8):([32,9,13,10]:List UInt8).contains c=gapB c:=by
 unfold gapB;simp only [List.contains_cons,List.contains_nil,Bool.or_false]
theorem qxn:(fun c=>([32,9,13,10]:List UInt8).contains c)=gapB:=funext qfK
theorem qAM (p:UInt8→Bool):∀ l:List UInt8,l.dropWhile p=[]↔∀ x∈l,p x=true
 | []=>by simp
 | c :: l=>by
  rw [List.dropWhile_cons];cases hc:p c with
  | true =>
   rw [if_pos rfl,qAM p l];constructor
   ·intro h x hx;rcases List.mem_cons.1 hx with rfl | hx
    ·exact hc
    ·exact h x hx
   ·intro h x hx;exact h x (List.mem_cons_of_mem _ hx)
  | false =>
   rw [if_neg (by simp)];constructor
   ·intro h;cases h
   ·intro h;have:=h c (List.mem_cons_self ..);rw [hc] at this;cases this
theorem qfL (p:UInt8→Bool):∀ l:List UInt8,(∀ x∈l.dropWhile p,p x=true)→l.dropWhile p=[]
 | [],_=>rfl
 | c :: l,h=>by
  rw [List.dropWhile_cons] at h ⊢;cases hc:p c with
  | true =>
   rw [hc,if_pos rfl] at h;rw [if_pos rfl];exact qfL p l h
  | false =>
   rw [hc,if_neg (by simp)] at h;have:=h c (List.mem_cons_self ..);rw [hc] at this;cases this
theorem qEt (p:UInt8→Bool) (s:List UInt8):(qmR p s=[])↔s.all p=true:=by
 rw [List.all_eq_true];unfold qmR dropR;constructor
 ·intro h x hx;rw [qAM] at h;have h2:=qfL p s.reverse (fun y hy=>h y (List.mem_reverse.2 hy));rw [qAM] at h2;exact h2 x (List.mem_reverse.2 hx)
 ·intro h;rw [(qAM p _).2 (fun x hx=>h x (List.mem_reverse.1 hx))];rfl
theorem qBK (s:List UInt8) (h:lenOk s=true):qeR s [32,9,13,10]=true:=by
 unfold qeR;rw [h];rfl
theorem qAN:∀ (run0:List UInt8),(qqL run0=true)→∃ n,qws n run0=qfq (z101 run0):=fun s h=>⟨0,by
 unfold qws z101 kindB;rw [qBK s h,show qmK s=true from h,show z129 s [32,9,13,10]=qmR gapB s by unfold z129; rw [qxn]];cases s with
 | nil=>cases z130 [] <;> rfl
 | cons x r =>
  rw [dT (show (0:Int) < (((x :: r).length:Nat):Int) by simp only [yg]; omega)];have:=qEt gapB (x :: r);cases ha:(x :: r).all gapB with
  | true =>
   rw [this.2 ha];rfl
  | false =>
   have hne:(qmR gapB (x :: r)).length≠0:=fun e=>by
    rw [this.1 (yF e)] at ha;cases ha
   rw [bneI (by omega)];cases z130 (x :: r) <;> rfl⟩
theorem qfM (p:UInt8→Bool) (s:List UInt8):(s.takeWhile p).length+(s.dropWhile p).length=s.length:=by
 have:=congrArg List.length (List.takeWhile_append_dropWhile (p:=p) (l:=s));rw [yn] at this;exact this
theorem qEu:∀ (s0:List UInt8),(qAR s0=true)→∃ n,qDy n s0=qBt (z99 s0):=fun s h=>⟨0,by
 have hl:=qg h;have:=qfM gapB s;unfold qDy;rw [show qmI s [32,9,13,10]=true from qBK s h,show z127 s [32,9,13,10]=s.dropWhile gapB by unfold z127; rw [qxn]];rw [wr (by omega)];unfold z99;rw [show (((s.length:Nat):Int) - (((s.dropWhile gapB).length:Nat):Int))=(((s.takeWhile gapB).length:Nat):Int) by omega];rfl⟩
theorem qBL:∀ (s:List UInt8) (i:Int),0≤i→(anyAt [32,9,13,10] s i = -1∧s.takeWhile (fun c => !(gapB c))=s)∨anyAt [32,9,13,10] s i=i+((s.takeWhile fun c => !(gapB c)).length:Nat)
 | [],i,_=>.inl ⟨rfl,rfl⟩
 | x :: r,i,hi=>by
  have e:anyAt [32,9,13,10] (x :: r) i=bif ([32,9,13,10]:List UInt8).contains x then i else anyAt [32,9,13,10] r (i+1):=rfl
  rw [e,qfK,List.takeWhile_cons];cases gapB x with
  | true=>exact .inr (by simp)
  | false =>
   rcases qBL r (i+1) (by omega) with ⟨h1,h2⟩ | h1
   ·exact .inl ⟨h1,by simpa using h2⟩
   ·refine .inr ?_;rw [yd,h1];simp;omega
theorem qAO:∀ (s0:List UInt8),(qqM s0=true)→∃ n,qwp n s0=qov (z100 s0):=fun s h=>⟨0,by
 unfold qwp;have hok:qje s [32,9,13,10]=true:=by
  unfold qje;rw [show lenOk s=true from h];rfl
 rw [hok];unfold z128 z100;rcases qBL s 0 (Int.le_refl _) with ⟨h1,h2⟩ | h1
 ·rw [h1,h2];rfl
 ·rw [h1,dF (by omega),Int.zero_add];rfl⟩
theorem qEv:∀ (s:List UInt8),s≠[]→(bif decide (z100 s > z99 s) then z100 s else z99 s)=((alike s:Nat):Int)
 | [],h=>absurd rfl h
 | c :: r,_=>by
  unfold z100 z99;show _=(((r.takeWhile fun x=>gapB x==gapB c).length+1:Nat):Int);rw [List.takeWhile_cons,List.takeWhile_cons];cases hc:gapB c with
  | true =>
   have e:(fun x=>gapB x==true)=gapB:=funext fun x=>by cases gapB x <;> rfl
   rw [e];simp only [Bool.not_true,yq,if_false,if_true,List.length_nil,yg];rw [dF (by omega)];rfl
  | false =>
   have e:(fun x=>gapB x==false)=fun x => !(gapB x):=funext fun x=>by cases gapB x <;> rfl
   rw [e];simp only [Bool.not_false,yq,if_false,if_true,List.length_nil,yg];rw [dT (by omega)];rfl
theorem qEw (s:List UInt8):alike s≤s.length:=by
 cases s with
 | nil=>exact yv _
 | cons c r =>
  unfold alike;have:=qfM (fun x=>gapB x==gapB c) r;simp only [yg];omega
theorem qAP {s:List UInt8} (h:s≠[]):1≤alike s:=by
 cases s with
 | nil=>exact absurd rfl h
 | cons c r=>exact Nat.le_add_left _ _
theorem qij (f:Nat) {s:List UInt8} (h:s≠[]):qbz (f+1) s=(kindB (s.take (alike s)),(s.take (alike s),())) :: qbz f (s.drop (alike s)):=by
 show (if s=[] then [] else _)=_;rw [if_neg h]
theorem qsu:∀ f:Nat,qbz f []=[]
 | 0=>rfl
 | _+1=>rfl
theorem qiZ (k0:List qF→Option AV):∀ (f:Nat) (s:List UInt8) (l:List qF) (n:Nat),s.length≤f→f < n→l.length+s.length≤1048576 →
 qkX k0 n s l=k0 (l++qbz f s)
 | f,s,l,0,_,hn,_=>by omega
 | f,[],l,n+1,hs,hn,hl=>by
  show qfr k0 (qkX k0 n) n _ _=_;unfold qfr qdw qdv qbh qar;rw [qsu,yG];rfl
 | 0,c :: r,l,n+1,hs,hn,hl=>by simp at hs
 | f+1,c :: r,l,n+1,hs,hn,hl=>by
  show qfr k0 (qkX k0 n) n _ _=_;unfold qfr qdw qdv qbh qar;rw [qEv (c :: r) (by simp),qij f (by simp:(c :: r)≠[])];have h1:=qAP (by simp:(c :: r)≠[]);have h2:=qEw (c :: r);generalize hcr:c :: r=s at *
  have hsl:0 < s.length:=by rw [← hcr]; simp
  have okl:qAR s=true:=qo (by omega);have okr:qqM s=true:=qo (by omega);have htl:(s.take (alike s)).length≤1048576:=by rw [yz]; omega
  have okk:qqL (s.take (alike s))=true:=qo htl;have okc:qga (s.take (alike s))=true:=qo htl;have hts:s.take s.length=s:=List.take_length;have ih:=qiZ k0 f (s.drop (alike s)) (l++[(kindB (s.take (alike s)),(s.take (alike s),()))]) n (by simp; omega) (by omega) (by simp; omega);have hr:decide (l.length+([(kindB (s.take (alike s)),(s.take (alike s),()))]:List qF).length≤room)=true:=dT (by unfold room; simp; omega);simp (disch:=omega) only [dT,yc,yi,tn,okl,okr,yw,okk,okc,hts,show z101 (s.take (alike s))=kindB (s.take (alike s)) from rfl,show z83 (s.take (alike s))=s.take (alike s) from rfl,hr,qaj];rw [ih,yl];rfl
theorem qEx:∀ (s0:List UInt8),(qAS s0=true)→∃ n,qzI n s0=qBv (z59 s0):=fun s h=>⟨s.length+1,by
 have hl:=qg h;unfold qzI;exact qiZ (qhO (s.length+1)) s.length s [] (s.length+1) (yv _) (by omega) (by simpa using hl)⟩
abbrev d0:qF:=((0:Int),(([]:List UInt8),()))
theorem qIh {α:Type} (pre r:List α) (x y:α):List.set (pre++x :: r) pre.length y=(pre++[y])++r:=by
 rw [List.set_append_right _ _ (yv _),Nat.sub_self,yl];rfl
theorem qja (k0:List Bool→Option AV) (l:List qF) (hl:l.length≤1048576):∀ (d i n:Nat) (pre:List Bool),i+d=l.length→pre.length=i→d < n →
 qiv k0 n l (pre++List.replicate d false) l (l.length:Nat) (i:Nat)=k0 (pre++hidF l d i)
 | d,i,0,pre,hi,hp,hn=>by omega
 | 0,i,n+1,pre,hi,hp,hn=>by
  show qfs k0 (qiv k0 n) n _ _ _ _ _=_;unfold qfs;rw [dF (by omega),yd];rfl
 | d+1,i,n+1,pre,hi,hp,hn=>by
  show qfs k0 (qiv k0 n) n _ _ _ _ _=_;unfold qfs;have ih:=qja k0 l hl d (i+1) n (pre++[qaR l i]) (by omega) (by simp; omega) (by omega);have e:(pre++[qaR l i])++hidF l d (i+1)=pre++hidF l (d+1) i:=by rw [yl]; rfl
  rw [e] at ih;have hlen:(pre++List.replicate (d+1) false).length=i+(d+1):=by simp [hp]
  have hset:∀ y,List.set (pre++List.replicate (d+1) false) i y=(pre++[y])++List.replicate d false:=fun y=>by
   rw [← hp];exact qIh pre (List.replicate d false) false y
  have hsame:pre++List.replicate (d+1) false=(pre++[false])++List.replicate d false:=by rw [yl]; rfl
  have hfal:qaR l i=false→qiv k0 n l (pre++List.replicate (d+1) false) l (l.length:Nat) ((i+1:Nat):Int)=k0 (pre++hidF l (d+1) i):=fun hf=>by
   rw [hf] at ih;rw [hsame];exact ih
  have hb:qaR l i=((List.getD l i d0).1==1&&(decide (0 < i)&&(decide (i+1 < l.length)&&((List.getD l (i - 1) d0).1==3&&(List.getD l (i+1) d0).1==3)))):=rfl;rw [hlen,qz (by omega)];simp (disch:=omega) only [dT,yc,yi,tn]
  by_cases h0:0 < i
  ·have hw:IntKind.wrap .i64 ((i:Int) - 1)=((i - 1:Nat):Int):=by rw [wr (by omega)]; omega
   rw [dT (show (0:Int) < (i:Int) by omega),yc]
   by_cases h1:i+1 < l.length
   ·rw [dT (show ((i+1:Nat):Int) < ((l.length:Nat):Int) by omega),yc,hw];rw [yo h0,yo h1,y5,y5] at hb;simp (disch:=omega) only [dT,yc,yi,tn];cases ha:((List.getD l i d0).1==1) with
    | false =>
     rw [ha,Bool.false_and] at hb;rw [yd];exact hfal hb
    | true =>
     rw [ha,y5] at hb;rw [yc];cases hc:((List.getD l (i - 1) d0).1==3) with
     | false =>
      rw [hc,Bool.false_and] at hb;rw [hb] at ih;rw [yd,hset];exact ih
     | true =>
      rw [hc,y5] at hb;rw [yc,hset,← hb];exact ih
   ·rw [dF (show ¬ ((i+1:Nat):Int) < ((l.length:Nat):Int) by omega),yd];exact hfal (by rw [hb,yx h1]; simp)
  ·rw [dF (show ¬ (0:Int) < (i:Int) by omega),yd];exact hfal (by rw [hb,yx h0]; simp)
theorem qEy:∀ (l0:List qF),(qAT l0=true)→∃ n,qzJ n l0=qBw (z60 l0):=fun l h=>⟨l.length+1,by
 have hl:=qg h;unfold qzJ;have hr:((l.length:Nat):Int)≤(room:Int):=by unfold room; omega
 simp (disch:=omega) only [dT,yc,yi,tn];exact qja (qhP (l.length+1)) l hl l.length 0 (l.length+1) [] (by omega) rfl (by omega)⟩
theorem qoK (l:List qF):∀ d i:Nat,(hidF l d i).length=d
 | 0,_=>rfl
 | d+1,i=>by
  show (qaR l i :: hidF l d (i+1)).length=_;rw [yg,qoK l d (i+1)]
theorem qqJ (l:List qF):∀ d i k:Nat,k < d→List.getD (hidF l d i) k false=qaR l (i+k)
 | 0,_,_,h=>by omega
 | d+1,i,0,_=>rfl
 | d+1,i,k+1,h=>by
  show List.getD (hidF l d (i+1)) k false=_;rw [qqJ l d (i+1) k (by omega)];congr 1;omega
theorem qik (k0:List qF→Option AV) (l:List qF) (hl:l.length≤1048576):∀ (d i n:Nat) (out:List qF),i+d=l.length→d < n→out.length+d≤1048576 →
 qkY k0 n out l (hidF l l.length 0) (l.length:Nat) (i:Nat)=k0 (out++showF l d i)
 | d,i,0,out,hi,hn,hb=>by omega
 | 0,i,n+1,out,hi,hn,hb=>by
  show qft k0 (qkY k0 n) n _ _ _ _ _=_;unfold qft;rw [dF (by omega),yd];show k0 out=k0 (out++[]);rw [yG]
 | d+1,i,n+1,out,hi,hn,hb=>by
  show qft k0 (qkY k0 n) n _ _ _ _ _=_;unfold qft;have h1:=qik k0 l hl d (i+1) n out (by omega) (by omega) (by omega);have h2:=qik k0 l hl d (i+1) n (out++[l.getD i d0]) (by omega) (by omega) (by simp; omega);have hr:decide (out.length+([l.getD i d0]:List qF).length≤room)=true:=dT (by unfold room; simp; omega);rw [qoK,tn,qqJ l l.length 0 i (by omega),yE,qz (by omega)];have e:showF l (d+1) i=bif qaR l i then showF l d (i+1) else l.getD i d0 :: showF l d (i+1):=rfl
  rw [e];simp (disch:=omega) only [dT,yc,yi];cases qaR l i with
  | true=>exact h1
  | false =>
   rw [Bool.not_false,yc,hr,yc,yd,h2,yl];rfl
theorem qjb:∀ (f:Nat) (s:List UInt8),(qbz f s).length≤f
 | 0,_=>yv _
 | f+1,s=>by
  by_cases h:s=[]
  ·subst h;exact Nat.zero_le _
  ·rw [qij f h,yg];have:=qjb f (s.drop (alike s));omega
theorem qxo (s:List UInt8):(qcB s).length≤s.length:=qjb _ _
theorem qEz:∀ (s0:List UInt8),(qix s0=true)→∃ n,qzK n s0=qBx (z37 s0):=fun s h=>⟨s.length+1,by
 have hl:=qg h;have hp:=qxo s;unfold qzK;have ok2:qAT (qcB s)=true:=qo (by omega);rw [show qAS s=true from h,show z59 s=qcB s from rfl,ok2,show z60 (qcB s)=hidF (qcB s) (qcB s).length 0 from rfl,qoK];exact qik (qhQ (s.length+1)) (qcB s) (by omega) (qcB s).length 0 (s.length+1) [] (by omega) (by omega) (by simp; omega)⟩
theorem qEA:∀ (s0:List UInt8) (sep1:List UInt8),(qsB s0 sep1=true)→∃ n,qDF n s0 sep1=qwN (z35 s0 sep1).1 (z35 s0 sep1).2.1 (z35 s0 sep1).2.2:=fun s sep h=>⟨0,by
 have h0:=h;unfold qsB at h;rw [yf] at h;have hl:=qg h.1;have hl2:=qg (yf _ _ ▸ h.2).1;unfold qDF z35 z57;rw [show qmP s sep=true from h0]
 by_cases h1:0≤Lib.index s sep
 ·have hr:=Lib.index_room s sep h1;have e:IntKind.wrap .i64 (Lib.index s sep+((sep.length:Nat):Int))=Lib.index s sep+((sep.length:Nat):Int):=IntWalk.i64_in _ (by omega);rw [e,yo h1,yo (show (0:Int)≤((0:Nat):Int) by omega),yo (show ((0:Nat):Int)≤Lib.index s sep by omega),yo (show Lib.index s sep≤((s.length:Nat):Int) by omega),
   yo (show (0:Int)≤Lib.index s sep+((sep.length:Nat):Int) by omega),yo (show Lib.index s sep+((sep.length:Nat):Int)≤((s.length:Nat):Int) by omega),yo (Int.le_refl ((s.length:Nat):Int)),qba,qba,List.take_length,
   show Int.toNat (Lib.index s sep+((sep.length:Nat):Int))=(Lib.index s sep).toNat+sep.length by omega]
  rfl
 ·rw [yx h1]; rfl⟩
theorem qEB (x:UInt8) (r:List UInt8):unfS 1 (x :: r)=unf r:=by cases r <;> rfl
theorem qoL (x:UInt8) (r:List UInt8):unf (x :: r)=bif qfw (x :: r) then unf (r.drop 1) else x :: unf r:=by
 show (bif qfw (x :: r) then unfS 1 r else x :: unfS 0 r)=_;cases r with
 | nil=>rfl
 | cons y r=>rw [qEB]; rfl
theorem qIi:unf []=[]:=rfl
def tailF (rest:List UInt8):List UInt8:=match rest with
 | []=>[13,10]
 | c :: r=>bif blank c then unf (c :: r) else 13 :: 10 :: unf (c :: r)
theorem qEC (rest:List UInt8):unf (13 :: 10 :: rest)=tailF rest:=by
 have h10:∀ r,qfw (10 :: r)=false:=fun r=>by
  match r with
  | []=>rfl
  | [_]=>rfl
  | _ :: _ :: _=>rfl
 rw [qoL,qoL,h10];cases rest with
 | nil=>rfl
 | cons c r =>
  show (bif blank c then unf (c :: r) else 13 :: 10 :: unf (c :: r))=_;rfl
theorem qED (x:UInt8) (r:List UInt8):(([13,10]:List UInt8).isPrefixOf (x :: r))=true→∃ rest,x=13∧r=10 :: rest:=by
 intro h;cases r with
 | nil=>simp [List.isPrefixOf] at h
 | cons y r =>
  simp [List.isPrefixOf] at h;exact ⟨r,h.1.symm,by rw [h.2]⟩
theorem qxp (x:UInt8) (r:List UInt8) (h:qfw (x :: r)=true):(([13,10]:List UInt8).isPrefixOf (x :: r))=true:=by
 match r,h with
 | [],h=>cases h
 | [_],h=>cases h
 | b :: c :: r,h =>
  simp only [qfw,yf,beq_iff_eq] at h;rw [h.1,h.2.1];simp [List.isPrefixOf]
theorem qqK:∀ s:List UInt8,(Lib.index s [13,10] = -1∧unf s=s)∨(0≤Lib.index s [13,10]∧(Lib.index s [13,10]).toNat+2≤s.length∧unf s=s.take (Lib.index s [13,10]).toNat++tailF (s.drop ((Lib.index s [13,10]).toNat+2)))
 | []=>.inl ⟨rfl,rfl⟩
 | x :: r=>by
  have hi:Lib.index (x :: r) [13,10]=if ([13,10]:List UInt8).isPrefixOf (x :: r) then 0 else if Lib.index r [13,10] == -1 then -1 else Lib.index r [13,10]+1:=rfl
  cases hp:([13,10]:List UInt8).isPrefixOf (x :: r) with
  | true =>
   obtain ⟨rest,rfl,rfl⟩:=qED x r hp;right;rw [hi,hp];refine ⟨Int.le_refl _,by simp,?_⟩;rw [qEC];rfl
  | false =>
   have hf:qfw (x :: r)=false:=by
    cases h:qfw (x :: r) with
    | false=>rfl
    | true=>rw [qxp x r h] at hp; cases hp
   rw [hi,hp,qoL,hf];simp only [yq,if_false,yd];rcases qqK r with ⟨h1,h2⟩ | ⟨h1,h2,h3⟩
   ·left;rw [h1];exact ⟨rfl,by rw [h2]⟩
   ·right;have hne:(Lib.index r [13,10] == -1)=false:=by rw [yB]; omega
    rw [hne];simp only [yq,if_false];have e:(Lib.index r [13,10]+1).toNat=(Lib.index r [13,10]).toNat+1:=by omega
    rw [e];refine ⟨by omega,by simp; omega,?_⟩;rw [h3,List.take_succ_cons,show (Lib.index r [13,10]).toNat+1+2=((Lib.index r [13,10]).toNat+2)+1 by omega,List.drop_succ_cons];rfl
theorem qfv (ret:List UInt8→Option AV):∀ (d:Nat) (s out:List UInt8) (n:Nat),s.length≤d→d < n→out.length+s.length≤1048576→qld ret n s out=ret (out++unf s)
 | d,s,out,0,hd,hn,ho=>by omega
 | d,s,out,n+1,hd,hn,ho=>by
  show qlc ret (qld ret n) n s out=_;unfold qlc qE;have hok:qsB s [13,10]=true:=by unfold qsB; rw [yf]; exact ⟨by unfold lenOk; rw [ym]; omega,rfl⟩
  rw [hok];rcases qqK s with ⟨h1,h2⟩ | ⟨h1,h2,h3⟩
  ·have hc:z35 s [13,10]=(s,[],false):=by
    unfold z35;rw [h1];rfl
   rw [hc,h2];simp only [Bool.and_self,yc,Bool.not_false];rw [yo (by unfold room; omega)];rfl
  ·have hc:z35 s [13,10]=(s.take (Lib.index s [13,10]).toNat,s.drop ((Lib.index s [13,10]).toNat+2),true):=by
    unfold z35;rw [yo h1];rfl
   rw [hc,h3];generalize (Lib.index s [13,10]).toNat=k at h2;have hlt:(s.take k).length=k:=by rw [yz]; omega
   have hld:(s.drop (k+2)).length=s.length - (k+2):=by rw [yK]
   simp only [Bool.and_self,yc,Bool.not_true,yd];rw [yo (by unfold room; omega),yc];have ih1:=qfv ret (d - 1) (s.drop (k+2)) (out++s.take k++[13,10]) n (by omega) (by omega) (by simp only [yn,hlt,hld,yg,List.length_nil]; omega);have ih2:=qfv ret (d - 1) (s.drop (k+2)) (out++s.take k) n (by omega) (by omega) (by simp only [yn,hlt,hld]; omega);have hroom:decide ((out++s.take k).length+([13,10]:List UInt8).length≤Go.Av.room)=true:=by
    rw [ym]; unfold Go.Av.room; simp only [yn,hlt,yg,List.length_nil]; omega
   rw [hroom];cases hr:s.drop (k+2) with
   | nil =>
    rw [hr] at ih1;simp only [List.length_nil];show qld ret n [] (out++s.take k++[13,10])=_;rw [ih1,qIi];simp [tailF]
   | cons c r =>
    rw [hr] at ih1 ih2;have h0:((((c :: r).length:Nat):Int)==0)=false:=by rw [yB]; simp only [yg]; omega
    rw [h0,yo (Int.le_refl _),yo (show (0:Int) < (((c :: r).length:Nat):Int) by simp only [yg]; omega)];simp only [Bool.and_self,yc,yd,Int.toNat_zero,List.getD_cons_zero,qJU,ih1,ih2];cases hb:blank c <;> simp [tailF,hb,yl]
theorem qEE:∀ (s0:List UInt8),(qiy s0=true)→∃ n,qDG n s0=qqz (z19 s0):=fun s h=>⟨s.length+1,by
 have:=qfv qqz s.length s [] (s.length+1) (yv _) (by omega) (by have:=qg h; simp; omega);exact this⟩
end Go.Av
